/- An operation asks nothing of what it does not look at. No condition. -/
import Derived.Test.YtjkfadaedgidpaaGreatAbsD
namespace Go.Proofs.YtjkfadaedgidpaaGreat
open Go.RowKit
set_option linter.unusedVariables false
set_option linter.unusedSimpArgs false
def touches (o : Oper) : Bool :=
 match o.op with
 | .load _ _ => true
 | .store _ _ _ => true
 | .call c => match c.callee with | .value _ => true | .builtin .append => true | _ => false
 | _ => false
theorem touches_append {o : Oper} (h : isAppend o = true) : touches o = true := by
 unfold isAppend at h
 unfold touches
 split at h
 ·rename_i h1; rw [h1]
 ·cases h
theorem touches_store {o : Oper} (h : isStore o = true) : touches o = true := by
 unfold isStore at h
 unfold touches
 split at h
 ·rename_i h1; rw [h1]
 ·cases h
def Same (t : Bool) (row row' : ARow) : Prop := row'.g = row.g ∧ row'.ty = row.ty ∧ row'.sz = row.sz ∧ row'.els.length = row.els.length ∧ (t = true → row'.els = row.els)
theorem foldl_parts {β : Type} {l : List (Nat × Operand)} {f g : β → Nat × Operand → β} (h : ∀ p ∈ l, ∀ b, f b p = g b p) : ∀ b, l.foldl f b = l.foldl g b := by
 induction l with
 | nil => intro b; rfl
 | cons p l ih =>
  intro b
  simp only [List.foldl_cons]
  rw [h p (by simp) b, ih (fun q hq => h q (by simp [hq]))]
structure Fits (s s' : AS) (o : Oper) : Prop where
 at_ : ∀ x, x ∈ o.op.operands.toList → s'.at x = s.at x ∧ s'.ok x = s.ok x
 mem : ∀ x, x ∈ o.op.operands.toList → ∀ r, r ∈ (s.at x).ids → ∀ row, s.mem r = some row → ∃ row', s'.mem r = some row' ∧ Same (touches o) row row' ∧ ((isStore o = true ∨ isAppend o = true) → row' = row)
 free : ∀ r d, o.dst = some d → owner r = d → s.mem r = none → s'.mem r = none
theorem Fits.asDv {s s' : AS} {o : Oper} (h : Fits s s' o) (ht : touches o = true) {x : Operand} (hx : x ∈ o.op.operands.toList) {v : AV} (hv : ∀ r, r ∈ v.ids → r ∈ (s.at x).ids) {d : D} (hd : asD s v d) : asD s' v d := by
 have hm := h.mem x hx
 unfold Go.Proofs.YtjkfadaedgidpaaGreat.asD at *
 split at hd
 ·exact hd
 ·exact hd
 ·exact hd
 ·obtain ⟨row, ds, h1, h2, h3, h4⟩ := hd
  obtain ⟨row', k1, k2, _⟩ := hm _ (hv _ (by simp [AV.ids])) row h1
  exact ⟨row', ds, k1, by rw [k2.2.2.2.2 ht]; exact h2, h3, by rw [k2.2.2.1]; exact h4⟩
 ·obtain ⟨row, cells, h1, h2, h3, h4, h5⟩ := hd
  obtain ⟨row', k1, k2, _⟩ := hm _ (hv _ (by simp [AV.ids])) row h1
  exact ⟨row', cells, k1, h2, h3, by rw [k2.2.2.2.2 ht]; exact h4, h5⟩
 ·exact hd
 ·exact hd.elim
theorem Fits.asGv {s s' : AS} {o : Oper} (h : Fits s s' o) {x : Operand} (hx : x ∈ o.op.operands.toList) {v : AV} (hv : ∀ r, r ∈ v.ids → r ∈ (s.at x).ids) {d : D} (hd : asD s v d) (hg : asG s v) : asG s' v := by
 have hm := h.mem x hx
 unfold Go.Proofs.YtjkfadaedgidpaaGreat.asG at *
 split at hg
 ·intro row' hr'
  simp only [Go.Proofs.YtjkfadaedgidpaaGreat.asD] at hd
  obtain ⟨row, ds, h1, _⟩ := hd
  obtain ⟨row'', k1, k2, _⟩ := hm _ (hv _ (by simp [AV.ids])) row h1
  rw [k1] at hr'
  injection hr' with hr'
  subst hr'
  rw [k2.1]
  exact hg row h1
 ·intro row' hr'
  simp only [Go.Proofs.YtjkfadaedgidpaaGreat.asD] at hd
  obtain ⟨row, cells, h1, _⟩ := hd
  obtain ⟨row'', k1, k2, _⟩ := hm _ (hv _ (by simp [AV.ids])) row h1
  rw [k1] at hr'
  injection hr' with hr'
  subst hr'
  rw [k2.1]
  exact hg row h1
 ·trivial
theorem Fits.asD {s s' : AS} {o : Oper} (h : Fits s s' o) (ht : touches o = true) {x : Operand} (hx : x ∈ o.op.operands.toList) {d : D} (hd : asD s (s.at x) d) : asD s' (s'.at x) d := by
 rw [(h.at_ x hx).1]
 exact h.asDv ht hx (fun _ h => h) hd
theorem Fits.asG {s s' : AS} {o : Oper} (h : Fits s s' o) {x : Operand} (hx : x ∈ o.op.operands.toList) {d : D} (hd : Go.Proofs.YtjkfadaedgidpaaGreat.asD s (s.at x) d) (hg : asG s (s.at x)) : asG s' (s'.at x) := by
 rw [(h.at_ x hx).1]
 exact h.asGv hx (fun _ h => h) hd hg
theorem Fits.asEc {s s' : AS} {o : Oper} (h : Fits s s' o) (ht : touches o = true) {x : Operand} (hx : x ∈ o.op.operands.toList) : ∀ {cs : List AV} {ds : List D}, (∀ r, r ∈ AV.idsL cs → r ∈ (s.at x).ids) → asEc s cs ds → asEc s' cs ds
 | [], ds, _, hd => by simpa only [Go.Proofs.YtjkfadaedgidpaaGreat.asEc] using hd
 | c :: cs, ds, hv, hd => by
  simp only [Go.Proofs.YtjkfadaedgidpaaGreat.asEc] at hd ⊢
  obtain ⟨d, t, h1, h2, h3⟩ := hd
  exact ⟨d, t, h1, h.asDv ht hx (fun r hr => hv r (by simp [AV.idsL, hr])) h2, Fits.asEc h ht hx (fun r hr => hv r (by simp [AV.idsL, hr])) h3⟩
theorem asEc_mem {s : AS} : ∀ {cs : List AV} {ds : List D}, asEc s cs ds → ∀ c ∈ cs, ∃ d, Go.Proofs.YtjkfadaedgidpaaGreat.asD s c d
 | [], ds, _, c, hc => by simp at hc
 | x :: cs, ds, hd, c, hc => by
  simp only [asEc] at hd
  obtain ⟨d, t, h1, h2, h3⟩ := hd
  rcases List.mem_cons.1 hc with rfl | hc
  ·exact ⟨d, h2⟩
  ·exact asEc_mem h3 c hc
theorem ids_of_mem : ∀ {cs : List AV} {c : AV} {r : Nat}, c ∈ cs → r ∈ c.ids → r ∈ AV.idsL cs
 | [], c, r, h, _ => by simp at h
 | x :: cs, c, r, h, hr => by
  simp only [AV.idsL, List.mem_append]
  rcases List.mem_cons.1 h with rfl | h
  ·exact .inl hr
  ·exact .inr (ids_of_mem h hr)
theorem Fits.asE {s s' : AS} {o : Oper} (h : Fits s s' o) (ht : touches o = true) {x : Operand} (hx : x ∈ o.op.operands.toList) {d : D} (hd : asE s (s.at x) d) : asE s' (s'.at x) d := by
 rw [(h.at_ x hx).1]
 rcases hd with hd | ⟨cs, ds, h1, h3⟩
 ·exact .inl (h.asDv ht hx (fun _ h => h) hd)
 ·exact .inr ⟨cs, ds, h1, h.asEc ht hx (fun r hr => by rcases h1 with ⟨h1, _⟩ | ⟨_, h1, _⟩ <;> (rw [h1]; exact hr)) h3⟩
theorem Fits.asF {s s' : AS} {o : Oper} (h : Fits s s' o) {x : Operand} (hx : x ∈ o.op.operands.toList) {d : D} (hd : Go.Proofs.YtjkfadaedgidpaaGreat.asE s (s.at x) d) (hg : asF s (s.at x)) : asF s' (s'.at x) := by
 rw [(h.at_ x hx).1]
 rcases hd with hd | ⟨cs, ds, h1, h3⟩
 ·refine ⟨h.asGv hx (fun _ h => h) hd hg.1, fun cs hcs c hc => ?_⟩
  have hg2 := hg.2 cs hcs c hc
  rcases hcs with hcs | ⟨f, hcs⟩
  ·rw [hcs] at hd
   simp only [Go.Proofs.YtjkfadaedgidpaaGreat.asD, IsDs] at hd
   obtain ⟨ds, rfl, _⟩ := hd
   obtain ⟨y, _, rfl⟩ := List.mem_map.1 hc
   trivial
  ·rw [hcs] at hd
   simp only [Go.Proofs.YtjkfadaedgidpaaGreat.asD] at hd
 ·have hid : ∀ r, r ∈ AV.idsL cs → r ∈ (s.at x).ids := fun r hr => by
   rcases h1 with ⟨h1, _⟩ | ⟨f, h1, _⟩ <;> (rw [h1]; exact hr)
  refine ⟨by rcases h1 with ⟨h1, _⟩ | ⟨f, h1, _⟩ <;> (rw [h1]; trivial), fun cs' hcs c hc => ?_⟩
  have hg2 := hg.2 cs' hcs c hc
  have e : cs = cs' := by
   rcases h1 with ⟨h1, _⟩ | ⟨f, h1, _⟩ <;> rcases hcs with hcs | ⟨f', hcs⟩ <;> rw [h1] at hcs <;> injection hcs
  subst e
  obtain ⟨d', hd'⟩ := asEc_mem h3 c hc
  exact h.asGv hx (fun r hr => hid r (ids_of_mem hc hr)) hd' hg2
theorem Fits.asEs {s s' : AS} {o : Oper} (h : Fits s s' o) (ht : touches o = true) : ∀ {l : List Operand} {ds : List D}, (∀ x ∈ l, x ∈ o.op.operands.toList) → asEs s (l.map s.at) ds → asEs s' (l.map s'.at) ds
 | [], ds, _, hd => by simpa only [List.map_nil, Go.Proofs.YtjkfadaedgidpaaGreat.asEs] using hd
 | x :: l, ds, hl, hd => by
  simp only [List.map_cons, Go.Proofs.YtjkfadaedgidpaaGreat.asEs] at hd ⊢
  obtain ⟨d, t, h1, h2, h3⟩ := hd
  exact ⟨d, t, h1, h.asE ht (hl x (by simp)) h2, Fits.asEs h ht (fun y hy => hl y (by simp [hy])) h3⟩
theorem asEs_mem {s : AS} : ∀ {l : List Operand} {ds : List D}, asEs s (l.map s.at) ds → ∀ x ∈ l, ∃ d, asE s (s.at x) d
 | [], ds, hd, x, hx => by simp at hx
 | y :: l, ds, hd, x, hx => by
  simp only [List.map_cons, asEs] at hd
  obtain ⟨d, t, h1, h2, h3⟩ := hd
  rcases List.mem_cons.1 hx with rfl | hx
  ·exact ⟨d, h2⟩
  ·exact asEs_mem h3 x hx
theorem acore_fits {P : Program} {s s' : AS} {G : Prop} {o : Oper} {e : Eff} (hf : Fits s s' o) (h : acore P s G o e) : acore P s' G o e := by
 unfold acore at h ⊢
 cases hop : o.op <;> simp only [hop] at h ⊢
 case move x =>
  obtain ⟨e1, e2⟩ := hf.at_ x (by simp [hop, Op.operands])
  rw [e1, e2]; exact h
 case assign x =>
  obtain ⟨e1, e2⟩ := hf.at_ x (by simp [hop, Op.operands])
  rw [e1, e2]; exact h
 case pick c x y =>
  obtain ⟨e1, e2⟩ := hf.at_ c (by simp [hop, Op.operands])
  obtain ⟨e3, e4⟩ := hf.at_ x (by simp [hop, Op.operands])
  obtain ⟨e5, e6⟩ := hf.at_ y (by simp [hop, Op.operands])
  rw [e1, e2, e3, e4, e5, e6]; exact h
 case binOp op t x y t' =>
  obtain ⟨e3, e4⟩ := hf.at_ x (by simp [hop, Op.operands])
  obtain ⟨e5, e6⟩ := hf.at_ y (by simp [hop, Op.operands])
  rw [e3, e4, e5, e6]; exact h
 case unOp op t x =>
  obtain ⟨e1, e2⟩ := hf.at_ x (by simp [hop, Op.operands])
  rw [e1, e2]; exact h
 case convert t t' x =>
  obtain ⟨e1, e2⟩ := hf.at_ x (by simp [hop, Op.operands])
  rw [e1, e2]; exact h
 case extract x i =>
  obtain ⟨e1, e2⟩ := hf.at_ x (by simp [hop, Op.operands])
  rw [e1, e2]; exact h
 case fieldAddr t x f =>
  obtain ⟨e1, e2⟩ := hf.at_ x (by simp [hop, Op.operands])
  rw [e1, e2]; exact h
 case indexAddr t x ix =>
  obtain ⟨e3, e4⟩ := hf.at_ x (by simp [hop, Op.operands])
  obtain ⟨e5, e6⟩ := hf.at_ ix (by simp [hop, Op.operands])
  have hm := hf.mem x (by simp [hop, Op.operands])
  rw [e3, e4, e5, e6]
  obtain ⟨kd, n, h1, h2, h3⟩ := h
  refine ⟨kd, n, h1, h2, ?_⟩
  generalize s.at x = v at *
  split at h3
  ·exact h3
  ·obtain ⟨⟨e', row, k1, k2, k3, k4⟩, h3⟩ := h3
   obtain ⟨row', l1, l2, _⟩ := hm _ (by simp [AV.ids]) row k2
   exact ⟨⟨e', row', k1, l1, by rw [l2.2.2.1]; exact k3, fun g => by rw [l2.1, l2.2.2.2.1]; exact k4 g⟩, h3⟩
  ·exact h3
  ·exact h3
  ·exact h3.elim
 case index t x ix =>
  obtain ⟨e3, e4⟩ := hf.at_ x (by simp [hop, Op.operands])
  obtain ⟨e5, e6⟩ := hf.at_ ix (by simp [hop, Op.operands])
  rw [e3, e4, e5, e6]; exact h
 case field t x f =>
  obtain ⟨e3, e4⟩ := hf.at_ x (by simp [hop, Op.operands])
  rw [e3, e4]; exact h
 case makeFunc fn first cap =>
  have hp : ∀ x ∈ cap.toList, s'.at x = s.at x ∧ s'.ok x = s.ok x := fun x hx => hf.at_ x (by
   simp only [hop, Op.operands]
   simp; exact .inr (by simpa using hx))
  have hm : cap.toList.map s'.at = cap.toList.map s.at := List.map_congr_left fun x hx => (hp x hx).1
  obtain ⟨f, h1, h2, h3, h4⟩ := h
  exact ⟨f, h1, h2, fun g => ⟨fun x hx => by rw [(hp x hx).2]; exact (h3 g).1 x hx, by rw [hm]; exact (h3 g).2⟩, by rw [hm]; exact h4⟩
 case load t x =>
  obtain ⟨e3, e4⟩ := hf.at_ x (by simp [hop, Op.operands])
  have hm := hf.mem x (by simp [hop, Op.operands])
  rw [e3, e4]
  obtain ⟨h0, h1, h2⟩ := h
  refine ⟨h0, h1, ?_⟩
  generalize s.at x = v at *
  split at h2
  ·obtain ⟨row, k1, k2⟩ := h2
   obtain ⟨row', l1, l2, _⟩ := hm _ (by simp [AV.ids]) row k1
   exact ⟨row', l1, by rw [l2.1, l2.2.2.2.2 (by simp [touches, hop])]; exact k2⟩
  ·exact h2
  ·exact h2
  ·exact h2.elim
 case store t x y =>
  obtain ⟨e3, e4⟩ := hf.at_ x (by simp [hop, Op.operands])
  obtain ⟨e5, e6⟩ := hf.at_ y (by simp [hop, Op.operands])
  have hm := hf.mem x (by simp [hop, Op.operands])
  rw [e3, e4, e5, e6]
  obtain ⟨hG, h0, h1, h2, r, i, o', row, h3, h4, h5⟩ := h
  obtain ⟨row', l1, l2, l3⟩ := hm r (by rw [h3]; simp [AV.ids]) row h4
  have := l3 (.inl (by simp [isStore, hop]))
  subst this
  exact ⟨hG, h0, h1, h2, r, i, o', row', h3, l1, h5⟩
 case box t x =>
  obtain ⟨e1, e2⟩ := hf.at_ x (by simp [hop, Op.operands])
  rw [e1, e2]
  obtain ⟨d, h1, h2, h3, h4⟩ := h
  exact ⟨d, h1, h2, hf.free d d h1 (owner_lo h2) h3, h4⟩
 case alloc t =>
  obtain ⟨d, z, h1, h2, h3, h4⟩ := h
  exact ⟨d, z, h1, h2, hf.free d d h1 (owner_lo h2) h3, h4⟩
 case build t parts =>
  have hp : ∀ p ∈ parts.toList, s'.at p.2 = s.at p.2 ∧ s'.ok p.2 = s.ok p.2 := fun p hp => hf.at_ p.2 (by
   simp only [hop, Op.operands]
   exact List.mem_map.2 ⟨p, hp, rfl⟩)
  obtain ⟨z, h1, h2⟩ := h
  refine ⟨z, h1, ?_⟩
  split at h2
  ·obtain ⟨k0, k1, k2, k3, k4⟩ := h2
   refine ⟨k0, fun g p hpp => ?_, fun p hpp => ?_, k3, ?_⟩
   ·rw [(hp p hpp).1, (hp p hpp).2]; exact k1 g p hpp
   ·rw [(hp p hpp).1]; exact k2 p hpp
   ·rw [k4]
    congr 2
    exact foldl_parts (fun p hpp b => by rw [(hp p hpp).1]) _
  ·obtain ⟨k0, k1, k2, k3, k4⟩ := h2
   refine ⟨k0, fun g p hpp => ?_, fun p hpp => ?_, k3, ?_⟩
   ·rw [(hp p hpp).1, (hp p hpp).2]; exact k1 g p hpp
   ·rw [(hp p hpp).1]; exact k2 p hpp
   ·rw [k4]
    congr 2
    exact foldl_parts (fun p hpp b => by rw [(hp p hpp).1]) _
  ·exact h2.elim
 case buildSlice t len parts =>
  have hp : ∀ p ∈ parts.toList, s'.at p.2 = s.at p.2 ∧ s'.ok p.2 = s.ok p.2 := fun p hp => hf.at_ p.2 (by
   simp only [hop, Op.operands]
   exact List.mem_map.2 ⟨p, hp, rfl⟩)
  obtain ⟨d, e', h1, h2, h3, h4, h5, h6, h7, h8, h9, h10, h11⟩ := h
  refine ⟨d, e', h1, h2, hf.free d d h1 (owner_lo h2) h3, h4, h5, h6, h7, h8, h9, fun g p hpp => ?_, ?_⟩
  ·rw [(hp p hpp).1, (hp p hpp).2]; exact h10 g p hpp
  ·rw [h11]
   have : (parts.toList.map fun p => (s'.at p.2).cellsOf) = parts.toList.map fun p => (s.at p.2).cellsOf := List.map_congr_left fun p hpp => by rw [(hp p hpp).1]
   rw [this]
 case makeSlice t l c =>
  obtain ⟨e1, e2⟩ := hf.at_ l (by simp [hop, Op.operands])
  obtain ⟨e3, e4⟩ := hf.at_ c (by simp [hop, Op.operands])
  rw [e1, e2, e3, e4]
  obtain ⟨d, e', k, k', n, z, h1, h2, h3, h4⟩ := h
  exact ⟨d, e', k, k', n, z, h1, h2, hf.free d d h1 (owner_lo h2) h3, h4⟩
 case slice t x lo hi mx =>
  obtain ⟨e1, e2⟩ := hf.at_ x (by simp [hop, Op.operands])
  rw [e1, e2]
  obtain ⟨h0, sz, els, i, j, h1, h2, h3, h4, h5, h6⟩ := h
  have hl : ∀ l, lo = some l → s'.at l = s.at l ∧ s'.ok l = s.ok l := fun l hl => hf.at_ l (by simp [hop, Op.operands, hl])
  have hh : ∀ l, hi = some l → s'.at l = s.at l ∧ s'.ok l = s.ok l := fun l hl => hf.at_ l (by simp [hop, Op.operands, hl])
  refine ⟨h0, sz, els, i, j, h1, h2, ?_, ?_, fun g => ?_, h6⟩
  ·cases lo with
   | none => exact h3
   | some l => simp only [loV] at h3 ⊢; rw [(hl l rfl).1]; exact h3
  ·cases hi with
   | none => exact h4
   | some l => simp only [hiV] at h4 ⊢; rw [(hh l rfl).1]; exact h4
  ·obtain ⟨g1, g2, g3, g4⟩ := h5 g
   exact ⟨g1, fun l e => by rw [(hl l e).2]; exact g2 l e, fun l e => by rw [(hh l e).2]; exact g3 l e, g4⟩
 case call c =>
  cases hc : c.callee <;> simp only [hc] at h ⊢
  case value f =>
   have hargs : ∀ x ∈ c.args.toList, x ∈ o.op.operands.toList := fun x hx => by
    simp only [hop, Op.operands, Call.operands, hc]
    simp; exact .inr (by simpa using hx)
   obtain ⟨e1, e2⟩ := hf.at_ f (by simp [hop, Op.operands, Call.operands, hc])
   rcases h with ⟨fid, ds, cs, rows, res, h1, h2, h3, h4, d, h5, h6, h7, h8, h9⟩ | ⟨fid, l, v, h1, h2, h3, h4⟩
   case inr =>
    refine .inr ⟨fid, l, v, by rw [e1]; exact h1, ?_, fun g => ⟨by rw [e2]; exact (h3 g).1, fun x hx => ?_, (h3 g).2.2⟩, h4⟩
    ·rw [← h2]; exact List.map_congr_left fun x hx => by rw [(hf.at_ x (hargs x hx)).1]
    ·rw [(hf.at_ x (hargs x hx)).2]; exact (h3 g).2.1 x hx
   refine .inl ⟨fid, ds, cs, rows, res, by rw [e1]; exact h1, fun g => ?_, hf.asEs (by simp [touches, hop, hc]) hargs h3, h4, d, h5, h6, fun j hj => hf.free _ d h5 (owner_hi (by omega)) (h7 j hj), h8, h9⟩
   obtain ⟨k1, k2, k3⟩ := h2 g
   refine ⟨by rw [e2]; exact k1, fun x hx => ?_, k3⟩
   obtain ⟨d', hd'⟩ := asEs_mem h3 x hx
   exact ⟨by rw [(hf.at_ x (hargs x hx)).2]; exact (k2 x hx).1, hf.asF (hargs x hx) hd' (k2 x hx).2⟩
  case builtin b =>
   have hargs : ∀ x ∈ c.args.toList, x ∈ o.op.operands.toList := fun x hx => by
    simp only [hop, Op.operands, Call.operands, hc]
    simpa using hx
   cases b <;> simp only at h ⊢
   case len =>
    obtain ⟨x, t, h1, h2, h3, h4, h5⟩ := h
    obtain ⟨e1, e2⟩ := hf.at_ x (hargs x (by rw [h1]; simp))
    exact ⟨x, t, h1, h2, h3, by rw [e2]; exact h4, by rw [e1]; exact h5⟩
   case max =>
    obtain ⟨l, h1, h2, h3⟩ := h
    refine ⟨l, ?_, fun g => ⟨fun x hx => ?_, (h2 g).2⟩, h3⟩
    ·rw [← h1]; exact List.map_congr_left fun x hx => by rw [(hf.at_ x (hargs x hx)).1]
    ·rw [(hf.at_ x (hargs x hx)).2]; exact (h2 g).1 x hx
   case min =>
    obtain ⟨l, h1, h2, h3⟩ := h
    refine ⟨l, ?_, fun g => ⟨fun x hx => ?_, (h2 g).2⟩, h3⟩
    ·rw [← h1]; exact List.map_congr_left fun x hx => by rw [(hf.at_ x (hargs x hx)).1]
    ·rw [(hf.at_ x (hargs x hx)).2]; exact (h2 g).1 x hx
   case append =>
    obtain ⟨hG, x, y, t, e', d, new, h1, h2, h3, h4, h5, h6, h7, h8, h9, h10, h11, h12, h13, h14⟩ := h
    have hx := hargs x (by rw [h1]; simp)
    have hy := hargs y (by rw [h1]; simp)
    have hap : isAppend o = true := by
     obtain ⟨cl, ar, at_⟩ := c
     simp only at hc
     subst hc
     simp [isAppend, hop]
    obtain ⟨e1, e2⟩ := hf.at_ x hx
    obtain ⟨e3, e4⟩ := hf.at_ y hy
    have hm := hf.mem x hx
    refine ⟨hG, x, y, t, e', d, new, h1, h2, h3, h4, h5, hf.free d d h4 (owner_lo h5) h6, by rw [e2]; exact h7, by rw [e4]; exact h8, h9, h10, h11, hf.asD (touches_append hap) hy h12, hf.asG hy h12 h13, ?_⟩
    rw [e1]
    generalize s.at x = v at *
    split at h14
    ·exact h14
    ·obtain ⟨row, old, k1, k2⟩ := h14
     obtain ⟨row', l1, l2, l3⟩ := hm _ (by simp [AV.ids]) row k1
     have := l3 (.inr hap)
     subst this
     exact ⟨row', old, l1, k2⟩
    ·exact h14.elim
end Go.Proofs.YtjkfadaedgidpaaGreat
