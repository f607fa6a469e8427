/- Calls that write into slices that they are handed. No condition. -/
import Derived.Test.YtjkfadaedgidpaaGreatAbsZ
namespace Go.Proofs.YtjkfadaedgidpaaGreat
open Go.RowKit
set_option linter.unusedVariables false
set_option linter.unusedSimpArgs false
inductive MArg where
 | d (x : D)
 | m (j : Nat)
 | a (x : AV)
def MRt (I : Nat → Prop) (w : World) (g : Gh) (ms : List ORow) : List MArg → List Value → Prop
 | [], vs => vs = []
 | .d x :: xs, vs => ∃ u t, vs = u :: t ∧ RD I w x u ∧ MRt I w g ms xs t
 | .m j :: xs, vs => ∃ u t o, vs = u :: t ∧ ms[j]? = some o ∧ R g w (.ref j o.els.length) u ∧ MRt I w g ms xs t
 | .a x :: xs, vs => ∃ u t, vs = u :: t ∧ R g w x u ∧ MRt I w g ms xs t
def mown (g : Gh) (n : Nat) (w : World) (b : Nat) : Prop := w.heap.size ≤ b ∨ ∃ j, j < n ∧ g.bt j = some b
def MCalls (P : Program) (f : FuncId) (args : List MArg) (ms ms' rows : List ORow) (res : AV) : Prop :=
 ∀ (I : Nat → Prop) (w : World) (g : Gh) (vs : List Value), g.I = I → (∀ b, I b → b < w.heap.size) →
  (∀ j o, ms[j]? = some o → RowAt (fun _ => True) g w j (o.row j)) →
  (∀ j j' b, j < ms.length → j' < ms.length → j ≠ j' → g.bt j = some b → g.bt j' = some b → False) →
  MRt I w g ms args vs →
  Calls P f vs.toArray w fun e w' => ∃ v G, e = .returned v ∧ Out (mown g ms.length w) w w' ∧ (∀ b, G.I b → w.heap.size ≤ b ∧ b < w'.heap.size) ∧
   (∀ j, j < ms.length → G.bt (rows.length + j) = g.bt j ∧ G.kp (rows.length + j) = g.kp j ∧ G.sz (rows.length + j) = g.sz j) ∧
   (∀ j o, ms'[j]? = some o → RowAt (fun _ => True) g w' j (o.row j)) ∧
   (∀ j o, rows[j]? = some o → RowAt (fun b => w.heap.size ≤ b) G w' j (o.row j)) ∧
   (∀ j j' b, j < rows.length → j' < rows.length → j ≠ j' → G.bt j = some b → G.bt j' = some b → False) ∧
   (∀ r, r ∈ res.ids → r < rows.length + ms.length) ∧ R G w' res v
def mArgs (s : AS) (names : List Nat) (ms : List ORow) : List AV → List MArg → Prop
 | [], gs => gs = []
 | x :: xs, gs => ∃ a t, gs = a :: t ∧ mArgs s names ms xs t ∧
   match a with
   | .d d => asE s x d ∧ asF s x ∧ ∀ r, r ∈ x.ids → r ∉ names
   | .m j => ∃ o, ms[j]? = some o ∧ j < names.length ∧ x = .ref (names.getD j 0) o.els.length
   | .a y => x = y.ren (fun j => names.getD j 0) ∧ ∀ r, r ∈ y.ids → r < ms.length
def mRows (s : AS) : List Nat → List ORow → List ORow → Prop
 | [], [], [] => True
 | r :: rs, o :: os, o' :: os' => (∃ row, s.mem r = some row ∧ row.g ∧ row.uq = true ∧ row.ty = o.ty ∧ row.sz = o.sz ∧ row.els = o.els.map (·.map .d)) ∧ o'.ty = o.ty ∧ o'.sz = o.sz ∧ (∀ l, l ∈ o'.els → flatDs l) ∧ mRows s rs os os'
 | _, _, _ => False
def mNew (s : AS) : List Nat → List ORow → List (Nat × ARow)
 | r :: rs, o :: os => (match s.mem r with | some row => [(r, { row with els := o.els.map (·.map .d) })] | none => []) ++ mNew s rs os
 | _, _ => []
def mName (base nr : Nat) (names : List Nat) (r : Nat) : Nat := if r < nr then base + r else names.getD (r - nr) 0
def mTm (s : AS) (dst : Option Tmp) (v : AV) : List AV := match dst with | some d => s.tm.set d v | none => s.tm
def mBase (dst : Option Tmp) : Nat := match dst with | some d => 1000 * (d + 1) | none => 0
structure MStepAt (P : Program) (s : AS) (o : Oper) (K : AS → Prop) (fid : FuncId) (margs : List MArg) (ms ms' rows : List ORow) (res : AV) (names : List Nat) : Prop where
 call : MCalls P fid margs ms ms' rows res
 ids : ∀ r, r ∈ res.ids → r < rows.length + ms.length
 mrows : mRows s names ms ms'
 nodup : names.Nodup
 dst : (∃ d, o.dst = some d ∧ d < 1000 ∧ rows.length ≤ 1000) ∨ (o.dst = none ∧ rows = [])
 free : ∀ j, j < rows.length → s.mem (mBase o.dst + j) = none
 next : K ⟨mTm s o.dst (res.ren (mName (mBase o.dst) rows.length names)), ovr (addRows True (mBase o.dst) 0 rows ++ mNew s names ms') s.mem⟩
def MStep (P : Program) (s : AS) (o : Oper) (K : AS → Prop) : Prop :=
 o.guard = none ∧ ∃ c f fid margs ms ms' rows res names, o.op = .call c ∧ c.callee = .value f ∧ s.at f = .d (.v (.func (.func fid) #[] #[])) ∧ s.ok f ∧
  (∃ fn, P.funcs[fid]? = some fn ∧ fn.body.isSome = true ∧ (fn.name == "runtime.NumGoroutine") = false) ∧ (∀ x ∈ c.args.toList, s.ok x) ∧ mArgs s names ms (c.args.toList.map s.at) margs ∧
  MStepAt P s o K fid margs ms ms' rows res names
theorem mRows_get {s : AS} : ∀ {names : List Nat} {ms ms' : List ORow}, mRows s names ms ms' → names.length = ms.length ∧ ms'.length = ms.length ∧
  ∀ j o o', ms[j]? = some o → ms'[j]? = some o' → ∃ row, s.mem (names.getD j 0) = some row ∧ row.g ∧ row.uq = true ∧ row.ty = o.ty ∧ row.sz = o.sz ∧ row.els = o.els.map (·.map .d) ∧ o'.ty = o.ty ∧ o'.sz = o.sz ∧ ∀ l, l ∈ o'.els → flatDs l
 | [], [], [], _ => ⟨rfl, rfl, fun j o o' h => by simp at h⟩
 | r :: rs, o :: os, o' :: os', h => by
  obtain ⟨⟨row, k⟩, k1, k2, k3, h4⟩ := h
  obtain ⟨e1, e2, e3⟩ := mRows_get h4
  refine ⟨by simp [e1], by simp [e2], fun j x x' hx hx' => ?_⟩
  cases j with
  | zero =>
   simp at hx hx'
   subst hx hx'
   exact ⟨row, k.1, k.2.1, k.2.2.1, k.2.2.2.1, k.2.2.2.2.1, k.2.2.2.2.2, k1, k2, k3⟩
  | succ j => simpa using e3 j x x' (by simpa using hx) (by simpa using hx')
theorem mNew_mem {s : AS} : ∀ {names : List Nat} {ms' : List ORow} {r : Nat} {row : ARow}, (r, row) ∈ mNew s names ms' → ∃ j o' row0, j < names.length ∧ ms'[j]? = some o' ∧ r = names.getD j 0 ∧ s.mem r = some row0 ∧ row = { row0 with els := o'.els.map (·.map .d) }
 | [], _, r, row, h => by simp [mNew] at h
 | x :: rs, [], r, row, h => by simp [mNew] at h
 | x :: rs, o :: os, r, row, h => by
  simp only [mNew, List.mem_append] at h
  rcases h with h | h
  ·cases hm : s.mem x with
   | none => rw [hm] at h; simp at h
   | some row0 =>
    rw [hm] at h
    simp at h
    obtain ⟨rfl, rfl⟩ := h
    exact ⟨0, o, row0, by simp, by simp, by simp, hm, rfl⟩
  ·obtain ⟨j, o', row0, k1, k2, k3, k4, k5⟩ := mNew_mem h
   exact ⟨j + 1, o', row0, by simpa using k1, by simpa using k2, by simpa using k3, k4, k5⟩
theorem mNew_has {s : AS} : ∀ {names : List Nat} {ms' : List ORow}, names.length = ms'.length → ∀ {j : Nat} {row0 : ARow}, j < names.length → s.mem (names.getD j 0) = some row0 → ∃ row, (names.getD j 0, row) ∈ mNew s names ms'
 | [], ms', _, j, row0, h, _ => by simp at h
 | x :: rs, [], hl, j, row0, h, _ => by simp at hl
 | x :: rs, o :: os, hl, j, row0, h, hm => by
  cases j with
  | zero =>
   simp at hm
   exact ⟨_, by simp [mNew, hm]; exact .inl rfl⟩
  | succ j =>
   obtain ⟨row, hr⟩ := mNew_has (s := s) (names := rs) (ms' := os) (by simpa using hl) (j := j) (row0 := row0) (by simpa using h) (by simpa using hm)
   exact ⟨row, by simp only [mNew, List.mem_append]; exact .inr (by simpa using hr)⟩
section
variable {P : Program} {B : Env} {w0 w w' : World} {gh gh' : YtjkfadaedgidpaaGreat.Gh} {s : AS} {a : Act} {o : Oper} {Q : Exit → Act → World → Prop}
def mseen (gh : YtjkfadaedgidpaaGreat.Gh) (s : AS) (names : List Nat) (b : Nat) : Prop := gh.I b ∨ ∃ r row, r ∉ names ∧ s.mem r = some row ∧ row.g ∧ gh.bt r = some b
theorem asD_Rm {names : List Nat} (h : Sim B w0 gh s a w) {v : AV} {y : Value} {d : D} (hn : ∀ r, r ∈ v.ids → r ∉ names) (hr : R gh w v y) (hd : asD s v d) (hg : asG s v) : RD (mseen gh s names) w d y := by
 unfold asD at hd
 split at hd
 ·obtain ⟨sz', hd | hd⟩ := hd
  ·subst hd
   simp only [R, RD] at hr ⊢
   exact ⟨_, _, hr, .inl trivial⟩
  ·subst hd
   simpa only [R, RD] using hr
 ·subst hd
  simp only [R] at hr
  exact RD.keep (fun b hb => .inl hb) (fun _ _ => rfl) _ _ hr
 ·obtain ⟨ds, hcs, rfl⟩ := hd
  unfold IsDs at hcs
  subst hcs
  simp only [R] at hr
  obtain ⟨vs, ex, hr⟩ := hr
  simp only [RD]
  exact ⟨vs, ex, RDs.keep (fun b hb => .inl hb) (fun _ _ => rfl) _ _ (RDs.of_Rs hr)⟩
 ·obtain ⟨row, ds, hm, hels, hlen, rfl⟩ := hd
  simp only [R] at hr
  simp only [RD]
  rcases hr with ⟨hb, h0, ex⟩ | ⟨b, hb, ex⟩
  ·exact ⟨_, _, by rw [ex, ← hlen, h0], .inl (List.eq_nil_of_length_eq_zero (by omega))⟩
  ·refine ⟨_, _, by rw [ex, hlen], ?_⟩
   have hgr := hg row hm
   obtain ⟨hsz, hrow⟩ := h.rows _ row hm hgr
   rcases hrow with ⟨hn', _⟩ | ⟨b', cur, vs, m1, m2, m3, m4, m5, m6, m7, m8, m9⟩
   ·rw [hb] at hn'; cases hn'
   ·rw [hb] at m1; injection m1 with m1; subst m1
    rw [hels] at m5
    exact .inr ⟨b, 0, vs, rfl, .inr ⟨_, row, hn _ (by simp [AV.ids]), hm, hgr, hb⟩, RDss.keep (fun b hb => .inl hb) (fun _ _ => rfl) _ _ _ (RDss.of_Rss m5), cellsAt.of_block m4 m6, by rw [hels] at m9; simpa using m9⟩
 ·obtain ⟨row, cells, hm, rfl, rfl, hels, rfl⟩ := hd
  simp only [R] at hr
  simp only [RD]
  obtain ⟨b, hb, ex⟩ := hr
  have hgr := hg row hm
  obtain ⟨hsz, hrow⟩ := h.rows _ row hm hgr
  rcases hrow with ⟨hn', _⟩ | ⟨b', cur, vs, m1, m2, m3, m4, m5, m6, m7, m8, m9⟩
  ·rw [hb] at hn'; cases hn'
  ·rw [hb] at m1; injection m1 with m1; subst m1
   rw [hels] at m5
   have n5 := RDss.of_Rss m5
   simp only [RDss] at n5
   obtain ⟨u, t, rfl, _, n6, rfl⟩ := n5
   refine ⟨b, 0, u, by rw [ex]; simp, .inr ⟨_, row, hn _ (by simp [AV.ids]), hm, hgr, hb⟩, RDs.keep (fun b hb => .inl hb) (fun _ _ => rfl) _ _ n6, ?_⟩
   have := cellsAt.of_block m4 m6
   simpa using this
 ·subst hd
  simp only [R] at hr
  simp only [RD]
  obtain ⟨b, o', vs, h1, h2, h3, h4⟩ := hr
  exact ⟨b, o', vs, h1, .inl h2, RDs.keep (fun b hb => .inl hb) (fun _ _ => rfl) _ _ h3, h4⟩
 ·exact hd.elim
theorem asEc_Rm {names : List Nat} (h : Sim B w0 gh s a w) : ∀ {cs : List AV} {vs : List Value} {ds : List D}, (∀ r, r ∈ AV.idsL cs → r ∉ names) → Rs gh w cs vs → asEc s cs ds → (∀ c, c ∈ cs → asG s c) → RDs (mseen gh s names) w ds vs
 | [], vs, ds, _, hr, hd, _ => by
  simp only [asEc] at hd
  subst hd
  simpa only [Rs, RDs] using hr
 | c :: cs, vs, ds, hn, hr, hd, hg => by
  simp only [asEc] at hd
  obtain ⟨d, t, rfl, h2, h3⟩ := hd
  simp only [Rs] at hr
  obtain ⟨u, us, rfl, r1, r2, r3⟩ := hr
  simp only [RDs]
  exact ⟨u, us, rfl, asD_Rm h (fun r hr => hn r (by simp [AV.idsL, hr])) r1 h2 (hg c (by simp)), r2, asEc_Rm h (fun r hr => hn r (by simp [AV.idsL, hr])) r3 h3 fun c hc => hg c (by simp [hc])⟩
theorem asE_Rm {names : List Nat} (h : Sim B w0 gh s a w) {v : AV} {y : Value} {d : D} (hn : ∀ r, r ∈ v.ids → r ∉ names) (hr : R gh w v y) (hd : asE s v d) (hg : asF s v) : RD (mseen gh s names) w d y := by
 rcases hd with hd | ⟨cs, ds, ⟨h1, rfl⟩ | ⟨f, h1, rfl⟩, h3⟩
 ·exact asD_Rm h hn hr hd hg.1
 ·subst h1
  simp only [R] at hr
  obtain ⟨vs, ex, hr⟩ := hr
  simp only [RD]
  exact ⟨vs, ex, asEc_Rm h (by simpa only [AV.ids] using hn) hr h3 (hg.2 cs (.inl rfl))⟩
 ·subst h1
  simp only [R] at hr
  obtain ⟨vs, ex, hr⟩ := hr
  simp only [RD]
  exact ⟨vs, ex, asEc_Rm h (by simpa only [AV.ids] using hn) hr h3 (hg.2 cs (.inr ⟨f, rfl⟩))⟩
theorem mArgs_R {names : List Nat} {ms : List ORow} {g : YtjkfadaedgidpaaGreat.Gh} (h : Sim B w0 gh s a w) (hg : ∀ j, j < ms.length → g.bt j = gh.bt (names.getD j 0) ∧ g.kp j = gh.kp (names.getD j 0)) (hgs : ∀ j, j < ms.length → g.sz j = gh.sz (names.getD j 0)) (hgI : ∀ b, gh.I b → g.I b) : ∀ {xs : List Operand} {gs : List MArg}, (∀ x ∈ xs, s.ok x) → mArgs s names ms (xs.map s.at) gs →
  MRt (mseen gh s names) w g ms gs (xs.map a.eval)
 | [], gs, _, hd => by
  simp only [List.map_nil, mArgs] at hd
  subst hd
  simp [MRt]
 | x :: xs, gs, hk, hd => by
  simp only [List.map_cons, mArgs] at hd
  obtain ⟨m, t, rfl, h2, h3⟩ := hd
  have hr := h.at_ (hk x (by simp))
  have ih := mArgs_R h hg hgs hgI (fun y hy => hk y (by simp [hy])) h2
  cases m with
  | d d =>
   simp only [List.map_cons, MRt]
   exact ⟨_, _, rfl, asE_Rm h h3.2.2 hr h3.1 h3.2.1, ih⟩
  | m j =>
   obtain ⟨o, ho, hj, hx⟩ := h3
   rw [hx] at hr
   simp only [List.map_cons, MRt]
   refine ⟨_, _, o, rfl, ho, ?_, ih⟩
   obtain ⟨e1, e2⟩ := hg j (List.getElem?_eq_some_iff.1 ho).1
   simp only [R] at hr ⊢
   rw [e1, e2]
   exact hr
  | a y =>
   obtain ⟨hx, hids⟩ := h3
   rw [hx] at hr
   simp only [List.map_cons, MRt]
   exact ⟨_, _, rfl, R.back hgI y _ (fun r hr => ⟨(hg r (hids r hr)).1, (hg r (hids r hr)).2, hgs r (hids r hr)⟩) hr, ih⟩
def Gh.joinM (gh G : YtjkfadaedgidpaaGreat.Gh) (base nr : Nat) : YtjkfadaedgidpaaGreat.Gh := gh.join G base nr
theorem nodup_get {names : List Nat} (h : names.Nodup) {i j : Nat} (hi : i < names.length) (hj : j < names.length) (he : names.getD i 0 = names.getD j 0) : i = j := by
 have g1 : names.getD i 0 = names[i] := by simp [List.getD, List.getElem?_eq_getElem hi]
 have g2 : names.getD j 0 = names[j] := by simp [List.getD, List.getElem?_eq_getElem hj]
 rw [g1, g2] at he
 exact (List.getElem_inj h).1 he
theorem mem_getD {names : List Nat} {r : Nat} (h : r ∈ names) : ∃ j, j < names.length ∧ names.getD j 0 = r := by
 obtain ⟨j, hj, e⟩ := List.mem_iff_getElem.1 h
 exact ⟨j, hj, by simp [List.getD, List.getElem?_eq_getElem hj, e]⟩
theorem sound_mut {K : AS → Prop} (h : Sim B w0 gh s a w) (hs : MStep P s o K) : o.wp P a w (fun a' w' => ∃ s' gh', K s' ∧ Sim B w0 gh' s' a' w') Q := by
 obtain ⟨hgd, c, f, fid, margs, ms, ms', rows, res, names, hop, hcl, hf, hkf, ⟨fn, f1, f2, f3⟩, hka, hargs, hat⟩ := hs
 obtain ⟨hcall, hids, hmr, hnd, hdst, hfree, hnext⟩ := hat
 obtain ⟨el, el', hget⟩ := mRows_get hmr
 have ef := h.at_ hkf
 rw [hf] at ef
 simp only [R, RD] at ef
 obtain ⟨g, eg⟩ : ∃ g : YtjkfadaedgidpaaGreat.Gh, g = ⟨mseen gh s names, fun j => gh.bt (names.getD j 0), fun j => gh.kp (names.getD j 0), fun j => gh.sz (names.getD j 0)⟩ := ⟨_, rfl⟩
 have hseen : ∀ b, mseen gh s names b → b < w.heap.size := fun b hb => by
  rcases hb with hb | ⟨r, row, _, hm, hg, hb⟩
  ·exact h.imm b hb
  ·exact row_block h hm hg hb
 have hms : ∀ j, j < ms.length → ∃ o row, ms[j]? = some o ∧ s.mem (names.getD j 0) = some row ∧ row.g ∧ row.uq = true ∧ row.ty = o.ty ∧ row.sz = o.sz ∧ row.els = o.els.map (·.map .d) := fun j hj => by
  obtain ⟨row, k⟩ := hget j ms[j] (ms'[j]'(by omega)) (List.getElem?_eq_getElem hj) (List.getElem?_eq_getElem (by omega))
  exact ⟨ms[j], row, List.getElem?_eq_getElem hj, k.1, k.2.1, k.2.2.1, k.2.2.2.1, k.2.2.2.2.1, k.2.2.2.2.2.1⟩
 have hblk : ∀ j b, j < ms.length → gh.bt (names.getD j 0) = some b → b < w.heap.size ∧ ¬ gh.I b ∧ B.own b ∧ ¬ mseen gh s names b := fun j b hj hb => by
  obtain ⟨o', row, k1, k2, k3, k4, k5, k6, k7⟩ := hms j hj
  obtain ⟨_, hrow⟩ := h.rows _ row k2 k3
  rcases hrow with ⟨hn, _⟩ | ⟨b', cur, vs, m1, m2, m3, m4, _⟩
  ·rw [hb] at hn; cases hn
  ·rw [hb] at m1; injection m1 with m1; subst m1
   refine ⟨row_block h k2 k3 hb, m3, m2, fun hh => ?_⟩
   rcases hh with hh | ⟨r, row', hr, hm, hg', hb'⟩
   ·exact m3 hh
   ·have hne : names.getD j 0 ≠ r := fun e => hr (by
     rw [← e]
     have hjn : j < names.length := by omega
     simp [List.getD, List.getElem?_eq_getElem hjn])
    have := (h.apart _ r row row' b hne k2 hm k3 hg' hb hb').1
    rw [k4] at this; cases this
 have hrowsM : ∀ j o', ms[j]? = some o' → RowAt (fun _ => True) g w j (o'.row j) := fun j o' ho => by
  have hj := (List.getElem?_eq_some_iff.1 ho).1
  obtain ⟨o2, row, k1, k2, k3, k4, k5, k6, k7⟩ := hms j hj
  rw [ho] at k1; injection k1 with k1; subst k1
  obtain ⟨hsz, hrow⟩ := h.rows _ row k2 k3
  subst eg
  refine ⟨by simp only [ORow.row]; rw [← k6]; exact hsz, ?_⟩
  rcases hrow with ⟨hn, hels⟩ | ⟨b, cur, vs, m1, m2, m3, m4, m5, m6, m7, m8, m9⟩
  ·refine .inl ⟨hn, ?_⟩
   simp only [ORow.row]
   rw [← k7]; exact hels
  ·refine .inr ⟨b, cur, vs, m1, trivial, (hblk j b hj m1).2.2.2, by simp only [ORow.row]; rw [← k5]; exact m4, ?_, m6, by simp only [ORow.row]; rw [← k6]; exact m7, m8, by simp only [ORow.row]; rw [← k7]; exact m9⟩
   simp only [ORow.row]
   rw [k7, k6] at m5
   exact Rss.of_mapD_keep (gh := gh) (fun b hb => Or.inl hb) (fun _ _ => rfl) m5
 have hdist : ∀ j j' b, j < ms.length → j' < ms.length → j ≠ j' → g.bt j = some b → g.bt j' = some b → False := fun j j' b hj hj' hne hb hb' => by
  obtain ⟨o1, row1, _, k2, k3, k4, _⟩ := hms j hj
  obtain ⟨o2, row2, _, l2, l3, _⟩ := hms j' hj'
  subst eg
  have hn : names.getD j 0 ≠ names.getD j' 0 := fun e => hne (nodup_get hnd (by omega) (by omega) e)
  have := (h.apart _ _ row1 row2 b hn k2 l2 k3 l3 hb hb').1
  rw [k4] at this; cases this
 have hrt := mArgs_R (g := g) h (fun j hj => by subst eg; exact ⟨rfl, rfl⟩) (fun j hj => by subst eg; rfl) (fun b hb => by subst eg; exact .inl hb) hka hargs
 have hcalls := hcall (mseen gh s names) w g _ (by rw [eg]) hseen hrowsM hdist hrt
 have hrun : (execOp a.eval o).run P w = .ok (.enter fid (c.args.toList.map a.eval).toArray) w := by
  have hargs : c.args.map a.eval = (c.args.toList.map a.eval).toArray := Array.ext' (by simp)
  simp only [execOp, hop, resolve, hcl, ef, Deferred.ofValue, hargs, Sem.run_bind, Sem.run_pure, Result.andThen_ok, invoke]
  simpa using callFunc_run f1 f2 f3 (c.args.toList.map a.eval).toArray
 unfold Oper.wp
 rw [hrun]
 refine hcalls.mono ?_
 rintro e' w' ⟨v, G, rfl, hout, hgI, hGm, hpost, hgrows, hgap, hgids, hR⟩
 simp only
 refine ⟨_, gh.join G (mBase o.dst) rows.length, hnext, ?_⟩
 obtain ⟨base, hbase⟩ : ∃ b : Nat, mBase o.dst = b := ⟨_, rfl⟩
 rw [hbase] at hfree ⊢
 have hnot : ∀ r, s.mem r ≠ none → ¬ (base ≤ r ∧ r < base + rows.length) := fun r hr hh => by
  refine hr ?_
  have := hfree (r - base) (by omega)
  rwa [show base + (r - base) = r by omega] at this
 have old : ∀ r, s.mem r ≠ none → (gh.join G base rows.length).bt r = gh.bt r ∧ (gh.join G base rows.length).kp r = gh.kp r ∧ (gh.join G base rows.length).sz r = gh.sz r := fun r hr => Gh.join_old gh G _ _ (hnot r hr)
 have hmown : ∀ b, b < w.heap.size → (∀ j, j < ms.length → gh.bt (names.getD j 0) ≠ some b) → w'.heap[b]? = w.heap[b]? := fun b hb hn => hout.block b hb (fun hm => by
  rcases hm with hm | ⟨j, hj, hm⟩
  ·omega
  ·subst eg; exact hn j hj hm)
 have hIw : ∀ b, gh.I b → w'.heap[b]? = w.heap[b]? := fun b hI => hmown b (h.imm b hI) fun j hj e => (hblk j b hj e).2.1 hI
 have hnm : ∀ j, j < names.length → ∃ row, s.mem (names.getD j 0) = some row := fun j hj => by
  obtain ⟨_, row, _, k, _⟩ := hms j (by omega)
  exact ⟨row, k⟩
 have cls : ∀ r row, ovr (addRows True base 0 rows ++ mNew s names ms') s.mem r = some row →
   (∃ j o', rows[j]? = some o' ∧ r = base + j ∧ row = { o'.row (base + j) with g := True }) ∨
   (∃ j o' row0, j < ms.length ∧ ms'[j]? = some o' ∧ r = names.getD j 0 ∧ s.mem r = some row0 ∧ row = { row0 with els := o'.els.map (·.map .d) }) ∨
   (r ∉ names ∧ s.mem r = some row) := fun r row hr => by
  rcases ovr_mem hr with hin | ⟨hno, hr⟩
  ·rcases List.mem_append.1 hin with hin | hin
   ·obtain ⟨j, o', hj, rfl, rfl⟩ := mem_addRows hin
    exact .inl ⟨j, o', hj, by omega, by simp⟩
   ·obtain ⟨j, o', row0, k1, k2, k3, k4, k5⟩ := mNew_mem hin
    exact .inr (.inl ⟨j, o', row0, by omega, k2, k3, k4, k5⟩)
  ·refine .inr (.inr ⟨fun hin => ?_, hr⟩)
   obtain ⟨j, hj, e⟩ := mem_getD hin
   obtain ⟨row0, hm⟩ := hnm j hj
   obtain ⟨row1, hh⟩ := mNew_has (s := s) (names := names) (ms' := ms') (by omega) hj hm
   rw [e] at hh
   exact hno row1 (List.mem_append_right _ hh)
 have has : ∀ r, s.mem r ≠ none → ovr (addRows True base 0 rows ++ mNew s names ms') s.mem r ≠ none := fun r hr => ovr_some (.inl hr)
 have hvals : R (gh.join G base rows.length) w' (res.ren (mName base rows.length names)) v := by
  have : ∀ r, r ∈ res.ids → (gh.join G base rows.length).bt (mName base rows.length names r) = G.bt r ∧ (gh.join G base rows.length).kp (mName base rows.length names r) = G.kp r ∧ (gh.join G base rows.length).sz (mName base rows.length names r) = G.sz r := fun r hr => by
   have hlt := hgids r hr
   unfold mName
   split
   ·rename_i hl; exact Gh.join_new gh G base rows.length hl
   ·rename_i hl
    obtain ⟨row, hm⟩ := hnm (r - rows.length) (by omega)
    have := old _ (by rw [hm]; simp)
    obtain ⟨q1, q2, q3⟩ := hGm (r - rows.length) (by omega)
    rw [show rows.length + (r - rows.length) = r from by omega] at q1 q2 q3
    subst eg
    exact ⟨this.1.trans q1.symm, this.2.1.trans q2.symm, this.2.2.trans q3.symm⟩
  exact R.ren (fun b hb => Or.inr hb) res v this hR
 refine ⟨?_, ?_, ?_, fun k hk => h.base k (Nat.le_trans hout.size hk), fun b hI => ?_, ?_, ?_, ?_, ?_, ?_⟩
 ·cases o.dst <;> exact h.defers
 ·have htm : Rt (gh.join G base rows.length) w' s.tm a.tmps.toList := Rt.keep (fun b hb => Or.inl hb) hIw _ _ (fun r hr => old r (h.wft r hr)) h.tm
  unfold mTm
  cases hd : o.dst with
  | none => exact htm
  | some d =>
   rw [put_tmps]
   exact htm.set d hvals
 ·refine h.below.trans ⟨hout.os, hout.tape, hout.output, hout.size, fun k hk hn => hmown k hk fun j hj e => hn (hblk j k hj e).2.2.1⟩
 ·rcases hI with hI | hI
  ·exact Nat.lt_of_lt_of_le (h.imm b hI) hout.size
  ·exact (hgI b hI).2
 ·intro r row hr hg
  rcases cls r row hr with ⟨j, o', hj, rfl, rfl⟩ | ⟨j, o', row0, hj, ho', rfl, hm, rfl⟩ | ⟨hn, hm⟩
  ·have hjl : j < rows.length := (List.getElem?_eq_some_iff.1 hj).1
   obtain ⟨e1, e2, e3⟩ := Gh.join_new gh G base rows.length hjl
   obtain ⟨q1, q2⟩ := hgrows j o' hj
   refine ⟨by rw [e3]; exact q1, ?_⟩
   rcases q2 with ⟨q2, q3⟩ | ⟨b, cur, vs, m1, m2, m3, m4, m5, m6, m7, m8, m9⟩
   ·exact .inl ⟨by rw [e1]; exact q2, q3⟩
   ·refine .inr ⟨b, cur, vs, by rw [e1]; exact m1, h.base _ m2, fun hI => ?_, m4, ?_, m6, by rw [e2]; exact m7, by rw [e2]; exact m8, by rw [e2]; exact m9⟩
    ·rcases hI with hI | hI
     ·have := h.imm b hI; have m2' : w.heap.size ≤ b := m2; omega
     ·exact m3 hI
    ·exact Rss.of_mapD_keep (gh := G) (fun b hb => Or.inr hb) (fun _ _ => rfl) m5
  ·obtain ⟨o2, row2, k1, k2, k3, k4, k5, k6, k7⟩ := hms j hj
   rw [hm] at k2; injection k2 with k2; subst k2
   obtain ⟨row3, l⟩ := hget j o2 o' k1 ho'
   obtain ⟨q1, q2⟩ := hpost j o' ho'
   obtain ⟨e1, e2, e3⟩ := old (names.getD j 0) (by rw [hm]; simp)
   subst eg
   have ht : row0.ty = o'.ty := by rw [k5]; exact l.2.2.2.2.2.2.1.symm
   have hz : row0.sz = o'.sz := by rw [k6]; exact l.2.2.2.2.2.2.2.1.symm
   refine ⟨by rw [e3]; simp only; rw [hz]; exact q1, ?_⟩
   rcases q2 with ⟨q2, q3⟩ | ⟨b, cur, vs, m1, m2, m3, m4, m5, m6, m7, m8, m9⟩
   ·exact .inl ⟨by rw [e1]; exact q2, q3⟩
   ·have hb := hblk j b hj m1
    refine .inr ⟨b, cur, vs, by rw [e1]; exact m1, hb.2.2.1, fun hI => ?_, by simp only; rw [ht]; exact m4, ?_, m6, by rw [e2]; simp only; rw [hz]; exact m7, by rw [e2]; exact m8, by rw [e2]; exact m9⟩
    ·rcases hI with hI | hI
     ·exact hb.2.1 hI
     ·have := (hgI b hI).1; omega
    ·simp only
     rw [hz]
     exact Rss.flatD (l.2.2.2.2.2.2.2.2) m5
  ·have hne : s.mem r ≠ none := by rw [hm]; simp
   refine (h.rows r row hm hg).keep (fun b hb => .inl hb) hIw (old r hne) (fun el hel r' hr' => old r' (h.wfm r row hm el hel r' hr')) (fun b hbt => ?_) (fun b hbt hn' hI => ?_)
   ·refine hmown b (row_block h hm hg hbt) fun j hj e => ?_
    exact (hblk j b hj e).2.2.2 (.inr ⟨r, row, hn, hm, hg, hbt⟩)
   ·rcases hI with hI | hI
    ·exact hn' hI
    ·have := row_block h hm hg hbt; have := (hgI b hI).1; omega
 ·intro r1 r2 row1 row2 b0 hne h1 h2 g1 g2 b1 b2
  have kind : ∀ r row, ovr (addRows True base 0 rows ++ mNew s names ms') s.mem r = some row → row.g → (gh.join G base rows.length).bt r = some b0 →
    (∃ j, j < rows.length ∧ r = base + j ∧ G.bt j = some b0 ∧ w.heap.size ≤ b0) ∨
    (∃ row0, s.mem r = some row0 ∧ row0.g ∧ gh.bt r = some b0 ∧ b0 < w.heap.size ∧ row.uq = row0.uq ∧ row.fam = row0.fam ∧ row.sz = row0.sz ∧ row.ap = row0.ap ∧ (r ∉ names → row = row0) ∧ (r ∈ names → row0.uq = true)) := fun r row hr hg hbt => by
   rcases cls r row hr with ⟨j, o', hj, rfl, rfl⟩ | ⟨j, o', row0, hj, ho', rfl, hm, rfl⟩ | ⟨hn, hm⟩
   ·have hjl : j < rows.length := (List.getElem?_eq_some_iff.1 hj).1
    rw [(Gh.join_new gh G base rows.length hjl).1] at hbt
    refine .inl ⟨j, hjl, rfl, hbt, ?_⟩
    obtain ⟨_, q2⟩ := hgrows j o' hj
    rcases q2 with ⟨q2, _⟩ | ⟨b, cur, vs, m1, m2, _⟩
    ·rw [hbt] at q2; cases q2
    ·rw [hbt] at m1; injection m1 with m1; subst m1; exact m2
   ·rw [(old _ (by rw [hm]; simp)).1] at hbt
    obtain ⟨o2, row2, k1, k2, k3, k4, _⟩ := hms j hj
    rw [hm] at k2; injection k2 with k2; subst k2
    have hin : names.getD j 0 ∈ names := by
     have hjn : j < names.length := by omega
     simp [List.getD, List.getElem?_eq_getElem hjn]
    exact .inr ⟨row0, hm, k3, hbt, row_block h hm k3 hbt, rfl, rfl, rfl, rfl, fun hn => (hn hin).elim, fun _ => k4⟩
   ·rw [(old _ (by rw [hm]; simp)).1] at hbt
    exact .inr ⟨row, hm, hg, hbt, row_block h hm hg hbt, rfl, rfl, rfl, rfl, fun _ => rfl, fun hin => (hn hin).elim⟩
  rcases kind r1 row1 h1 g1 b1 with ⟨j1, l1, e1, q1, s1⟩ | ⟨o1, m1, n1, q1, s1, u1, f1', z1, a1, x1, y1⟩ <;> rcases kind r2 row2 h2 g2 b2 with ⟨j2, l2, e2, q2, s2⟩ | ⟨o2, m2, n2, q2, s2, u2, f2', z2, a2, x2, y2⟩
  ·exact (hgap j1 j2 b0 l1 l2 (fun e => hne (by rw [e1, e2, e])) q1 q2).elim
  ·omega
  ·omega
  ·have hap := h.apart r1 r2 o1 o2 b0 hne m1 m2 n1 n2 q1 q2
   have hap2 := h.apart r2 r1 o2 o1 b0 (Ne.symm hne) m2 m1 n2 n1 q2 q1
   have hn1 : r1 ∉ names := fun hin => by rw [y1 hin] at hap; cases hap.1
   have hn2 : r2 ∉ names := fun hin => by rw [y2 hin] at hap2; cases hap2.1
   rw [x1 hn1, x2 hn2]
   exact hap
 ·intro r hr
  unfold mTm at hr
  cases hd : o.dst with
  | none => rw [hd] at hr; exact has r (h.wft r hr)
  | some d =>
   rw [hd] at hr
   rcases idsL_set hr with hr | hr
   ·exact has r (h.wft r hr)
   ·obtain ⟨r', h1, rfl⟩ := ren_ids _ res r hr
    have hlt := hgids r' h1
    unfold mName
    split
    ·rename_i hl
     obtain ⟨row, hin⟩ := mem_addRows' (G := True) (base := base) (os := rows) (k := 0) hl
     exact ovr_some (.inr ⟨row, List.mem_append_left _ (by simpa using hin)⟩)
    ·rename_i hl
     obtain ⟨row, hm⟩ := hnm (r' - rows.length) (by omega)
     exact has _ (by rw [hm]; simp)
 ·intro r row hr hp
  rcases cls r row hr with ⟨j, o', hj, rfl, rfl⟩ | ⟨j, o', row0, hj, ho', rfl, hm, rfl⟩ | ⟨hn, hm⟩
  ·have hjl : j < rows.length := (List.getElem?_eq_some_iff.1 hj).1
   rcases hdst with ⟨d, hd, hd1, hd2⟩ | ⟨_, hd⟩
   ·rw [hd] at hbase
    simp only [mBase] at hbase
    unfold pinned at hp
    have hd3 : (show Nat from d) < 1000 := hd1
    have hb3 : 1000 * ((show Nat from d) + 1) = base := hbase
    omega
   ·rw [hd] at hjl; simp at hjl
  ·rw [(old _ (by rw [hm]; simp)).1, (old _ (by rw [hm]; simp)).2.1]; exact h.pins _ row0 hm hp
  ·rw [(old _ (by rw [hm]; simp)).1, (old _ (by rw [hm]; simp)).2.1]; exact h.pins _ row hm hp
 ·intro r row hr el hel r' hr'
  rcases cls r row hr with ⟨j, o', hj, rfl, rfl⟩ | ⟨j, o', row0, hj, ho', rfl, hm, rfl⟩ | ⟨hn, hm⟩
  ·simp only [ORow.row, List.mem_map] at hel
   obtain ⟨ds, _, rfl⟩ := hel
   rw [idsL_mapD] at hr'; simp at hr'
  ·simp only [List.mem_map] at hel
   obtain ⟨ds, _, rfl⟩ := hel
   rw [idsL_mapD] at hr'; simp at hr'
  ·exact has r' (h.wfm r row hm el hel r' hr')
theorem sound_lexK {ops : Array Oper} {K : AS → Prop} (rest : List Nat) (hK : ∀ s gh a w, K s → Sim B w0 gh s a w → wpOps P ops Q rest a w) : ∀ (l : List Oper) (k : Nat) (s : AS) (gh : YtjkfadaedgidpaaGreat.Gh) (a : Act) (w : World), (∀ j o, l[j]? = some o → ops[k + j]? = some o) → Sim B w0 gh s a w →
  aLex P ops K l s → wpOps P ops Q (List.range' k l.length ++ rest) a w
 | [], k, s, gh, a, w, _, h, hs => by simpa using hK _ _ _ _ hs h
 | o :: l, k, s, gh, a, w, hl, h, hs => by
  have h0 : ops[k]? = some o := by simpa using hl 0 o rfl
  rw [List.length_cons, List.range'_succ, List.cons_append, wpOps_cons]
  have hop : aOp P ops k (aLex P ops K l) s := by unfold aOp; simp only [h0]; exact hs
  exact wpOp_mono (fun a' w' ⟨s', gh', hk, hS⟩ => sound_lexK rest hK l (k + 1) s' gh' a' w' (fun j o' hj => by have := hl (j + 1) o' (by simpa using hj); simpa [Nat.add_assoc, Nat.add_comm 1 j] using this) hS hk) (sound_op h hop)
theorem sound_mutOp {ops : Array Oper} {i : Nat} {K : AS → Prop} (ho : ops[i]? = some o) (h : Sim B w0 gh s a w) (hs : MStep P s o K) : wpOp P ops Q i (fun a' w' => ∃ s' gh', K s' ∧ Sim B w0 gh' s' a' w') a w := by
 unfold wpOp
 simp only [ho]
 have hw : Region.wanted o (yielded ops a.tmps) = true := by simp [Region.wanted, hs.1]
 rw [if_pos hw]
 exact .inl (sound_mut h hs)
end
theorem awp_mut {P : Program} {Q : Exit → AS → Prop} {s : AS} {id : Nat} {l : List Oper} (ds : List (Option Tmp)) (hds : l.map (·.dst) = ds) (k : Nat) {o : Oper} (hk : l[k]? = some o)
  (h : evL P ds (fun s1 => MStep P s1 o fun s2 => evL P ds (Q .normal) (l.drop (k + 1)) s2) (l.take k) s) : AWp P (.region id l.toArray false) Q s := fun B w0 gh a w hS => by
 refine wp_region ?_
 have hkl : k < l.length := (List.getElem?_eq_some_iff.1 hk).1
 have hds' : (l.toArray).toList.map (·.dst) = ds := by simpa using hds
 have e : List.range l.length = List.range' 0 (l.take k).length ++ (k :: (List.range' (k + 1) (l.drop (k + 1)).length ++ [])) := by
  rw [List.range_eq_range', List.append_nil, List.length_take, List.length_drop, Nat.min_eq_left (Nat.le_of_lt hkl)]
  have h1 : l.length = k + (1 + (l.length - (k + 1))) := by omega
  conv => lhs; rw [h1]
  rw [← List.range'_append_1, ← List.range'_append_1]
  simp [List.range']
 have := sound_lexK (P := P) (ops := l.toArray) (Q := fun e a' w' => ∃ s' gh', Q e s' ∧ Sim B w0 gh' s' a' w') (k :: (List.range' (k + 1) (l.drop (k + 1)).length ++ []))
  (K := fun s1 => MStep P s1 o fun s2 => evL P ds (Q .normal) (l.drop (k + 1)) s2) (fun s1 gh1 a1 w1 hm hS1 => by
   rw [wpOps_cons]
   refine wpOp_mono (fun a' w' ⟨s', gh', hk', hS'⟩ => ?_) (sound_mutOp (by simpa using hk) hS1 hm)
   exact sound_lexK (K := Q .normal) [] (fun s2 gh2 a2 w2 hq hS2 => by exact ⟨s2, gh2, hq, hS2⟩) (l.drop (k + 1)) (k + 1) s' gh' a' w' (fun j o' hj => by
    rw [List.getElem?_drop] at hj; simpa using hj) hS' (evL_aLex hds' _ _ hk'))
  (l.take k) 0 s gh a w (fun j o' hj => by
   rw [List.getElem?_take] at hj
   split at hj
   ·simpa using hj
   ·cases hj) hS (evL_aLex hds' _ _ h)
 rw [← e] at this
 simpa using this
def pinName (j : Nat) : Nat := 1000000000 + j
def ORow.pin (o : ORow) (j : Nat) : ARow := ⟨True, o.ty, o.sz, true, false, pinName j, o.els.map (·.map .d)⟩
def pinRows : Nat → List ORow → List (Nat × ARow)
 | _, [] => []
 | j, o :: os => (pinName j, o.pin j) :: pinRows (j + 1) os
def mAv (ms : List ORow) : MArg → AV
 | .d x => .d x
 | .m j => .ref (pinName j) ((ms[j]?.map fun o => o.els.length).getD 0)
 | .a x => x.ren pinName
def ResOkM (P : Program) (rs : List ResultVar) (ms' rows : List ORow) (res : AV) (s : AS) : Prop :=
 ∃ xs h, resVs P s rs xs ∧ resAll xs = res.ren h ∧ flatA res ∧ (∀ o, o ∈ rows → ∀ l, l ∈ o.els → flatDs l) ∧ (∀ o, o ∈ ms' → ∀ l, l ∈ o.els → flatDs l) ∧ (∀ r, r ∈ res.ids → r < rows.length + ms'.length) ∧
  (∀ j j', j < rows.length → j' < rows.length → h j = h j' → j = j') ∧ (∀ j, j < rows.length → h j < 1000000000) ∧ (∀ j, j < ms'.length → h (rows.length + j) = pinName j) ∧
  (∀ j o, rows[j]? = some o → ∃ row, s.mem (h j) = some row ∧ row.g ∧ row.ty = o.ty ∧ row.sz = o.sz ∧ row.els = o.els.map (·.map .d) ∧ row.uq = true) ∧
  (∀ j o, ms'[j]? = some o → ∃ row, s.mem (pinName j) = some row ∧ row.g ∧ row.ty = o.ty ∧ row.sz = o.sz ∧ row.els = o.els.map (·.map .d))
theorem lookR_pin : ∀ {ms : List ORow} {k r : Nat} {row : ARow}, lookR (pinRows k ms) r = some row → ∃ j o, ms[j]? = some o ∧ r = pinName (k + j) ∧ row = o.pin (k + j)
 | [], k, r, row, h => by simp [pinRows, lookR] at h
 | o :: ms, k, r, row, h => by
  simp only [pinRows, lookR] at h
  by_cases hr : r = pinName k
  ·subst hr
   simp at h
   subst h
   exact ⟨0, o, rfl, rfl, rfl⟩
  ·have h2 : (r == pinName k) = false := by simpa using hr
   rw [h2, cond_false] at h
   obtain ⟨j, o', h1, h3, h4⟩ := lookR_pin h
   exact ⟨j + 1, o', by simpa using h1, by rw [h3]; congr 1; omega, by rw [h4]; congr 1; omega⟩
theorem lookR_pin_some : ∀ {ms : List ORow} {k j : Nat} {o : ORow}, ms[j]? = some o → lookR (pinRows k ms) (pinName (k + j)) ≠ none
 | [], k, j, o, h => by simp at h
 | x :: ms, k, j, o, h => by
  simp only [pinRows, lookR]
  cases j with
  | zero => simp
  | succ j =>
   have h2 : (pinName (k + (j + 1)) == pinName k) = false := by simp [pinName]
   rw [h2, cond_false, show k + (j + 1) = k + 1 + j from by omega]
   exact lookR_pin_some (by simpa using h)
theorem MRt.length {I : Nat → Prop} {w : World} {g : Gh} {ms : List ORow} : ∀ {xs : List MArg} {vs : List Value}, MRt I w g ms xs vs → xs.length = vs.length
 | [], vs, h => by simp only [MRt] at h; subst h; rfl
 | .d x :: xs, vs, h => by
  simp only [MRt] at h
  obtain ⟨u, t, rfl, _, h⟩ := h
  simp [MRt.length h]
 | .m j :: xs, vs, h => by
  simp only [MRt] at h
  obtain ⟨u, t, o, rfl, _, _, h⟩ := h
  simp [MRt.length h]
 | .a x :: xs, vs, h => by
  simp only [MRt] at h
  obtain ⟨u, t, rfl, _, h⟩ := h
  simp [MRt.length h]
theorem Rt.of_MRt {I : Nat → Prop} {w : World} {g gh : Gh} {ms : List ORow} (hI : gh.I = I) (hgI : g.I = I) (hg : ∀ j, gh.bt (pinName j) = g.bt j ∧ gh.kp (pinName j) = g.kp j ∧ gh.sz (pinName j) = g.sz j) : ∀ {xs : List MArg} {vs : List Value}, MRt I w g ms xs vs → Rt gh w (xs.map (mAv ms)) vs
 | [], vs, h => by simpa [MRt, Rt] using h
 | .d x :: xs, vs, h => by
  simp only [MRt] at h
  obtain ⟨u, t, rfl, h1, h⟩ := h
  simp only [List.map_cons, Rt, mAv, R]
  exact ⟨u, t, rfl, by rw [hI]; exact h1, Rt.of_MRt hI hgI hg h⟩
 | .m j :: xs, vs, h => by
  simp only [MRt] at h
  obtain ⟨u, t, o, rfl, h1, h2, h⟩ := h
  simp only [List.map_cons, Rt, mAv, h1, Option.map_some, Option.getD_some]
  refine ⟨u, t, rfl, ?_, Rt.of_MRt hI hgI hg h⟩
  simp only [R] at h2 ⊢
  rw [(hg j).1, (hg j).2.1]
  exact h2
 | .a x :: xs, vs, h => by
  simp only [MRt] at h
  obtain ⟨u, t, rfl, h1, h⟩ := h
  simp only [List.map_cons, Rt, mAv]
  exact ⟨u, t, rfl, R.ren (fun b hb => by rw [hI]; rw [hgI] at hb; exact hb) x u (fun r _ => hg r) h1, Rt.of_MRt hI hgI hg h⟩
theorem mcalls_of {P : Program} {f : FuncId} {fn : Func} {c : Code} {margs : List MArg} {ms ms' rows : List ORow} {res : AV} {rs : List ResultVar} (hf : P.funcs[f]? = some fn) (hb : fn.body = some c) (hrs : fn.results.toList = rs) (hlen' : ms'.length = ms.length)
  (hsz : ∀ (j : Nat) (o o' : ORow), ms[j]? = some o → ms'[j]? = some o' → o'.sz = o.sz) (hargs : ∀ j, MArg.m j ∈ margs → j < ms.length) (harga : ∀ x, MArg.a x ∈ margs → ∀ r, r ∈ x.ids → r < ms.length) (h : AWp P c (aPost (ResOkM P rs ms' rows res)) ⟨margs.map (mAv ms) ++ List.replicate (fn.ntmps - margs.length) .any, lookR (pinRows 0 ms)⟩) : MCalls P f margs ms ms' rows res := by
 subst hrs
 intro I w g vs hgI hI hrows hdist hvs
 have hlen := hvs.length
 obtain ⟨gh, eg⟩ : ∃ gh : Gh, gh = ⟨I, fun r => g.bt (r - 1000000000), fun r => g.kp (r - 1000000000), fun r => g.sz (r - 1000000000)⟩ := ⟨_, rfl⟩
 have hpin : ∀ j, gh.bt (pinName j) = g.bt j ∧ gh.kp (pinName j) = g.kp j ∧ gh.sz (pinName j) = g.sz j := fun j => by
  subst eg
  simp [pinName]
 have hS0 : Sim ⟨mown g ms.length w, fun r => g.bt (r - 1000000000), fun r => g.kp (r - 1000000000)⟩ w gh ⟨margs.map (mAv ms) ++ List.replicate (fn.ntmps - margs.length) .any, lookR (pinRows 0 ms)⟩ { tmps := vs.toArray ++ Array.replicate (fn.ntmps - vs.toArray.size) undef, defers := [] } w := by
  constructor
  ·rfl
  ·have h1 : Rt gh w (margs.map (mAv ms)) vs := Rt.of_MRt (by rw [eg]) hgI (fun j => hpin j) hvs
   have := h1.app (Rt.anys (fn.ntmps - margs.length))
   simpa [hlen] using this
  ·exact Out.refl _ _
  ·exact fun k hk => .inl hk
  ·subst eg; exact hI
  ·intro r row hr _
   obtain ⟨j, o, hj, rfl, rfl⟩ := lookR_pin hr
   rw [Nat.zero_add]
   obtain ⟨q1, q2⟩ := hrows j o hj
   refine ⟨(hpin j).2.2.trans q1, ?_⟩
   rcases q2 with ⟨q2, q3⟩ | ⟨b, cur, us, m1, m2, m3, m4, m5, m6, m7, m8, m9⟩
   ·exact .inl ⟨(hpin j).1.trans q2, q3⟩
   ·refine .inr ⟨b, cur, us, (hpin j).1.trans m1, .inr ⟨j, (List.getElem?_eq_some_iff.1 hj).1, m1⟩, by subst eg; rw [hgI] at m3; exact m3, m4, ?_, m6, by rw [(hpin j).2.1]; exact m7, by rw [(hpin j).2.1]; exact m8, by rw [(hpin j).2.1]; exact m9⟩
    exact Rss.of_mapD_keep (gh := g) (fun b hb => by subst eg; rw [hgI] at hb; exact hb) (fun _ _ => rfl) m5
  ·intro r r' row row' b hne h1 h2 _ _ b1 b2
   obtain ⟨j, o, hj, rfl, rfl⟩ := lookR_pin h1
   obtain ⟨j', o', hj', rfl, rfl⟩ := lookR_pin h2
   rw [Nat.zero_add] at b1 b2 hne
   rw [(hpin j).1] at b1
   rw [Nat.zero_add] at hne
   rw [(hpin j').1] at b2
   exact (hdist j j' b (List.getElem?_eq_some_iff.1 hj).1 (List.getElem?_eq_some_iff.1 hj').1 (fun e => hne (by rw [e])) b1 b2).elim
  ·intro r hr
   rw [idsL_append] at hr
   rcases List.mem_append.1 hr with hr | hr
   ·obtain ⟨x, hx, hr⟩ := mem_idsL.1 hr
    obtain ⟨m, hm, rfl⟩ := List.mem_map.1 hx
    cases m with
    | d x => simp [mAv, AV.ids] at hr
    | m j =>
     simp [mAv, AV.ids] at hr
     subst hr
     have := lookR_pin_some (k := 0) (List.getElem?_eq_getElem (hargs j hm))
     rwa [Nat.zero_add] at this
    | a x =>
     obtain ⟨r', hr', rfl⟩ := ren_ids _ _ _ hr
     have := lookR_pin_some (k := 0) (List.getElem?_eq_getElem (harga x hm r' hr'))
     rwa [Nat.zero_add] at this
   ·have : ∀ n, AV.idsL (List.replicate n .any) = [] := fun n => by
     induction n with
     | zero => rfl
     | succ n ih => simp [List.replicate_succ, AV.idsL, AV.ids, ih]
    rw [this] at hr
    simp at hr
  ·intro r row hr _
   subst eg
   exact ⟨rfl, rfl⟩
  ·intro r row hr e he r' hr'
   obtain ⟨j, o, hj, rfl, rfl⟩ := lookR_pin hr
   simp only [ORow.pin, List.mem_map] at he
   obtain ⟨ds, _, rfl⟩ := he
   rw [idsL_mapD] at hr'; simp at hr'
 refine calls_of_wp hf hb (wp_mono (h _ w _ _ w hS0) ?_)
 rintro e a' w' ⟨s', gh', hq, hS⟩
 have fin : ResOkM P fn.results.toList ms' rows res s' → a'.defers = [] ∧ ∃ v, (results fn a'.tmps).run P w' = .ok v w' ∧
   ∃ v' G, Ending.returned v = .returned v' ∧ Out (mown g ms.length w) w w' ∧ (∀ b, G.I b → w.heap.size ≤ b ∧ b < w'.heap.size) ∧
   (∀ j, j < ms.length → G.bt (rows.length + j) = g.bt j ∧ G.kp (rows.length + j) = g.kp j ∧ G.sz (rows.length + j) = g.sz j) ∧
   (∀ j o, ms'[j]? = some o → RowAt (fun _ => True) g w' j (o.row j)) ∧
   (∀ j o, rows[j]? = some o → RowAt (fun b => w.heap.size ≤ b) G w' j (o.row j)) ∧
   (∀ j j' b, j < rows.length → j' < rows.length → j ≠ j' → G.bt j = some b → G.bt j' = some b → False) ∧
   (∀ r, r ∈ res.ids → r < rows.length + ms.length) ∧ R G w' res v' := fun ⟨xs, h, hx, hres, hfl, hfr, hfm, hids, hinj, hlo, hpn, hrows', hmut⟩ => by
  obtain ⟨v, hv, hR⟩ := results_run hS hx
  have pins : ∀ j, j < ms.length → ∃ o row, ms'[j]? = some o ∧ s'.mem (pinName j) = some row ∧ row.g ∧ row.ty = o.ty ∧ row.sz = o.sz ∧ row.els = o.els.map (·.map .d) ∧ gh'.bt (pinName j) = g.bt j ∧ gh'.kp (pinName j) = g.kp j := fun j hj => by
   have ho : ms'[j]? = some (ms'[j]'(by omega)) := List.getElem?_eq_getElem (by omega)
   obtain ⟨row, k1, k2, k3, k4, k5⟩ := hmut j _ ho
   obtain ⟨p1, p2⟩ := hS.pins _ row k1 (by unfold pinned pinName; omega)
   refine ⟨_, row, ho, k1, k2, k3, k4, k5, ?_, ?_⟩
   ·rw [p1]; simp [pinName]
   ·rw [p2]; simp [pinName]
  refine ⟨hS.defers, v, hv, v, ⟨fun _ => False, fun r => gh'.bt (h r), fun r => gh'.kp (h r), fun r => gh'.sz (h r)⟩, rfl, hS.below, fun _ hh => hh.elim, fun j hj => ?_, fun j o hj => ?_, fun j o hj => ?_, fun j j' b hj hj' hne hb1 hb2 => ?_, fun r hr => by rw [← hlen']; exact hids r hr, ?_⟩
  ·obtain ⟨o, row, ho, k1, k2, k3, k4, k5, k6, k7⟩ := pins j hj
   simp only
   rw [hpn j (by omega)]
   refine ⟨k6, k7, ?_⟩
   have h1 := (hS.rows _ row k1 k2).1
   have h2 := (hrows j _ (List.getElem?_eq_getElem hj)).1
   exact h1.trans (k4.trans ((hsz j _ _ (List.getElem?_eq_getElem hj) ho).trans h2.symm))
  ·have hjm : j < ms.length := by rw [← hlen']; exact (List.getElem?_eq_some_iff.1 hj).1
   obtain ⟨o', row, ho, k1, k2, k3, k4, k5, k6, k7⟩ := pins j hjm
   rw [hj] at ho; injection ho with ho; subst ho
   have h2 := (hrows j _ (List.getElem?_eq_getElem hjm))
   obtain ⟨hz, hrow⟩ := hS.rows _ row k1 k2
   refine ⟨h2.1.trans (hsz j _ _ (List.getElem?_eq_getElem hjm) hj).symm, ?_⟩
   rcases hrow with ⟨q1, q2⟩ | ⟨b, cur, us, m1, m2, m3, m4, m5, m6, m7, m8, m9⟩
   ·refine .inl ⟨by rw [← k6]; exact q1, ?_⟩
    simp only [ORow.row]
    rw [← k5]; exact q2
   ·rw [k6] at m1
    refine .inr ⟨b, cur, us, m1, trivial, ?_, by simp only [ORow.row]; rw [← k3]; exact m4, ?_, m6, by simp only [ORow.row]; rw [← k4, ← k7]; exact m7, by rw [← k7]; exact m8, by simp only [ORow.row]; rw [← k5, ← k7]; exact m9⟩
    ·rcases h2.2 with ⟨hn, _⟩ | ⟨b', _, _, n1, _, n3, _⟩
     ·rw [m1] at hn; cases hn
     ·rw [m1] at n1; injection n1 with n1; subst n1; exact n3
    ·simp only [ORow.row]
     rw [k5, k4] at m5
     exact Rss.flatD (fun l hl => hfm o (List.mem_of_getElem? hj) l hl) m5
  ·obtain ⟨row, k1, k2, k3, k4, k5, k6⟩ := hrows' j o hj
   have hjl := (List.getElem?_eq_some_iff.1 hj).1
   obtain ⟨hz, hrow⟩ := hS.rows _ row k1 k2
   refine ⟨hz.trans k4, ?_⟩
   rcases hrow with ⟨q1, q2⟩ | ⟨b, cur, us, m1, m2, m3, m4, m5, m6, m7, m8, m9⟩
   ·refine .inl ⟨q1, ?_⟩
    simp only [ORow.row]
    rw [← k5]; exact q2
   ·refine .inr ⟨b, cur, us, m1, ?_, fun hh => hh, ?_, ?_, m6, ?_, m8, ?_⟩
    ·rcases m2 with m2 | ⟨j', hj', m2⟩
     ·exact m2
     ·exfalso
      obtain ⟨o', row', _, l1, l2, _, _, _, l6, _⟩ := pins j' hj'
      have hne : h j ≠ pinName j' := fun e => by have := hlo j hjl; rw [e] at this; unfold pinName at this; omega
      have := (hS.apart (h j) (pinName j') row row' b hne k1 l1 k2 l2 m1 (l6.trans m2)).1
      rw [k6] at this; cases this
    ·simp only [ORow.row]; rw [← k3]; exact m4
    ·simp only [ORow.row]
     rw [k5, k4] at m5
     exact Rss.flatD (fun l hl => hfr o (List.mem_of_getElem? hj) l hl) m5
    ·simp only [ORow.row]; rw [← k4]; exact m7
    ·simp only [ORow.row]; rw [← k5]; exact m9
  ·obtain ⟨row1, p1, p2, _, _, _, p6⟩ := hrows' j _ (List.getElem?_eq_getElem hj)
   obtain ⟨row2, q1, q2, _, _, _, q6⟩ := hrows' j' _ (List.getElem?_eq_getElem hj')
   have := (hS.apart (h j) (h j') row1 row2 b (fun e => hne (hinj j j' hj hj' e)) p1 q1 p2 q2 hb1 hb2).1
   rw [p6] at this; cases this
  ·rw [hres] at hR
   exact R.unren (gh := gh') (f := h) (fun r => ⟨rfl, rfl, rfl⟩) res v hfl hR
 cases e with
 | normal => exact fin hq
 | ret => exact fin hq
 | _ => exact hq.elim
end Go.Proofs.YtjkfadaedgidpaaGreat
