/- Each operation does to frame and world what it does to the abstract state: loads, stores, new variables and rows. No condition. -/
import Derived.Test.YtjkfadaedgidpaaGreatAbsH
namespace Go.Proofs.YtjkfadaedgidpaaGreat
open Go.RowKit
set_option linter.unusedVariables false
set_option linter.unusedSimpArgs false
section
variable {P : Program} {B : Env} {w0 w w' : World} {gh gh' : YtjkfadaedgidpaaGreat.Gh} {s : AS} {a : Act} {o : Oper} {e : Eff} {G : Prop} {Q : Exit → Act → World → Prop}
theorem tyOk_spec {t : TypeId} (h : tyOk P t = true) : (∃ d, P.underlying t = some d) ∧ ∃ i, P.info? t = some i ∧ i.size = szT P t := by
 simp only [tyOk, Bool.and_eq_true, Option.isSome_iff_exists] at h
 obtain ⟨⟨d, h1⟩, i, h2⟩ := h
 exact ⟨⟨d, h1⟩, i, h2, by simp [szT, h2]⟩
theorem isAgg_run {t : TypeId} (h : tyOk P t = true) : (isAgg t).run P w = .ok (aggT P t) w := by
 obtain ⟨⟨d, h1⟩, _⟩ := tyOk_spec h
 cases d <;> simp [isAgg, run_underlying h1, aggT, h1]
theorem loadVar_agg {t : TypeId} (h : tyOk P t = true) (ha : aggT P t = true) {b o : Nat} {us : List Value} (hl : us.length = szT P t) (hc : cellsAt w b o us) :
  (loadVar t ⟨b, o, none⟩).run P w = .ok (.agg us.toArray) w := by
 obtain ⟨_, i, hi, hs⟩ := tyOk_spec h
 have h1 := run_loadCells_list (P := P) w ⟨b, o, none⟩ us (fun j v hv => by rw [Addr.add_lit]; exact hc j v hv)
 rw [hl] at h1
 simp [loadVar, isAgg_run h, ha, sizeOf, typeInfo, hi, hs, h1]
theorem loadVar_one {t : TypeId} (h : tyOk P t = true) (ha : aggT P t = false) {b o : Nat} {u : Value} (hc : w.cell? ⟨b, o, none⟩ = some u) :
  (loadVar t ⟨b, o, none⟩).run P w = .ok u w := by
 simp [loadVar, isAgg_run h, ha, load, Sem.run, hc]
theorem loadAt_run {t : TypeId} {b o : Nat} {u : Value} (h : (loadVar t ⟨b, o, none⟩).run P w = .ok u w) : (Instr.loadAt t (.pointer (some ⟨b, o, none⟩))).run P w = .ok u w := by
 simp [Instr.loadAt, Instr.sureAddr, h]
theorem Rs.of_D {g : YtjkfadaedgidpaaGreat.Gh} : ∀ {ds : List D} {vs : List Value}, RDs g.I w ds vs → Rs g w (ds.map .d) vs
 | [], vs, h => by simp only [RDs] at h; subst h; simp [Rs]
 | x :: ds, vs, h => by
  simp only [RDs] at h
  obtain ⟨u, t, rfl, h1, h2, h3⟩ := h
  simp only [List.map_cons, Rs]
  exact ⟨u, t, rfl, by simp only [R]; exact h1, h2, Rs.of_D h3⟩
theorem index_run {t e : TypeId} {k : IntKind} {n : Int} {len : Nat} {vs : List Value} {u : Value} (h : arrT P t = some (len, e)) (ht : tyOk P e = true) (ha : aggT P e = false) (hs : szT P e = 1) (h0 : 0 ≤ n) (h1 : n < (len : Int)) (hu : vs[n.toNat]? = some u) :
  (Instr.index t (.agg vs.toArray) (.int k n)).run P w = .ok u w := by
 obtain ⟨hun, i, hi, hsz⟩ := arrT_spec h
 simp [Instr.index, asIntOf, run_underlying hun, h0, h1, sizeOf, typeInfo, hi, hsz, hs, part, isAgg_run ht, ha, hu]
theorem sound_index {t : TypeId} {x ix : Operand} (hop : o.op = .index t x ix) (h : Sim B w0 gh s a w) (hc : acore P s G o e) (hG : G) :
  o.wp P a w (fun a' w' => ∃ gh', Sim B w0 gh' (s.app o.dst (wrapE o G e)) a' w') Q := by
 have hc' := hc
 unfold acore at hc'
 simp only [hop] at hc'
 obtain ⟨kd, n, m, e', cs, h1, h2, ht, ha, hs, hx, hl, hk, h4⟩ := hc'
 obtain ⟨k1, k2, k3, k4⟩ := hk hG
 have hi := h.at_ k2
 rw [h1] at hi
 simp only [R, RD] at hi
 have hr := h.at_ k1
 have key : ∃ vs : List Value, a.eval x = .agg vs.toArray ∧ Rs gh w cs vs := by
  rcases hx with hx | ⟨ds, hx, rfl⟩
  ·rw [hx] at hr
   simpa only [R] using hr
  ·rw [hx] at hr
   simp only [R, RD] at hr
   obtain ⟨vs, e1, e2⟩ := hr
   exact ⟨vs, e1, Rs.of_D e2⟩
 obtain ⟨vs, ex, hrs⟩ := key
 have hlt : n.toNat < cs.length := by omega
 obtain ⟨u, hu, hru, _⟩ := hrs.get n.toNat cs[n.toNat] (List.getElem?_eq_getElem hlt)
 refine sound_still (u := u) h hc hG h4 ?_ (by rw [List.getD, List.getElem?_eq_getElem hlt]; exact hru)
 simp only [execOp, hop, ex, hi]
 exact run_value (index_run h2 ht ha hs k3 k4 hu)
theorem fieldT_spec {t e : TypeId} {f off : Nat} (h : fieldT P t f = some (off, e)) : ∃ fs fd, P.underlying t = some (.struct fs) ∧ fs[f]? = some fd ∧ fd.offset = off ∧ fd.type = e := by
 unfold fieldT at h
 split at h
 ·rename_i fs hfs
  simp only [Option.map_eq_some_iff, Prod.mk.injEq] at h
  obtain ⟨fd, h1, h2, h3⟩ := h
  exact ⟨fs, fd, hfs, h1, h2, h3⟩
 ·cases h
theorem field_one {t e : TypeId} {f off : Nat} {vs : List Value} {u : Value} (h : fieldT P t f = some (off, e)) (ht : tyOk P e = true) (ha : aggT P e = false) (hu : vs[off]? = some u) :
  (Instr.field t (.agg vs.toArray) f).run P w = .ok u w := by
 obtain ⟨fs, fd, h1, h2, rfl, rfl⟩ := fieldT_spec h
 simp [Instr.field, run_underlying h1, h2, part, isAgg_run ht, ha, hu, asAgg]
theorem field_agg {t e : TypeId} {f off : Nat} {vs : List Value} (h : fieldT P t f = some (off, e)) (ht : tyOk P e = true) (ha : aggT P e = true) :
  (Instr.field t (.agg vs.toArray) f).run P w = .ok (.agg ((vs.drop off).take (szT P e)).toArray) w := by
 obtain ⟨fs, fd, h1, h2, rfl, rfl⟩ := fieldT_spec h
 obtain ⟨_, i, hi, hs⟩ := tyOk_spec ht
 simp [Instr.field, run_underlying h1, h2, part, isAgg_run ht, ha, asAgg, sizeOf, typeInfo, hi, hs, List.extract_eq_take_drop, List.extract_toArray]
theorem sound_field {t : TypeId} {x : Operand} {f : Nat} (hop : o.op = .field t x f) (h : Sim B w0 gh s a w) (hc : acore P s G o e) (hG : G) :
  o.wp P a w (fun a' w' => ∃ gh', Sim B w0 gh' (s.app o.dst (wrapE o G e)) a' w') Q := by
 have hc' := hc
 unfold acore at hc'
 simp only [hop] at hc'
 obtain ⟨off, e', cs, h1, ht, hx, hk, h3⟩ := hc'
 have hr := h.at_ (hk hG)
 have key : ∃ vs : List Value, a.eval x = .agg vs.toArray ∧ Rs gh w cs vs := by
  rcases hx with hx | ⟨ds, hx, rfl⟩
  ·rw [hx] at hr
   simpa only [R] using hr
  ·rw [hx] at hr
   simp only [R, RD] at hr
   obtain ⟨vs, e1, e2⟩ := hr
   exact ⟨vs, e1, Rs.of_D e2⟩
 obtain ⟨vs, ex, hrs⟩ := key
 cases hagg : aggT P e' with
 | true =>
  rw [hagg] at h3
  simp only [cond_true] at h3
  obtain ⟨k, h3⟩ := h3
  refine sound_still h hc hG h3 (u := .agg ((vs.drop off).take (szT P e')).toArray) ?_ (by simp only [R]; exact ⟨_, rfl, (hrs.drop off).take _⟩)
  simp only [execOp, hop, ex]
  exact run_value (field_agg h1 ht hagg)
 | false =>
  rw [hagg] at h3
  simp only [cond_false] at h3
  obtain ⟨k, h3⟩ := h3
  have hlt := k hG
  obtain ⟨u, hu, hru, _⟩ := hrs.get off cs[off] (List.getElem?_eq_getElem hlt)
  refine sound_still (u := u) h hc hG h3 ?_ (by rw [List.getD, List.getElem?_eq_getElem hlt]; exact hru)
  simp only [execOp, hop, ex]
  exact run_value (field_one h1 ht hagg hu)
theorem sound_load {t : TypeId} {x : Operand} (hop : o.op = .load t x) (h : Sim B w0 gh s a w) (hc : acore P s G o e) (hG : G) :
  o.wp P a w (fun a' w' => ∃ gh', Sim B w0 gh' (s.app o.dst (wrapE o G e)) a' w') Q := by
 have hc' := hc
 unfold acore at hc'
 simp only [hop] at hc'
 obtain ⟨ht, h1, h3⟩ := hc'
 have hr := h.at_ (h1 hG)
 generalize hx : s.at x = v at *
 split at h3
 ·rename_i r i o'
  obtain ⟨row, hm, h3⟩ := h3
  simp only [R] at hr
  obtain ⟨b, hb, ex⟩ := hr
  cases hagg : aggT P t with
  | true =>
   rw [hagg] at h3
   simp only [cond_true] at h3
   obtain ⟨k, h3⟩ := h3
   obtain ⟨k1, k2, k3⟩ := k hG
   obtain ⟨hsz, hrow⟩ := h.rows r row hm k1
   rcases hrow with ⟨hn, _⟩ | ⟨b', cur, vs, m1, m2, m3, m4, m5, m6, m7, m8, m9⟩
   ·rw [hb] at hn; cases hn
   ·rw [hb] at m1
    injection m1 with m1
    subst m1
    have hgd : row.els.getD i [] = row.els[i] := by simp [List.getD, List.getElem?_eq_getElem k2]
    rw [hgd] at k3 h3
    obtain ⟨us, n1, n2, n3⟩ := m5.get i _ (List.getElem?_eq_getElem k2)
    have hcell : cellsAt w b (0 + (i * row.sz)) us := (cellsAt.of_block m4 m6).sub n3
    have hlen := n2.length
    have hus : ((us.drop o').take (szT P t)).length = szT P t := by simp; omega
    refine sound_still h hc hG h3 (u := .agg ((us.drop o').take (szT P t)).toArray) ?_ ?_
    ·simp only [execOp, hop, ex]
     refine run_value (loadAt_run (loadVar_agg ht hagg hus ?_))
     rw [hsz]
     intro j v hv
     rw [List.getElem?_take] at hv
     split at hv
     ·have := hcell.drop o' j v hv
      rw [← this]
      congr 2
      omega
     ·cases hv
    ·simp only [R]
     exact ⟨_, rfl, (n2.drop o').take _⟩
  | false =>
   rw [hagg] at h3
   simp only [cond_false] at h3
   obtain ⟨k, h3⟩ := h3
   obtain ⟨k1, k2, k3⟩ := k hG
   obtain ⟨hsz, hrow⟩ := h.rows r row hm k1
   rcases hrow with ⟨hn, _⟩ | ⟨b', cur, vs, m1, m2, m3, m4, m5, m6, m7, m8, m9⟩
   ·rw [hb] at hn; cases hn
   ·rw [hb] at m1
    injection m1 with m1
    subst m1
    have hgd : row.els.getD i [] = row.els[i] := by simp [List.getD, List.getElem?_eq_getElem k2]
    rw [hgd] at k3 h3
    obtain ⟨us, n1, n2, n3⟩ := m5.get i _ (List.getElem?_eq_getElem k2)
    have hcell : cellsAt w b (0 + (i * row.sz)) us := (cellsAt.of_block m4 m6).sub n3
    obtain ⟨u, hu, hru, _⟩ := n2.get o' _ (List.getElem?_eq_getElem k3)
    refine sound_still h hc hG h3 (u := u) ?_ ?_
    ·simp only [execOp, hop, ex]
     refine run_value (loadAt_run (loadVar_one ht hagg ?_))
     rw [hsz, ← hcell o' u hu]
     congr 2
     omega
    ·simp only [List.getD, List.getElem?_eq_getElem k3, Option.getD_some]
     exact hru
 ·rename_i cs
  simp only [R] at hr
  obtain ⟨b, o', vs, ex, hI, hd, hcells⟩ := hr
  have hlen := hd.length
  cases hagg : aggT P t with
  | true =>
   rw [hagg] at h3
   simp only [cond_true] at h3
   obtain ⟨k, h3⟩ := h3
   have k2 := k hG
   have hus : (vs.take (szT P t)).length = szT P t := by simp; omega
   refine sound_still h hc hG h3 (u := .agg (vs.take (szT P t)).toArray) ?_ ?_
   ·simp only [execOp, hop, ex]
    refine run_value (loadAt_run (loadVar_agg ht hagg hus ?_))
    intro j v hv
    rw [List.getElem?_take] at hv
    split at hv
    ·exact hcells j v hv
    ·cases hv
   ·simp only [R, RD]
    exact ⟨_, rfl, hd.take _⟩
  | false =>
   rw [hagg] at h3
   simp only [cond_false] at h3
   obtain ⟨k, h3⟩ := h3
   have k2 := k hG
   obtain ⟨u, hu, hru, _⟩ := hd.get 0 _ (List.getElem?_eq_getElem k2)
   refine sound_still h hc hG h3 (u := u) ?_ ?_
   ·simp only [execOp, hop, ex]
    refine run_value (loadAt_run (loadVar_one ht hagg ?_))
    have := hcells 0 u hu
    rwa [Nat.add_zero] at this
   ·simp only [List.getD, List.getElem?_eq_getElem k2, Option.getD_some, R]
    exact hru
 ·rename_i cs
  simp only [R, RD] at hr
  obtain ⟨b, o', vs, ex, hI, hd, hcells⟩ := hr
  have hlen := hd.length
  cases hagg : aggT P t with
  | true =>
   rw [hagg] at h3
   simp only [cond_true] at h3
   obtain ⟨k, h3⟩ := h3
   have k2 := k hG
   have hus : (vs.take (szT P t)).length = szT P t := by simp; omega
   refine sound_still h hc hG h3 (u := .agg (vs.take (szT P t)).toArray) ?_ ?_
   ·simp only [execOp, hop, ex]
    refine run_value (loadAt_run (loadVar_agg ht hagg hus ?_))
    intro j v hv
    rw [List.getElem?_take] at hv
    split at hv
    ·exact hcells j v hv
    ·cases hv
   ·simp only [R, RD]
    exact ⟨_, rfl, hd.take _⟩
  | false =>
   rw [hagg] at h3
   simp only [cond_false] at h3
   obtain ⟨k, h3⟩ := h3
   have k2 := k hG
   obtain ⟨u, hu, hru, _⟩ := hd.get 0 _ (List.getElem?_eq_getElem k2)
   refine sound_still h hc hG h3 (u := u) ?_ ?_
   ·simp only [execOp, hop, ex]
    refine run_value (loadAt_run (loadVar_one ht hagg ?_))
    have := hcells 0 u hu
    rwa [Nat.add_zero] at this
   ·simp only [List.getD, List.getElem?_eq_getElem k2, Option.getD_some, R]
    exact hru
 ·exact h3.elim
theorem cells_of_one {y : Value} (h : y.oneCell' = true) : y.cells = #[y] := by
 cases y <;> first | rfl | (simp [Value.oneCell'] at h)
theorem Rs.of_values : ∀ {cs : List Value}, (∀ u ∈ cs, u.oneCell' = true) → Rs gh w (cs.map fun x => AV.d (.v x)) cs
 | [], _ => by simp [Rs]
 | c :: cs, h => by
  simp only [List.map_cons, Rs, R, RD]
  exact ⟨c, cs, rfl, rfl, h c (by simp), Rs.of_values fun u hu => h u (by simp [hu])⟩
theorem cell1_one {x : AV} {y : Value} (hk1 : x.cell1) (h : R gh w x y) : y.oneCell' = true := by
 cases x with
 | any => simp [AV.cell1] at hk1
 | d z =>
  cases z with
  | v u => simp only [R, RD] at h; subst h; simpa [AV.cell1] using hk1
  | agg cs => simp [AV.cell1] at hk1
  | sl sz els => simp only [R, RD] at h; obtain ⟨A, c, rfl, _⟩ := h; rfl
  | pt cs => simp only [R, RD] at h; obtain ⟨b, o, vs, rfl, _⟩ := h; rfl
  | fn f cs => simp [AV.cell1] at hk1
 | ep cs => simp only [R] at h; obtain ⟨b, o, vs, rfl, _⟩ := h; rfl
 | ref r n => simp only [R] at h; rcases h with ⟨_, _, rfl⟩ | ⟨b, _, rfl⟩ <;> rfl
 | ptr r i o => simp only [R] at h; obtain ⟨b, _, rfl⟩ := h; rfl
 | ag cs => simp [AV.cell1] at hk1
 | tp cs => simp [AV.cell1] at hk1
 | wh g z => simp [AV.cell1] at hk1
 | cl f cs => simp [AV.cell1] at hk1
theorem R.cellsOf {x : AV} {y : Value} (hk : cell1s x.cellsOf) (h : R gh w x y) : Rs gh w x.cellsOf y.cells.toList := by
 have single : ∀ z : AV, R gh w z y → y.oneCell' = true → Rs gh w [z] y.cells.toList := fun z hz h1 => by
  rw [cells_of_one h1]
  simp only [Rs]
  exact ⟨y, [], rfl, hz, h1, rfl⟩
 unfold AV.cellsOf at hk ⊢
 split at hk
 ·simp only [R] at h
  obtain ⟨vs, rfl, h⟩ := h
  simpa [Value.cells] using h
 ·simp only [R, RD] at h
  obtain ⟨vs, rfl, h⟩ := h
  simpa [Value.cells] using Rs.of_RDs (G := gh) h
 ·simp only [R, RD] at h
  subst h
  simp only [Value.cells]
  refine Rs.of_values fun u hu => ?_
  have := hk (.d (.v u)) (List.mem_map.2 ⟨u, hu, rfl⟩)
  simpa [AV.cell1] using this
 ·have hk1 := hk x (by simp)
  refine single x h ?_
  cases x with
  | any => simp [AV.cell1] at hk1
  | d z =>
   cases z with
   | v u => simp only [R, RD] at h; subst h; simpa [AV.cell1] using hk1
   | agg cs => simp [AV.cell1] at hk1
   | sl sz els => simp only [R, RD] at h; obtain ⟨A, c, rfl, _⟩ := h; rfl
   | pt cs => simp only [R, RD] at h; obtain ⟨b, o, vs, rfl, _⟩ := h; rfl
   | fn f cs => simp [AV.cell1] at hk1
  | ep cs => simp only [R] at h; obtain ⟨b, o, vs, rfl, _⟩ := h; rfl
  | ref r n => simp only [R] at h; rcases h with ⟨_, _, rfl⟩ | ⟨b, _, rfl⟩ <;> rfl
  | ptr r i o => simp only [R] at h; obtain ⟨b, _, rfl⟩ := h; rfl
  | ag cs => simp [AV.cell1] at hk1
  | tp cs => simp [AV.cell1] at hk1
  | wh g z => simp [AV.cell1] at hk1
  | cl f cs => simp [AV.cell1] at hk1
def Gh.add (g : YtjkfadaedgidpaaGreat.Gh) (id : Nat) (b : Option Nat) (k sz : Nat) : YtjkfadaedgidpaaGreat.Gh :=
 { I := g.I, bt := fun r => if r = id then b else g.bt r, kp := fun r => if r = id then k else g.kp r, sz := fun r => if r = id then sz else g.sz r }
theorem Gh.add_ne (g : YtjkfadaedgidpaaGreat.Gh) {id r : Nat} (b : Option Nat) (k sz : Nat) (h : r ≠ id) : (g.add id b k sz).bt r = g.bt r ∧ (g.add id b k sz).kp r = g.kp r ∧ (g.add id b k sz).sz r = g.sz r := by
 simp [Gh.add, h]
theorem Gh.add_eq (g : YtjkfadaedgidpaaGreat.Gh) (id : Nat) (b : Option Nat) (k sz : Nat) : (g.add id b k sz).bt id = b ∧ (g.add id b k sz).kp id = k ∧ (g.add id b k sz).sz id = sz := by
 simp [Gh.add]
theorem row_block (h : Sim B w0 gh s a w) {r : Nat} {row : ARow} (hm : s.mem r = some row) (hg : row.g) {b : Nat} (hb : gh.bt r = some b) : b < w.heap.size := by
 obtain ⟨_, hrow⟩ := h.rows r row hm hg
 rcases hrow with ⟨hn, _⟩ | ⟨b', cur, vs, m1, m2, m3, m4, _⟩
 ·rw [hb] at hn; cases hn
 ·rw [hb] at m1; injection m1 with m1; subst m1
  exact (Array.getElem?_eq_some_iff.1 m4).1
theorem Sim.newRow (h : Sim B w0 gh s a w) (hc : acore P s G o e) (hG : G) {id : Nat} {v : AV} {row : ARow} (he : e = ⟨v, [(id, row)]⟩) (hfree : s.mem id = none) {b : Option Nat} {k : Nat} {u : Value}
  (hb : Below w.heap.size w w')
  (hrow : row.g → (b = none ∧ row.els = []) ∨ ∃ b' cur vs, b = some b' ∧ w.heap.size ≤ b' ∧ w'.heap[b']? = some (.cells cur row.ty (0, 0)) ∧ Rss gh w row.sz row.els vs ∧ cur.toList.take vs.length = vs ∧ cur.size = k * row.sz ∧ k ≤ maxLen ∧ row.els.length ≤ k)
  (hR : R (Gh.add gh id b k row.sz) w' v u) :
  Sim B w0 (Gh.add gh id b k row.sz) (s.app o.dst (wrapE o G e)) (a.put o.dst u) w' := by
 have hne : ∀ r, s.mem r ≠ none → r ≠ id := fun r hr e => hr (by rw [e]; exact hfree)
 have hIw : ∀ b, gh.I b → w'.heap[b]? = w.heap[b]? := fun b hI => hb.block b (h.imm b hI)
 have hids := acore_ids h.wf hc
 refine h.app hc hG (Out.of_below hb) (fun _ h => h) hIw (fun b hI => Nat.lt_of_lt_of_le (h.imm b hI) hb.size) (fun r hr => Gh.add_ne gh _ _ _ (hne r hr)) ?_ ?_ (by rw [he]; exact hR)
 ·intro r row' hr hg
  rw [he] at hr
  simp only [ovr] at hr
  split at hr
  ·rename_i hri
   subst hri
   injection hr with hr
   subst hr
   obtain ⟨e1, e2, e3⟩ := Gh.add_eq gh r b k row.sz
   refine ⟨e3, ?_⟩
   rcases hrow hg with ⟨k1, k2⟩ | ⟨b', cur, vs, k1, k2, k3, k4, k5, k6, k7, k8⟩
   ·exact .inl ⟨by rw [e1]; exact k1, k2⟩
   ·have k4' : Rss (gh.add r b k row.sz) w' row.sz row.els vs := Rss.keep (G := gh) (G' := gh.add r b k row.sz) (fun _ h => h) hIw _ _ _ (fun el hel r' hr' => Gh.add_ne gh _ _ _ (hne r' (hids.2 r row (by rw [he]; simp) el hel r' hr'))) k4
    refine .inr ⟨b', cur, vs, by rw [e1]; exact k1, h.base _ k2, fun hI => ?_, k3, k4', k5, by rw [e2]; exact k6, by rw [e2]; exact k7, by rw [e2]; exact k8⟩
    have := h.imm b' hI; omega
  ·rename_i hri
   have hnn : s.mem r ≠ none := by rw [hr]; simp
   exact (h.rows r row' hr hg).keep (fun _ h => h) hIw (Gh.add_ne gh _ _ _ (hne r hnn)) (fun el hel r' hr' => Gh.add_ne gh _ _ _ (hne r' (h.wfm r row' hr el hel r' hr')))
    (fun b hbt => hb.block b (row_block h hr hg hbt)) (fun _ _ hn => hn)
 ·intro r r' row1 row2 b0 hrr h1 h2 g1 g2 b1 b2
  rw [he] at h1 h2
  simp only [ovr] at h1 h2
  have fresh : ∀ (r : Nat) (row' : ARow), s.mem r = some row' → row'.g → (Gh.add gh id b k row.sz).bt r = some b0 → row.g → (Gh.add gh id b k row.sz).bt id = some b0 → False := fun r row' hr hg hbt hg0 hb0 => by
   have hnn : s.mem r ≠ none := by rw [hr]; simp
   rw [(Gh.add_ne gh _ _ _ (hne r hnn)).1] at hbt
   have hlt := row_block h hr hg hbt
   rw [(Gh.add_eq gh id b k row.sz).1] at hb0
   rcases hrow hg0 with ⟨k1, _⟩ | ⟨b', _, _, k1, k2, _⟩
   ·rw [hb0] at k1; cases k1
   ·rw [hb0] at k1; injection k1 with k1; omega
  split at h1
  ·rename_i hri
   injection h1 with h1
   subst h1
   split at h2
   ·rename_i hri'; exact (hrr (by rw [hri, hri'])).elim
   ·rw [hri] at b1
    exact (fresh r' row2 h2 g2 b2 g1 b1).elim
  ·split at h2
   ·rename_i hri'
    injection h2 with h2
    subst h2
    rw [hri'] at b2
    exact (fresh r row1 h1 g1 b1 g2 b2).elim
   ·have n1 : s.mem r ≠ none := by rw [h1]; simp
    have n2 : s.mem r' ≠ none := by rw [h2]; simp
    rw [(Gh.add_ne gh _ _ _ (hne r n1)).1] at b1
    rw [(Gh.add_ne gh _ _ _ (hne r' n2)).1] at b2
    exact h.apart r r' row1 row2 b0 hrr h1 h2 g1 g2 b1 b2
theorem heap_alloc_at (w : World) (o : Obj) : (w.alloc o).heap[w.heap.size]? = some o := heap_alloc_new w o
theorem Rss.single {cs : List AV} {vs : List Value} (h : Rs gh w cs vs) : Rss gh w cs.length [cs] vs := by
 simp only [Rss]
 exact ⟨vs, [], by simp, h.length.symm, h, rfl⟩
theorem sound_box {t : TypeId} {x : Operand} (hop : o.op = .box t x) (h : Sim B w0 gh s a w) (hc : acore P s G o e) (hG : G) :
  o.wp P a w (fun a' w' => ∃ gh', Sim B w0 gh' (s.app o.dst (wrapE o G e)) a' w') Q := by
 have hc' := hc
 unfold acore at hc'
 simp only [hop] at hc'
 obtain ⟨d, hd, hlt, hm, h1, h2⟩ := hc'
 obtain ⟨k1, k2⟩ := h1 hG
 have hr := (h.at_ k1).cellsOf k2
 have hrun : (execOp a.eval o).run P w = .ok (.value (.pointer (some ⟨w.heap.size, 0, none⟩))) (w.alloc (.cells (a.eval x).cells t)) := by
  simp [execOp, hop, Instr.box, newVar, Go.newRow, newObj, Sem.run]
 unfold Oper.wp
 rw [hrun]
 have hlen := hr.length
 refine ⟨_, h.newRow hc hG h2 hm (b := some w.heap.size) (k := 1) ((Below.refl _ _).alloc (Nat.le_refl _) _) (fun _ => .inr ⟨w.heap.size, (a.eval x).cells, (a.eval x).cells.toList, rfl, Nat.le_refl _, heap_alloc_at w _, ?_, List.take_of_length_le (Nat.le_refl _), ?_, by unfold maxLen; omega, by simp [newRow1]⟩) ?_⟩
 ·exact Rss.single hr
 ·simp only [newRow1, Nat.one_mul]; rw [hlen]; simp
 ·simp only [R]
  exact ⟨w.heap.size, (Gh.add_eq gh d _ _ _).1, by simp⟩
theorem zeroT_spec {t : TypeId} {z : List Value} (h : zeroT P t = some z) : ∃ i v, P.info? t = some i ∧ i.zero = some v ∧ v.cells.toList = z := by
 simp only [zeroT, Option.map_eq_some_iff, Option.bind_eq_some_iff] at h
 obtain ⟨v, ⟨i, h1, h2⟩, h3⟩ := h
 exact ⟨i, v, h1, h2, h3⟩
theorem sound_alloc {t : TypeId} (hop : o.op = .alloc t) (h : Sim B w0 gh s a w) (hc : acore P s G o e) (hG : G) :
  o.wp P a w (fun a' w' => ∃ gh', Sim B w0 gh' (s.app o.dst (wrapE o G e)) a' w') Q := by
 have hc' := hc
 unfold acore at hc'
 simp only [hop] at hc'
 obtain ⟨d, z, hd, hlt, hm, hz, hz1, h2⟩ := hc'
 obtain ⟨i, v, i1, i2, i3⟩ := zeroT_spec hz
 have hr : Rs gh w (z.map fun u => AV.d (.v u)) v.cells.toList := by rw [i3]; exact Rs.of_values hz1
 have hrun : (execOp a.eval o).run P w = .ok (.value (.pointer (some ⟨w.heap.size, 0, none⟩))) (w.alloc (.cells v.cells t)) := by
  simp [execOp, hop, Instr.alloc, zeroValue, typeInfo, i1, i2, newVar, Go.newRow, newObj, Sem.run]
 unfold Oper.wp
 rw [hrun]
 have hlen := hr.length
 refine ⟨_, h.newRow hc hG h2 hm (b := some w.heap.size) (k := 1) ((Below.refl _ _).alloc (Nat.le_refl _) _) (fun _ => .inr ⟨w.heap.size, v.cells, v.cells.toList, rfl, Nat.le_refl _, heap_alloc_at w _, ?_, List.take_of_length_le (Nat.le_refl _), ?_, by unfold maxLen; omega, by simp [newRow1]⟩) ?_⟩
 ·have := Rss.single hr
  simpa [newRow1] using this
 ·simp only [newRow1, Nat.one_mul]; rw [← i3]; simp
 ·simp only [R]
  exact ⟨w.heap.size, (Gh.add_eq gh d _ _ _).1, by simp⟩
theorem sound_len {c : Call} (hop : o.op = .call c) (hcl : c.callee = .builtin .len) (h : Sim B w0 gh s a w) (hc : acore P s G o e) (hG : G) :
  o.wp P a w (fun a' w' => ∃ gh', Sim B w0 gh' (s.app o.dst (wrapE o G e)) a' w') Q := by
 have hc' := hc
 unfold acore at hc'
 simp only [hop, hcl] at hc'
 obtain ⟨x, t, h1, h2, h3, h4, h5⟩ := hc'
 have hr := h.at_ (h4 hG)
 obtain ⟨et, hs⟩ := Option.isSome_iff_exists.1 h3
 obtain ⟨hu, _⟩ := sliceT_spec hs
 have hrun : ∀ A n k, a.eval x = .slice A n k → (execOp a.eval o).run P w = .ok (.value (.int .i64 n)) w := fun A n k ex => by
  simp [execOp, hop, resolve, hcl, h1, h2, ex, invoke, builtin, Builtin.len_, run_underlying hu, goInt]
 generalize s.at x = v at *
 split at h5
 ·simp only [R, RD] at hr
  obtain ⟨A, k, ex, _⟩ := hr
  exact sound_still h hc hG h5 (hrun _ _ _ ex) (by simp only [R, RD])
 ·simp only [R, RD] at hr
  exact sound_still h hc hG h5 (hrun _ _ _ hr) (by simp [R, RD])
 ·simp only [R] at hr
  rcases hr with ⟨_, rfl, ex⟩ | ⟨b, _, ex⟩
  ·exact sound_still h hc hG h5 (hrun _ _ _ ex) (by simp [R, RD])
  ·exact sound_still h hc hG h5 (hrun _ _ _ ex) (by simp only [R, RD])
 ·exact h5.elim
theorem evals_eq (h : Sim B w0 gh s a w) : ∀ {xs : List Operand} {l : List Value}, (xs.map fun x => (s.at x).gr) = l.map some → (∀ x ∈ xs, s.ok x) → xs.map a.eval = l
 | [], l, h1, _ => by
  cases l with
  | nil => rfl
  | cons _ _ => simp at h1
 | x :: xs, l, h1, h2 => by
  cases l with
  | nil => simp at h1
  | cons u l =>
   simp only [List.map_cons, List.cons.injEq] at h1 ⊢
   exact ⟨gr_eq h1.1 (h.at_ (h2 x (by simp))), evals_eq h h1.2 fun y hy => h2 y (by simp [hy])⟩
theorem sound_max {c : Call} (hop : o.op = .call c) (hcl : c.callee = .builtin .max) (h : Sim B w0 gh s a w) (hc : acore P s G o e) (hG : G) :
  o.wp P a w (fun a' w' => ∃ gh', Sim B w0 gh' (s.app o.dst (wrapE o G e)) a' w') Q := by
 have hc' := hc
 unfold acore at hc'
 simp only [hop, hcl] at hc'
 obtain ⟨l, h1, h2, h3⟩ := hc'
 obtain ⟨k1, k2⟩ := h2 hG
 have he := evals_eq h h1 k1
 refine sound_still (u := mxV l) h hc hG h3 ?_ (by simp only [R, RD])
 have : c.args.map a.eval = l.toArray := Array.ext' (by rw [Array.toList_map, he])
 simp only [execOp, hop, resolve, hcl, Sem.run_bind, Sem.run_pure, Result.andThen_ok, invoke, builtin, this, k2 w]
theorem sound_min {c : Call} (hop : o.op = .call c) (hcl : c.callee = .builtin .min) (h : Sim B w0 gh s a w) (hc : acore P s G o e) (hG : G) :
  o.wp P a w (fun a' w' => ∃ gh', Sim B w0 gh' (s.app o.dst (wrapE o G e)) a' w') Q := by
 have hc' := hc
 unfold acore at hc'
 simp only [hop, hcl] at hc'
 obtain ⟨l, h1, h2, h3⟩ := hc'
 obtain ⟨k1, k2⟩ := h2 hG
 have he := evals_eq h h1 k1
 refine sound_still (u := mnV l) h hc hG h3 ?_ (by simp only [R, RD])
 have : c.args.map a.eval = l.toArray := Array.ext' (by rw [Array.toList_map, he])
 simp only [execOp, hop, resolve, hcl, Sem.run_bind, Sem.run_pure, Result.andThen_ok, invoke, builtin, this, k2 w]
end
end Go.Proofs.YtjkfadaedgidpaaGreat
