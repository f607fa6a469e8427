/- Each operation does to frame and world what it does to the abstract state: slices written out, calls; all operations. No condition. -/
import Derived.Test.YtjkfadaedgidpaaGreatAbsL
import Derived.Laws.MakeOwn
namespace Go.Proofs.YtjkfadaedgidpaaGreat
open Go.RowKit
set_option linter.unusedVariables false
set_option linter.unusedSimpArgs false
theorem fold_parts (sz : Nat) : ∀ (ps : List (Nat × Value)) (k : Nat) (vs : List Value), ps.map (·.1) = List.range' k ps.length → (∀ p ∈ ps, p.2.cells.size = sz) → (k + ps.length) * sz = vs.length →
  ps.foldl (fun l p => spliceV l (p.1 * sz) p.2.cells.toList) vs = vs.take (k * sz) ++ (ps.map fun p => p.2.cells.toList).flatten
 | [], k, vs, _, _, h => by simp at h ⊢; rw [List.take_of_length_le (by omega)]
 | p :: ps, k, vs, h1, h2, h3 => by
  simp only [List.map_cons, List.length_cons, List.range'_succ, List.cons.injEq] at h1
  obtain ⟨e1, e2⟩ := h1
  have hp := h2 p (by simp)
  simp only [List.length_cons] at h3
  have hmul : (k + (ps.length + 1)) * sz = k * sz + ps.length * sz + sz := by rw [Nat.add_mul, Nat.succ_mul]; omega
  have hks : (k + 1) * sz = k * sz + sz := Nat.succ_mul k sz
  have hfit : k * sz + p.2.cells.toList.length ≤ vs.length := by simp [hp]; omega
  simp only [List.foldl_cons, List.map_cons, List.flatten_cons]
  rw [fold_parts sz ps (k + 1) _ e2 (fun q hq => h2 q (by simp [hq])) (by rw [e1, spliceV_length hfit, ← h3, show k + 1 + ps.length = k + (ps.length + 1) by omega])]
  rw [e1]
  unfold spliceV
  rw [List.take_left' (by rw [List.length_append, List.length_take]; simp [hp]; omega)]
  simp
section
variable {P : Program} {B : Env} {w0 w w' : World} {gh gh' : YtjkfadaedgidpaaGreat.Gh} {s : AS} {a : Act} {o : Oper} {e : Eff} {G : Prop} {Q : Exit → Act → World → Prop}
theorem Rss.of_parts {sz : Nat} (h : Sim B w0 gh s a w) : ∀ {ps : List (Nat × Operand)}, (∀ p ∈ ps, s.ok p.2 ∧ (s.at p.2).cellsOf.length = sz ∧ cell1s (s.at p.2).cellsOf) →
  Rss gh w sz (ps.map fun p => (s.at p.2).cellsOf) (ps.map fun p => (a.eval p.2).cells.toList).flatten
 | [], _ => by simp [Rss]
 | p :: ps, hp => by
  obtain ⟨k1, k2, k3⟩ := hp p (by simp)
  have hr := (h.at_ k1).cellsOf k3
  simp only [List.map_cons, List.flatten_cons, Rss]
  exact ⟨_, _, rfl, by rw [← hr.length, k2], hr, Rss.of_parts h fun q hq => hp q (by simp [hq])⟩
theorem sound_buildSlice {t : TypeId} {len : Nat} {parts : Array (Nat × Operand)} (hop : o.op = .buildSlice t len parts) (h : Sim B w0 gh s a w) (hc : acore P s G o e) (hG : G) :
  o.wp P a w (fun a' w' => ∃ gh', Sim B w0 gh' (s.app o.dst (wrapE o G e)) a' w') Q := by
 have hc' := hc
 unfold acore at hc'
 simp only [hop] at hc'
 obtain ⟨d, et, hd, hlt, hfree, hs, hparts, h24, hml, hz, hzl, hp, he⟩ := hc'
 have hp := hp hG
 obtain ⟨hu, i, hi, his⟩ := sliceT_spec hs
 obtain ⟨z, hz⟩ := Option.isSome_iff_exists.1 hz
 obtain ⟨i', zv, i1, i2, i3⟩ := zeroT_spec hz
 rw [hi] at i1
 injection i1 with i1
 subst i1
 have hpl : (parts.map fun x => (x.1, a.eval x.2)).toList = parts.toList.map fun p => (p.1, a.eval p.2) := by simp
 have hplen : parts.toList.length = len := by have := congrArg List.length hparts; simpa using this
 have hsz : ∀ p ∈ parts.toList.map (fun p => (p.1, a.eval p.2)), p.2.cells.size = i.size := fun p hpp => by
  obtain ⟨q, hq, rfl⟩ := List.mem_map.1 hpp
  obtain ⟨k1, k2, k3⟩ := hp q hq
  have hr := (h.at_ k1).cellsOf k3
  rw [his, ← k2, hr.length]; simp
 have hZ : ∀ Z : Array Value, Z.size = len * i.size → Instr.fill (fun j => some (j * i.size, i.size)) Z (parts.toList.map fun p => (p.1, a.eval p.2)) = some ((parts.toList.map fun p => (a.eval p.2).cells.toList).flatten).toArray := fun Z hZl => by
  rw [fill_eq (fun j => some (j * i.size, i.size)) (fun j => j * i.size) _ Z (fun p hpp => ?_)]
  ·have hm1 : (parts.toList.map fun p => (p.1, a.eval p.2)).map (·.1) = List.range' 0 (parts.toList.map fun p => (p.1, a.eval p.2)).length := by
    rw [List.map_map]
    simp only [List.length_map, hplen]
    rw [← List.range_eq_range', ← hparts]
    rfl
   rw [fold_parts i.size _ 0 Z.toList hm1 hsz (by simp [hplen, hZl])]
   simp
   rfl
  ·have e1 := hsz p hpp
   obtain ⟨q, hq, rfl⟩ := List.mem_map.1 hpp
   simp only at e1 ⊢
   have hql : q.1 < len := by
    have : q.1 ∈ parts.toList.map (·.1) := List.mem_map.2 ⟨q, hq, rfl⟩
    rw [hparts] at this
    simpa using this
   have hmul : (q.1 + 1) * i.size ≤ len * i.size := Nat.mul_le_mul_right _ (by omega)
   rw [Nat.succ_mul] at hmul
   rw [e1]
   exact ⟨rfl, by omega⟩
 have hrun : (execOp a.eval o).run P w = .ok (.value (.slice (some ⟨w.heap.size, 0, none⟩) len len)) (w.alloc (.cells ((parts.toList.map fun p => (a.eval p.2).cells.toList).flatten).toArray et)) := by
  simp only [execOp, hop]
  have h24' : ¬ (2 ^ 24 < len * i.size) := by rw [his]; simp; omega
  have : (Instr.buildSlice t len (parts.map fun x => (x.1, a.eval x.2))).run P w = .ok (.slice (some ⟨w.heap.size, 0, none⟩) len len) (w.alloc (.cells ((parts.toList.map fun p => (a.eval p.2).cells.toList).flatten).toArray et)) := by
   by_cases h0 : len * i.size = 0
   ·have hf := hZ ((Array.range (len * i.size)).map ((#[] : Array Value)[· % (#[] : Array Value).size]!)) (by simp)
    simp only [Instr.buildSlice, Sem.run_bind, run_underlying hu, Result.andThen_ok, sizeOf, typeInfo, run_program, hi, Sem.run_pure, gt_iff_lt, h0, if_true, hpl, Nat.not_lt_zero, if_false]
    rw [h0] at hf
    simp only [hf, Go.newRow, Sem.run_bind, run_newObj_alloc, Result.andThen_ok, Sem.run_pure]
   ·have hf := hZ ((Array.range (len * i.size)).map (zv.cells[· % zv.cells.size]!)) (by simp)
    simp only [Instr.buildSlice, Sem.run_bind, run_underlying hu, Result.andThen_ok, sizeOf, typeInfo, run_program, hi, Sem.run_pure, gt_iff_lt, h24', if_false, h0, hpl, zeroValue, i2, hf, Go.newRow, run_newObj_alloc]
  exact (by rw [Sem.run_bind, this]; rfl)
 have hR := Rss.of_parts (sz := szT P et) h (ps := parts.toList) hp
 unfold Oper.wp
 rw [hrun]
 have hfl := hR.flat
 simp only [List.length_map, hplen] at hfl
 refine ⟨_, h.newRow hc hG he hfree (b := some w.heap.size) (k := len) ((Below.refl _ _).alloc (Nat.le_refl _) _) (fun _ => .inr ⟨w.heap.size, _, _, rfl, Nat.le_refl _, heap_alloc_at w _, hR, List.take_of_length_le (by simp), ?_, hml, by simp [newRow1, hplen]⟩) ?_⟩
 ·simp only [newRow1, List.size_toArray]
  exact hfl
 ·simp only [R]
  exact .inr ⟨w.heap.size, (Gh.add_eq gh d _ _ _).1, by rw [(Gh.add_eq gh d _ _ _).2.1]⟩
theorem RDs.of_Rs : ∀ {ds : List D} {vs : List Value}, Rs gh w (ds.map .d) vs → RDs gh.I w ds vs
 | [], vs, h => by simpa [Rs, RDs] using h
 | x :: ds, vs, h => by
  simp only [List.map_cons, Rs, R] at h
  obtain ⟨u, t, rfl, h1, h2, h⟩ := h
  simp only [RDs]
  exact ⟨u, t, rfl, h1, h2, RDs.of_Rs h⟩
theorem RDss.of_Rss {sz : Nat} : ∀ {ds : List (List D)} {vs : List Value}, Rss gh w sz (ds.map (·.map .d)) vs → RDss gh.I w sz ds vs
 | [], vs, h => by simpa [Rss, RDss] using h
 | x :: ds, vs, h => by
  simp only [List.map_cons, Rss] at h
  obtain ⟨u, t, rfl, h1, h2, h⟩ := h
  simp only [RDss]
  exact ⟨u, t, rfl, h1, RDs.of_Rs h2, RDss.of_Rss h⟩
def seen (gh : YtjkfadaedgidpaaGreat.Gh) (s : AS) (b : Nat) : Prop := gh.I b ∨ ∃ r row, s.mem r = some row ∧ row.g ∧ gh.bt r = some b
theorem RDt.of_RDs {I : Nat → Prop} : ∀ {ds : List D} {vs : List Value}, RDs I w ds vs → RDt I w ds vs
 | [], vs, h => by simpa only [RDs, RDt] using h
 | x :: ds, vs, h => by
  simp only [RDs] at h
  obtain ⟨u, t, rfl, h1, _, h2⟩ := h
  simp only [RDt]
  exact ⟨u, t, rfl, h1, RDt.of_RDs h2⟩
theorem RDt.app {I : Nat → Prop} : ∀ {ds : List D} {vs : List Value} {es : List D} {us : List Value}, RDt I w ds vs → RDt I w es us → RDt I w (ds ++ es) (vs ++ us)
 | [], vs, es, us, h, k => by simp only [RDt] at h; subst h; simpa using k
 | x :: ds, vs, es, us, h, k => by
  simp only [RDt] at h
  obtain ⟨u, t, rfl, h1, h2⟩ := h
  simp only [List.cons_append, RDt]
  exact ⟨u, t ++ us, rfl, h1, RDt.app h2 k⟩
theorem asD_Rv (h : Sim B w0 gh s a w) {v : AV} {y : Value} {d : D} (hr : R gh w v y) (hd : asD s v d) (hg : asG s v) : RD (seen gh s) w d y := by
 unfold asD at hd
 split at hd
 ·obtain ⟨sz', hd | hd⟩ := hd
  ·subst hd
   simp only [R, RD] at hr ⊢
   exact ⟨_, _, hr, .inl trivial⟩
  ·subst hd
   simpa only [R, RD] using hr
 ·subst hd
  simp only [R] at hr
  exact RD.keep (fun b hb => .inl hb) (fun _ _ => rfl) _ _ hr
 ·obtain ⟨ds, hcs, rfl⟩ := hd
  unfold IsDs at hcs
  subst hcs
  simp only [R] at hr
  obtain ⟨vs, ex, hr⟩ := hr
  simp only [RD]
  exact ⟨vs, ex, RDs.keep (fun b hb => .inl hb) (fun _ _ => rfl) _ _ (RDs.of_Rs hr)⟩
 ·obtain ⟨row, ds, hm, hels, hn, rfl⟩ := hd
  simp only [R] at hr
  simp only [RD]
  rcases hr with ⟨hb, h0, ex⟩ | ⟨b, hb, ex⟩
  ·exact ⟨_, _, by rw [ex, ← hn, h0], .inl (List.eq_nil_of_length_eq_zero (by omega))⟩
  ·refine ⟨_, _, by rw [ex, hn], ?_⟩
   have hgr := hg row hm
   obtain ⟨hsz, hrow⟩ := h.rows _ row hm hgr
   rcases hrow with ⟨hn', _⟩ | ⟨b', cur, vs, m1, m2, m3, m4, m5, m6, m7, m8, m9⟩
   ·rw [hb] at hn'; cases hn'
   ·rw [hb] at m1; injection m1 with m1; subst m1
    rw [hels] at m5
    exact .inr ⟨b, 0, vs, rfl, .inr ⟨_, row, hm, hgr, hb⟩, RDss.keep (fun b hb => .inl hb) (fun _ _ => rfl) _ _ _ (RDss.of_Rss m5), cellsAt.of_block m4 m6, by rw [hels] at m9; simpa using m9⟩
 ·obtain ⟨row, cells, hm, rfl, rfl, hels, rfl⟩ := hd
  simp only [R] at hr
  simp only [RD]
  obtain ⟨b, hb, ex⟩ := hr
  have hgr := hg row hm
  obtain ⟨hsz, hrow⟩ := h.rows _ row hm hgr
  rcases hrow with ⟨hn', _⟩ | ⟨b', cur, vs, m1, m2, m3, m4, m5, m6, m7, m8, m9⟩
  ·rw [hb] at hn'; cases hn'
  ·rw [hb] at m1; injection m1 with m1; subst m1
   rw [hels] at m5
   have n5 := RDss.of_Rss m5
   simp only [RDss] at n5
   obtain ⟨u, t, rfl, _, n6, rfl⟩ := n5
   refine ⟨b, 0, u, by rw [ex]; simp, .inr ⟨_, row, hm, hgr, hb⟩, RDs.keep (fun b hb => .inl hb) (fun _ _ => rfl) _ _ n6, ?_⟩
   have := cellsAt.of_block m4 m6
   simpa using this
 ·subst hd
  simp only [R] at hr
  simp only [RD]
  obtain ⟨b, o', vs, h1, h2, h3, h4⟩ := hr
  exact ⟨b, o', vs, h1, .inl h2, RDs.keep (fun b hb => .inl hb) (fun _ _ => rfl) _ _ h3, h4⟩
 ·exact hd.elim
theorem asEc_R (h : Sim B w0 gh s a w) : ∀ {cs : List AV} {vs : List Value} {ds : List D}, Rs gh w cs vs → asEc s cs ds → (∀ c, c ∈ cs → asG s c) → RDs (seen gh s) w ds vs
 | [], vs, ds, hr, hd, _ => by
  simp only [asEc] at hd
  subst hd
  simpa only [Rs, RDs] using hr
 | c :: cs, vs, ds, hr, hd, hg => by
  simp only [asEc] at hd
  obtain ⟨d, t, rfl, h2, h3⟩ := hd
  simp only [Rs] at hr
  obtain ⟨u, us, rfl, r1, r2, r3⟩ := hr
  simp only [RDs]
  exact ⟨u, us, rfl, asD_Rv h r1 h2 (hg c (by simp)), r2, asEc_R h r3 h3 fun c hc => hg c (by simp [hc])⟩
theorem asE_R (h : Sim B w0 gh s a w) {x : Operand} {d : D} (hk : s.ok x) (hd : asE s (s.at x) d) (hg : asF s (s.at x)) : RD (seen gh s) w d (a.eval x) := by
 have hr := h.at_ hk
 rcases hd with hd | ⟨cs, ds, ⟨h1, rfl⟩ | ⟨f, h1, rfl⟩, h3⟩
 ·exact asD_Rv h hr hd hg.1
 ·rw [h1] at hr
  simp only [R] at hr
  obtain ⟨vs, ex, hr⟩ := hr
  simp only [RD]
  exact ⟨vs, ex, asEc_R h hr h3 (hg.2 cs (.inl h1))⟩
 ·rw [h1] at hr
  simp only [R] at hr
  obtain ⟨vs, ex, hr⟩ := hr
  simp only [RD]
  exact ⟨vs, ex, asEc_R h hr h3 (hg.2 cs (.inr ⟨f, h1⟩))⟩
theorem asEs_R (h : Sim B w0 gh s a w) : ∀ {xs : List Operand} {ds : List D}, asEs s (xs.map s.at) ds → (∀ x ∈ xs, s.ok x ∧ asF s (s.at x)) → RDt (seen gh s) w ds (xs.map a.eval)
 | [], ds, hd, _ => by
  simp only [List.map_nil, asEs] at hd
  subst hd
  simp [RDt]
 | x :: xs, ds, hd, hk => by
  simp only [List.map_cons, asEs] at hd
  obtain ⟨d, t, rfl, h2, h3⟩ := hd
  obtain ⟨k1, k2⟩ := hk x (by simp)
  simp only [List.map_cons, RDt]
  exact ⟨_, _, rfl, asE_R h k1 h2 k2, asEs_R h h3 fun y hy => hk y (by simp [hy])⟩
section ren
variable {f : Nat → Nat}
mutual
theorem R.ren (hI : ∀ b, gh.I b → gh'.I b) : ∀ (x : AV) (y : Value), (∀ r, r ∈ x.ids → gh'.bt (f r) = gh.bt r ∧ gh'.kp (f r) = gh.kp r ∧ gh'.sz (f r) = gh.sz r) → R gh w x y → R gh' w (x.ren f) y
 | .any, y, _, h => by simp only [AV.ren, R]
 | .d x, y, _, h => by
  simp only [AV.ren, R] at h ⊢
  exact RD.keep hI (fun _ _ => rfl) x y h
 | .ep cs, y, _, h => by
  simp only [AV.ren, R] at h ⊢
  obtain ⟨b, o, vs, h1, h2, h3, h4⟩ := h
  exact ⟨b, o, vs, h1, hI b h2, RDs.keep hI (fun _ _ => rfl) cs vs h3, h4⟩
 | .ref r n, y, hg, h => by
  obtain ⟨e1, e2, e3⟩ := hg r (by simp [AV.ids])
  simp only [AV.ren, R] at h ⊢
  rw [e1, e2]
  exact h
 | .ptr r i o, y, hg, h => by
  obtain ⟨e1, e2, e3⟩ := hg r (by simp [AV.ids])
  simp only [AV.ren, R] at h ⊢
  rw [e1, e3]
  exact h
 | .ag cs, y, hg, h => by
  simp only [AV.ren, R] at h ⊢
  obtain ⟨vs, h1, h2⟩ := h
  exact ⟨vs, h1, Rs.ren hI cs vs (by simpa only [AV.ids] using hg) h2⟩
 | .tp cs, y, hg, h => by
  simp only [AV.ren, R] at h ⊢
  obtain ⟨vs, h1, h2⟩ := h
  exact ⟨vs, h1, Rt.ren hI cs vs (by simpa only [AV.ids] using hg) h2⟩
 | .wh g x, y, hg, h => by
  simp only [AV.ren, R] at h ⊢
  exact ⟨fun hgg => R.ren hI x y (by simpa only [AV.ids] using hg) (h.1 hgg), h.2⟩
 | .cl g cs, y, hg, h => by
  simp only [AV.ren, R] at h ⊢
  obtain ⟨vs, h1, h2⟩ := h
  exact ⟨vs, h1, Rs.ren hI cs vs (by simpa only [AV.ids] using hg) h2⟩
theorem Rs.ren (hI : ∀ b, gh.I b → gh'.I b) : ∀ (xs : List AV) (vs : List Value), (∀ r, r ∈ AV.idsL xs → gh'.bt (f r) = gh.bt r ∧ gh'.kp (f r) = gh.kp r ∧ gh'.sz (f r) = gh.sz r) → Rs gh w xs vs → Rs gh' w (AV.renL f xs) vs
 | [], vs, _, h => by simpa only [AV.renL, Rs] using h
 | x :: xs, vs, hg, h => by
  simp only [AV.renL, Rs] at h ⊢
  obtain ⟨u, t, h1, h2, h3, h4⟩ := h
  exact ⟨u, t, h1, R.ren hI x u (fun r hr => hg r (by simp [AV.idsL, hr])) h2, h3, Rs.ren hI xs t (fun r hr => hg r (by simp [AV.idsL, hr])) h4⟩
theorem Rt.ren (hI : ∀ b, gh.I b → gh'.I b) : ∀ (xs : List AV) (vs : List Value), (∀ r, r ∈ AV.idsL xs → gh'.bt (f r) = gh.bt r ∧ gh'.kp (f r) = gh.kp r ∧ gh'.sz (f r) = gh.sz r) → Rt gh w xs vs → Rt gh' w (AV.renL f xs) vs
 | [], vs, _, h => by simpa only [AV.renL, Rt] using h
 | x :: xs, vs, hg, h => by
  simp only [AV.renL, Rt] at h ⊢
  obtain ⟨u, t, h1, h2, h4⟩ := h
  exact ⟨u, t, h1, R.ren hI x u (fun r hr => hg r (by simp [AV.idsL, hr])) h2, Rt.ren hI xs t (fun r hr => hg r (by simp [AV.idsL, hr])) h4⟩
end
end ren
def Gh.join (gh g : YtjkfadaedgidpaaGreat.Gh) (base n : Nat) : YtjkfadaedgidpaaGreat.Gh :=
 { I := fun b => gh.I b ∨ g.I b, bt := fun r => if base ≤ r ∧ r < base + n then g.bt (r - base) else gh.bt r, kp := fun r => if base ≤ r ∧ r < base + n then g.kp (r - base) else gh.kp r, sz := fun r => if base ≤ r ∧ r < base + n then g.sz (r - base) else gh.sz r }
theorem Gh.join_new (gh g : YtjkfadaedgidpaaGreat.Gh) (base n : Nat) {j : Nat} (h : j < n) : (gh.join g base n).bt (base + j) = g.bt j ∧ (gh.join g base n).kp (base + j) = g.kp j ∧ (gh.join g base n).sz (base + j) = g.sz j := by
 have : base ≤ base + j ∧ base + j < base + n := by omega
 simp [Gh.join, h]
theorem Gh.join_old (gh g : YtjkfadaedgidpaaGreat.Gh) (base n : Nat) {r : Nat} (h : ¬ (base ≤ r ∧ r < base + n)) : (gh.join g base n).bt r = gh.bt r ∧ (gh.join g base n).kp r = gh.kp r ∧ (gh.join g base n).sz r = gh.sz r := by
 simp [Gh.join, h]
theorem callFunc_run {fid : FuncId} {fn : Func} (h1 : P.funcs[fid]? = some fn) (h2 : fn.body.isSome = true) (h3 : (fn.name == "runtime.NumGoroutine") = false) (args : Array Value) : (callFunc fid args).run P w = .ok (.enter fid args) w := by
 obtain ⟨b, hb⟩ := Option.isSome_iff_exists.1 h2
 have h3' : ¬ fn.name = "runtime.NumGoroutine" := by simpa using h3
 simp [callFunc, run_program, h1, h3', hb]
theorem sound_call {c : Call} {f : Operand} (hop : o.op = .call c) (hcl : c.callee = .value f) (h : Sim B w0 gh s a w) (hc : acore P s G o e) (hG : G) :
  o.wp P a w (fun a' w' => ∃ gh', Sim B w0 gh' (s.app o.dst (wrapE o G e)) a' w') Q := by
 have hc' := hc
 unfold acore at hc'
 simp only [hop, hcl] at hc'
 rcases hc' with ⟨fid, ds, cs, rows, res, hf, hgo, hds, ⟨fn, f1, f2, f3⟩, d, hd, hrl, hfree, hids, he⟩ | ⟨fid, l, v, hf, hl, hgo, he⟩
 case inr =>
  obtain ⟨kf, kargs, hrun⟩ := hgo hG
  have ef := h.at_ kf
  rw [hf] at ef
  simp only [R, RD] at ef
  have hev := evals_eq h hl kargs
  have hargs : c.args.map a.eval = l.toArray := Array.ext' (by rw [Array.toList_map, hev])
  refine sound_still (u := v) h hc hG he ?_ ?_
  ·have := hrun w
   simp only [execOp, hop, resolve, hcl, ef, Deferred.ofValue, hargs, Sem.run_bind, Sem.run_pure, Result.andThen_ok, invoke]
   simpa using this
  ·unfold ofV
   split
   ·rename_i vs
    simp only [R]
    refine ⟨vs.toList, by simp, ?_⟩
    have : ∀ l : List Value, Rt gh w (l.map fun x => AV.d (.v x)) l := fun l => by
     induction l with
     | nil => simp [Rt]
     | cons x l ih => simp only [List.map_cons, Rt, R, RD]; exact ⟨x, l, rfl, rfl, ih⟩
    exact this _
   ·simp only [R, RD]
 obtain ⟨kf, kargs, hcall⟩ := hgo hG
 have ef : ∃ us : List Value, a.eval f = .func (.func fid) #[] us.toArray ∧ RDt (seen gh s) w cs us := by
  have ef := h.at_ kf
  rcases hf with ⟨hf, rfl⟩ | hf
  ·rw [hf] at ef
   simp only [R, RD] at ef
   exact ⟨[], ef, by simp [RDt]⟩
  ·rw [hf] at ef
   simp only [R, RD] at ef
   obtain ⟨us, e1, e2⟩ := ef
   exact ⟨us, e1, RDt.of_RDs (RDs.keep (fun b hb => .inl hb) (fun _ _ => rfl) _ _ e2)⟩
 obtain ⟨us, ef, hus⟩ := ef
 have hrt := RDt.app (asEs_R h hds kargs) hus
 have hseen : ∀ b, seen gh s b → b < w.heap.size := fun b hb => by
  rcases hb with hb | ⟨r, row, hm, hg, hb⟩
  ·exact h.imm b hb
  ·exact row_block h hm hg hb
 have hcalls := hcall (seen gh s) w _ hseen hrt
 have hrun : (execOp a.eval o).run P w = .ok (.enter fid (c.args.toList.map a.eval ++ us).toArray) w := by
  have hargs : c.args.map a.eval = (c.args.toList.map a.eval).toArray := Array.ext' (by simp)
  simp only [execOp, hop, resolve, hcl, ef, Deferred.ofValue, hargs, Sem.run_bind, Sem.run_pure, Result.andThen_ok, invoke]
  simpa using callFunc_run f1 f2 f3 (c.args.toList.map a.eval ++ us).toArray
 unfold Oper.wp
 rw [hrun]
 refine hcalls.mono ?_
 rintro e' w' ⟨v, g, rfl, hb, hgI, hgrows, hgap, hgids, hR⟩
 simp only
 obtain ⟨base, hbase⟩ : ∃ b : Nat, 1000 * (d + 1) = b := ⟨_, rfl⟩
 rw [hbase] at hfree he
 have hnot : ∀ r, s.mem r ≠ none → ¬ (base ≤ r ∧ r < base + rows.length) := fun r hr hh => by
  refine hr ?_
  have := hfree (r - base) (by omega)
  rwa [show base + (r - base) = r by omega] at this
 have hIw : ∀ b, gh.I b → w'.heap[b]? = w.heap[b]? := fun b hI => hb.block b (h.imm b hI)
 refine ⟨gh.join g base rows.length, h.app hc hG (Out.of_below hb) (fun b hb => .inl hb) hIw (fun b hI => ?_) (fun r hr => Gh.join_old gh g _ _ (hnot r hr)) ?_ ?_ ?_⟩
 ·rcases hI with hI | hI
  ·exact Nat.lt_of_lt_of_le (h.imm b hI) hb.size
  ·exact (hgI b hI).2
 ·intro r row hr hg
  rw [he] at hr
  rcases ovr_mem hr with hin | ⟨_, hr⟩
  ·obtain ⟨j, o', hj, rfl, rfl⟩ := mem_addRows hin
   have hjl : j < rows.length := (List.getElem?_eq_some_iff.1 hj).1
   rw [Nat.zero_add]
   obtain ⟨e1, e2, e3⟩ := Gh.join_new gh g base rows.length hjl
   obtain ⟨q1, q2⟩ := hgrows j o' hj
   refine ⟨by rw [e3]; exact q1, ?_⟩
   rcases q2 with ⟨q2, q3⟩ | ⟨b, cur, vs, m1, m2, m3, m4, m5, m6, m7, m8, m9⟩
   ·exact .inl ⟨by rw [e1]; exact q2, q3⟩
   ·refine .inr ⟨b, cur, vs, by rw [e1]; exact m1, h.base _ m2, fun hI => ?_, m4, ?_, m6, by rw [e2]; exact m7, by rw [e2]; exact m8, by rw [e2]; exact m9⟩
    ·rcases hI with hI | hI
     ·have := h.imm b hI; omega
     ·exact m3 hI
    ·exact Rss.of_mapD_keep (gh := g) (fun b hb => Or.inr hb) (fun _ _ => rfl) m5
  ·have hn : s.mem r ≠ none := by rw [hr]; simp
   exact (h.rows r row hr hg).keep (fun b hb => .inl hb) hIw (Gh.join_old gh g _ _ (hnot r hn)) (fun el hel r' hr' => Gh.join_old gh g _ _ (hnot r' (h.wfm r row hr el hel r' hr')))
    (fun b hbt => hb.block b (row_block h hr hg hbt)) (fun b hbt hn' hI => by
     rcases hI with hI | hI
     ·exact hn' hI
     ·have := row_block h hr hg hbt; have := (hgI b hI).1; omega)
 ·intro r1 r2 row1 row2 b0 hne h1 h2 g1 g2 b1 b2
  rw [he] at h1 h2
  have cls : ∀ r row, ovr (addRows G base 0 rows) s.mem r = some row → row.g → (gh.join g base rows.length).bt r = some b0 →
    (∃ j, j < rows.length ∧ r = base + j ∧ g.bt j = some b0 ∧ w.heap.size ≤ b0) ∨ (s.mem r = some row ∧ gh.bt r = some b0 ∧ b0 < w.heap.size) := fun r row hr hg hbt => by
   rcases ovr_mem hr with hin | ⟨_, hr⟩
   ·obtain ⟨j, o', hj, rfl, rfl⟩ := mem_addRows hin
    have hjl : j < rows.length := (List.getElem?_eq_some_iff.1 hj).1
    rw [Nat.zero_add] at hbt
    rw [(Gh.join_new gh g base rows.length hjl).1] at hbt
    refine .inl ⟨j, hjl, by rw [Nat.zero_add], hbt, ?_⟩
    obtain ⟨_, q2⟩ := hgrows j o' hj
    rcases q2 with ⟨q2, _⟩ | ⟨b, cur, vs, m1, m2, _⟩
    ·rw [hbt] at q2; cases q2
    ·rw [hbt] at m1; injection m1 with m1; subst m1; exact m2
   ·have hn : s.mem r ≠ none := by rw [hr]; simp
    rw [(Gh.join_old gh g _ _ (hnot r hn)).1] at hbt
    exact .inr ⟨hr, hbt, row_block h hr hg hbt⟩
  rcases cls r1 row1 h1 g1 b1 with ⟨j1, l1, e1, q1, s1⟩ | ⟨m1, q1, s1⟩ <;> rcases cls r2 row2 h2 g2 b2 with ⟨j2, l2, e2, q2, s2⟩ | ⟨m2, q2, s2⟩
  ·exact (hgap j1 j2 b0 l1 l2 (fun e => hne (by rw [e1, e2, e])) q1 q2).elim
  ·omega
  ·omega
  ·exact h.apart r1 r2 row1 row2 b0 hne m1 m2 g1 g2 q1 q2
 ·rw [he]
  exact R.ren (gh := g) (fun b hb => Or.inr hb) res v (fun r hr => Gh.join_new gh g _ _ (hids r hr)) hR
theorem ats_R (h : Sim B w0 gh s a w) : ∀ {xs : List Operand}, (∀ x ∈ xs, s.ok x) → cell1s (xs.map s.at) → Rs gh w (xs.map s.at) (xs.map a.eval)
 | [], _, _ => by simp [Rs]
 | x :: xs, hk, hc => by
  have hr := h.at_ (hk x (by simp))
  simp only [List.map_cons, Rs]
  exact ⟨_, _, rfl, hr, cell1_one (hc _ (by simp)) hr, ats_R h (fun y hy => hk y (by simp [hy])) fun y hy => hc y (by simp [hy])⟩
theorem sound_makeFunc {fn : Fn} {first cap : Array Operand} (hop : o.op = .makeFunc fn first cap) (h : Sim B w0 gh s a w) (hc : acore P s G o e) (hG : G) :
  o.wp P a w (fun a' w' => ∃ gh', Sim B w0 gh' (s.app o.dst (wrapE o G e)) a' w') Q := by
 have hc' := hc
 unfold acore at hc'
 simp only [hop] at hc'
 obtain ⟨f, rfl, rfl, hk, he⟩ := hc'
 obtain ⟨k1, k2⟩ := hk hG
 refine sound_still (u := .func (.func f) #[] (cap.toList.map a.eval).toArray) h hc hG he ?_ (by simp only [R]; exact ⟨_, rfl, ats_R h k1 k2⟩)
 have hargs : cap.map a.eval = (cap.toList.map a.eval).toArray := Array.ext' (by simp)
 simp only [execOp, hop, hargs]
 refine run_value ?_
 simp [Instr.makeFunc]
theorem RDss.drop {I : Nat → Prop} {w : World} {sz : Nat} : ∀ {xs : List (List D)} {vs : List Value} (n : Nat), RDss I w sz xs vs → RDss I w sz (xs.drop n) (vs.drop (n * sz))
 | xs, vs, 0, h => by simpa using h
 | [], vs, n + 1, h => by simp only [RDss] at h; subst h; simp [RDss]
 | x :: xs, vs, n + 1, h => by
  simp only [RDss] at h
  obtain ⟨u, t, rfl, h1, h2, h⟩ := h
  rw [List.drop_succ_cons, show (n + 1) * sz = u.length + n * sz by rw [h1, Nat.succ_mul]; omega, List.drop_append]
  rw [List.drop_of_length_le (show u.length ≤ u.length + n * sz by omega), List.nil_append, show u.length + n * sz - u.length = n * sz by omega]
  exact RDss.drop n h
theorem RDss.take {I : Nat → Prop} {w : World} {sz : Nat} : ∀ {xs : List (List D)} {vs : List Value} (n : Nat), RDss I w sz xs vs → RDss I w sz (xs.take n) (vs.take (n * sz))
 | xs, vs, 0, h => by simp [RDss]
 | [], vs, n + 1, h => by simp only [RDss] at h; subst h; simp [RDss]
 | x :: xs, vs, n + 1, h => by
  simp only [RDss] at h
  obtain ⟨u, t, rfl, h1, h2, h⟩ := h
  rw [List.take_succ_cons, show (n + 1) * sz = u.length + n * sz by rw [h1, Nat.succ_mul]; omega, List.take_append]
  rw [List.take_of_length_le (l := u) (by omega), show u.length + n * sz - u.length = n * sz by omega]
  simp only [RDss]
  exact ⟨u, _, rfl, h1, h2, RDss.take n h⟩
theorem slice_run {t e' : TypeId} {i : TypeInfo} {A : Option Addr} {n c i0 j0 : Nat} {lo hi : Option Value} {w : World} (hu : P.underlying t = some (.slice e')) (hi' : P.info? e' = some i) (h1 : i0 ≤ j0) (h2 : j0 ≤ c)
  (hl : lo = none ∧ i0 = 0 ∨ ∃ k, lo = some (.int k i0)) (hh : hi = none ∧ j0 = n ∨ ∃ k, hi = some (.int k j0)) :
  (Instr.sliceAt t (.slice A n c) lo hi none).run P w = .ok (.slice (if c = i0 then A else A.map (·.add (i0 * i.size))) (j0 - i0) (c - i0)) w := by
 have b1 : ∀ (k : IntKind) (a b : Nat) (code : BoundsCode), a ≤ b → (Instr.sliceBound (.int k a) b code).run P w = .ok a w := fun k a b code hab => by
  simp [Instr.sliceBound, asIntOf, hab]
 rcases hl with ⟨rfl, rfl⟩ | ⟨k, rfl⟩ <;> rcases hh with ⟨rfl, rfl⟩ | ⟨k', rfl⟩ <;>
  simp [Instr.sliceAt, run_underlying hu, Instr.slice, Instr.sliceBounds, b1, h1, h2, sizeOf, typeInfo, hi']
theorem sound_slice {t : TypeId} {x : Operand} {lo hi mx : Option Operand} (hop : o.op = .slice t x lo hi mx) (h : Sim B w0 gh s a w) (hc : acore P s G o e) (hG : G) :
  o.wp P a w (fun a' w' => ∃ gh', Sim B w0 gh' (s.app o.dst (wrapE o G e)) a' w') Q := by
 have hc' := hc
 unfold acore at hc'
 simp only [hop] at hc'
 obtain ⟨rfl, sz, els, i, j, h1, ⟨e', h2, hsz⟩, h3, h4, h5, he⟩ := hc'
 obtain ⟨g1, g2, g3, g4, g5, g6⟩ := h5 hG
 obtain ⟨hu, ti, hti, htis⟩ := sliceT_spec h2
 have hr := h.at_ g1
 rw [h1] at hr
 simp only [R, RD] at hr
 obtain ⟨A, c, hx, hA⟩ := hr
 obtain ⟨i0, rfl⟩ := Int.eq_ofNat_of_zero_le g4
 obtain ⟨j0, rfl⟩ := Int.eq_ofNat_of_zero_le (show 0 ≤ j by omega)
 have hl : lo.map a.eval = none ∧ i0 = 0 ∨ ∃ k, lo.map a.eval = some (.int k i0) := by
  cases lo with
  | none => simp only [loV] at h3; exact .inl ⟨rfl, by omega⟩
  | some l =>
   simp only [loV] at h3
   obtain ⟨k, h3⟩ := h3
   have := h.at_ (g2 l rfl)
   rw [h3] at this
   simp only [R, RD] at this
   exact .inr ⟨k, by simp [this]⟩
 have hh : hi.map a.eval = none ∧ j0 = els.length ∨ ∃ k, hi.map a.eval = some (.int k j0) := by
  cases hi with
  | none => simp only [hiV] at h4; exact .inl ⟨rfl, by omega⟩
  | some l =>
   simp only [hiV] at h4
   obtain ⟨k, h4⟩ := h4
   have := h.at_ (g3 l rfl)
   rw [h4] at this
   simp only [R, RD] at this
   exact .inr ⟨k, by simp [this]⟩
 have hjc : j0 ≤ c := by
  rcases hA with rfl | ⟨b, o', vs, _, _, _, _, hcap⟩
  ·simp at g6; omega
  ·omega
 have hlen : ((els.take j0).drop i0).length = j0 - i0 := by rw [List.length_drop, List.length_take]; omega
 refine sound_still (u := .slice (if c = i0 then A else A.map (·.add (i0 * ti.size))) (j0 - i0) (c - i0)) h hc hG he ?_ ?_
 ·simp only [execOp, hop, hx]
  exact run_value (slice_run hu hti (by omega) hjc hl hh)
 ·simp only [R, RD, Int.toNat_natCast]
  refine ⟨_, c - i0, by rw [hlen], ?_⟩
  by_cases hij : i0 = j0
  ·left
   apply List.eq_nil_of_length_eq_zero
   omega
  ·right
   have hlt : i0 < j0 := by omega
   rcases hA with rfl | ⟨b, o', vs, rfl, k2, k3, k4, k5⟩
   ·simp at g6; omega
   ·rw [if_neg (by omega)]
    refine ⟨b, o' + i0 * ti.size, (vs.take (j0 * sz)).drop (i0 * sz), by by_cases hz : i0 * ti.size = 0 <;> simp [Addr.add, hz], k2, (k3.take j0).drop i0, ?_, by omega⟩
    have e1 : ti.size = sz := by rw [htis, hsz]
    rw [e1]
    intro q u hu'
    rw [List.getElem?_drop] at hu'
    have hq := (List.getElem?_eq_some_iff.1 hu').1
    rw [List.getElem?_take_of_lt (by rw [List.length_take] at hq; omega)] at hu'
    rw [Nat.add_assoc]
    exact k4 _ u hu'
theorem flat_rep {α : Type} (l : List α) : ∀ n : Nat, (List.replicate n l).flatten.length = n * l.length
 | 0 => by simp
 | n + 1 => by rw [List.replicate_succ, List.flatten_cons, List.length_append, flat_rep l n, Nat.succ_mul]; omega
theorem made_flat (z : Array Value) (hz : 0 < z.size) : ∀ n : Nat, madeCells z (n * z.size) = ((List.replicate n z.toList).flatten).toArray
 | 0 => by simp [madeCells]
 | n + 1 => by
  have ih := made_flat z hz n
  rw [List.replicate_succ', List.flatten_append]
  simp only [List.flatten_cons, List.flatten_nil, List.append_nil]
  apply Array.toList_inj.1
  have ih2 := congrArg Array.toList ih
  simp only [madeCells, Array.toList_map, Array.toList_range] at ih2 ⊢
  rw [show (n + 1) * z.size = n * z.size + z.size by rw [Nat.succ_mul], List.range_add, List.map_append, ih2]
  congr 1
  apply List.ext_getElem
  ·simp
  ·intro i h1 h2
   simp only [List.length_map, List.length_range] at h1
   simp only [List.getElem_map, List.getElem_range, Array.getElem_toList]
   rw [show (n * z.size + i) % z.size = i from by rw [Nat.add_comm, Nat.add_mul_mod_self_right, Nat.mod_eq_of_lt h1]]
   exact getElem!_pos z i h1
theorem Rss.rep {sz : Nat} {z : List Value} (hz : z.length = sz) (h1 : ∀ u ∈ z, u.oneCell' = true) : ∀ n : Nat, Rss gh w sz (List.replicate n (z.map fun u => AV.d (.v u))) (List.replicate n z).flatten
 | 0 => by simp [Rss]
 | n + 1 => by
  simp only [List.replicate_succ, List.flatten_cons, Rss]
  refine ⟨z, _, rfl, hz, ?_, Rss.rep hz h1 n⟩
  clear hz
  induction z with
  | nil => simp [Rs]
  | cons u z ih =>
   simp only [List.map_cons, Rs, R, RD]
   exact ⟨u, z, rfl, rfl, h1 u (by simp), ih fun v hv => h1 v (List.mem_cons_of_mem _ hv)⟩
theorem sound_makeSlice {t : TypeId} {l c : Operand} (hop : o.op = .makeSlice t l c) (h : Sim B w0 gh s a w) (hc : acore P s G o e) (hG : G) :
  o.wp P a w (fun a' w' => ∃ gh', Sim B w0 gh' (s.app o.dst (wrapE o G e)) a' w') Q := by
 have hc' := hc
 unfold acore at hc'
 simp only [hop] at hc'
 obtain ⟨d, et, k, k', n, z, hd, hlt, hfree, hs, hz, hzl, hz1, hl, hcp, hg, he⟩ := hc'
 obtain ⟨g1, g2, g3, g4, g5⟩ := hg hG
 obtain ⟨hu, i, hi, his⟩ := sliceT_spec hs
 obtain ⟨i', zv, i1, i2, i3⟩ := zeroT_spec hz
 rw [hi] at i1
 injection i1 with i1
 subst i1
 have el := h.at_ g1
 rw [hl] at el
 simp only [R, RD] at el
 have ec := h.at_ g2
 rw [hcp] at ec
 simp only [R, RD] at ec
 obtain ⟨m, rfl⟩ := Int.eq_ofNat_of_zero_le g3
 have hby : i.bytes ≤ 1000000 := by
  have : byT P et = i.bytes := by simp [byT, hi]
  omega
 have hbm : (i.bytes : Int) * (m : Int) ≤ 281474976710656 := by
  have h1 : i.bytes * m ≤ 1000000 * 1000000 := Nat.mul_le_mul hby (by omega)
  have h2 : ((i.bytes * m : Nat) : Int) ≤ 281474976710656 := by omega
  rwa [Int.natCast_mul] at h2
 have hcells : madeCells zv.cells (m * i.size) = ((List.replicate m z).flatten).toArray := by
  have hsz : zv.cells.size = i.size := by rw [his, ← hzl, ← i3]; simp
  by_cases h0 : i.size = 0
  ·have hz0 : z = [] := List.eq_nil_of_length_eq_zero (by rw [hzl, ← his]; exact h0)
   have : (List.replicate m z).flatten = [] := by rw [hz0]; simp
   rw [this, h0]; simp [madeCells]
  ·have := made_flat zv.cells (by omega) m
   rw [hsz] at this
   rw [this, ← i3]
 have hrun : (execOp a.eval o).run P w = .ok (.value (.slice (some ⟨w.heap.size, 0, none⟩) m m)) (w.alloc (.cells ((List.replicate m z).flatten).toArray et)) := by
  simp only [execOp, hop, el, ec]
  have := run_make (P := P) w t et i zv hu hi i2 k k' m m (by omega) (by omega) hbm (by omega)
  simp only [Int.toNat_natCast] at this
  rw [hcells] at this
  exact (by rw [Sem.run_bind, this]; rfl)
 unfold Oper.wp
 rw [hrun]
 have hfl : (List.replicate m z).flatten.length = m * szT P et := by rw [flat_rep, hzl]
 simp only [Int.toNat_natCast] at he
 refine ⟨_, h.newRow hc hG he hfree (b := some w.heap.size) (k := m) ((Below.refl _ _).alloc (Nat.le_refl _) _) (fun _ => .inr ⟨w.heap.size, _, _, rfl, Nat.le_refl _, heap_alloc_at w _, Rss.rep hzl hz1 m, List.take_of_length_le (by simp), ?_, by simp [maxLen]; omega, by simp [newRow1]⟩) ?_⟩
 ·simp only [newRow1, List.size_toArray]
  exact hfl
 ·simp only [R]
  exact .inr ⟨w.heap.size, (Gh.add_eq gh d _ _ _).1, by rw [(Gh.add_eq gh d _ _ _).2.1]⟩
theorem sound_core (h : Sim B w0 gh s a w) (hc : acore P s G o e) (hG : G) :
  o.wp P a w (fun a' w' => ∃ gh', Sim B w0 gh' (s.app o.dst (wrapE o G e)) a' w') Q := by
 cases hop : o.op with
 | move x => exact sound_move (.inl hop) h hc hG
 | assign x => exact sound_move (.inr hop) h hc hG
 | pick c x y => exact sound_pick hop h hc hG
 | binOp op t x y t' => exact sound_binOp hop h hc hG
 | unOp op t x => exact sound_unOp hop h hc hG
 | convert t t' x => exact sound_convert hop h hc hG
 | extract x i => exact sound_extract hop h hc hG
 | fieldAddr t x f => exact sound_fieldAddr hop h hc hG
 | indexAddr t x i => exact sound_indexAddr hop h hc hG
 | index t x i => exact sound_index hop h hc hG
 | field t x i => exact sound_field hop h hc hG
 | makeFunc fn first cap => exact sound_makeFunc hop h hc hG
 | load t x => exact sound_load hop h hc hG
 | store t x y => exact sound_store hop h hc hG
 | box t x => exact sound_box hop h hc hG
 | alloc t => exact sound_alloc hop h hc hG
 | build t parts => exact sound_build hop h hc hG
 | buildSlice t len parts => exact sound_buildSlice hop h hc hG
 | makeSlice t l c => exact sound_makeSlice hop h hc hG
 | slice t x lo hi mx => exact sound_slice hop h hc hG
 | call c =>
  cases hcl : c.callee with
  | value f => exact sound_call hop hcl h hc hG
  | builtin b =>
   cases b with
   | len => exact sound_len hop hcl h hc hG
   | max => exact sound_max hop hcl h hc hG
   | min => exact sound_min hop hcl h hc hG
   | append => exact sound_append hop hcl h hc hG
   | _ => unfold acore at hc; simp only [hop, hcl] at hc
  | invoke r m => unfold acore at hc; simp only [hop, hcl] at hc
 | _ => unfold acore at hc; simp only [hop] at hc
end
end Go.Proofs.YtjkfadaedgidpaaGreat
