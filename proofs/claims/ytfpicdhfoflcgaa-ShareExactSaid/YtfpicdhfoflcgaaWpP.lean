import Derived.Test.YtfpicdhfoflcgaaWpO
namespace Go.Proofs.Ytfpicdhfoflcgaa
open Go.RowKit
set_option linter.unusedVariables false
set_option linter.unusedSimpArgs false
theorem F_go36 : goFn Try.prog 36 := ⟨_, Try.func36, rfl, rfl⟩
theorem F_sl70 : sliceT Try.prog 70 = some 4 := by kernel_rfl
theorem F_zero4 : zeroT Try.prog 4 = some [(.bool false)] := by kernel_rfl
theorem F_sz4 : szT Try.prog 4 = 1 := by kernel_rfl
theorem F_by4 : byT Try.prog 4 = 1 := by kernel_rfl
theorem F_ok4 : tyOk Try.prog 4 = true := by kernel_rfl
theorem F_ag4 : aggT Try.prog 4 = false := by kernel_rfl
theorem rTimesT_ (t x : Int) (h0 : 0 ≤ t) (h1 : t ≤ 4611686018427387904) (k0 : 0 ≤ x) (k1 : x ≤ 4611686018427387904) : ACalls Try.prog 17 [iv t, iv x] [] (wNA (t.toNat * x.toNat)) := by
  have h := rTimes_ t x (by omega) (by omega) (by omega) (by omega)
  rw [show t * x = ((t.toNat * x.toNat : Nat) : Int) by rw [Int.natCast_mul, Int.toNat_of_nonneg h0, Int.toNat_of_nonneg k0], wNA_eq] at h
  exact h
theorem WSumN_ (l : List Int) (hl : l.length ≤ 1000000) (h : ∀ x ∈ l, 0 ≤ x ∧ x ≤ 4611686018427387904) : ACalls Try.prog 13 [wides l] [] (.tp [wNA (sN l), bv true]) := by
  have h1 := WSum_ l hl (all_wide h)
  have h2 := fits_small (l := l) (fun x hx => by have := h x hx; omega) hl
  have h3 := sumN (l := l) (fun x hx => (h x hx).1)
  rw [h2, cond_true, h3, wNA_eq] at h1
  exact h1
set_option maxRecDepth 100000 in
set_option maxHeartbeats 4000000 in
theorem rSplit_ (t : Int) (l : List Int) (hl : l.length ≤ 1000000) : ACalls Try.prog 20 [iv t, ints l] [⟨3, 1, (splitV t l).map fun n => [iv n]⟩] (.tp [.ref 0 (splitV t l).length, .d (iv (splitE t l))]) := by
  refine acalls_S (rs := [.tmp 4, .tmp 5]) Try.func20 rfl rfl 149 [(0, .d (iv t)), (1, .d (ints l))] rfl (by simp) rfl ?_
  refine awp_seq fun K0 hK0 => ?_
  refine awp_plain F_mixed [some 4, some 5] rfl ?_
  simp only [List.nil_append, List.cons_append, true_and, and_true, zz0, true_implies, Nat.reduceLT, Nat.reduceLeDiff, zzI, look_nil, Nat.reduceBEq, implies_true, evS_assign, zz6, Nat.reduceEqDiff, ↓reduceIte]
  refine hK0 _ ?_; try clear hK0 K0
  refine awp_keepL [0, 1] ?_
  simp only [zz20, zzI, look_nil, Nat.reduceBEq]
  refine awp_seq fun K0 hK0 => ?_
  refine awp_seq fun K1 hK1 => ?_
  refine awp_plain F_mixed [some 17, some 18, some 19, some 20, some 21, some 22, some 23, some 24, some 25, some 26, some 27, some 28] rfl ?_
  simp only [List.nil_append, List.cons_append, true_and, and_true, zz0, true_implies, Nat.reduceLT, Nat.reduceLeDiff, zzI, look_nil, Nat.reduceBEq, implies_true, Nat.reduceSub, S_getD, zz5, and_imp, imp_and, imp_self, and_self, evS_move, zz21, gr_v, zz22, evS_call, evC_value, zz29, zz30, zz13, pickK_l, pickK_r, sBad_eq, zz6, Nat.reduceEqDiff, ↓reduceIte]
  refine call_go F_go32 (fun hG => rRight_ t) (by simp [AV.ids, AV.idsL]) (by simp) ?_
  simp only [List.nil_append, List.cons_append, true_and, and_true, zz0, true_implies, Nat.reduceLT, Nat.reduceLeDiff, zzI, look_nil, Nat.reduceBEq, implies_true, Nat.reduceSub, S_getD, zz5, and_imp, imp_and, imp_self, and_self, evS_move, zz21, gr_v, zz22, evS_call, evC_value, zz29, zz30, zz13, pickK_l, pickK_r, sBad_eq, zz6, Nat.reduceEqDiff, ↓reduceIte, atsL, oksG, freeN, AV.ren, AV.renL, addRows, ORow.row, Nat.reduceMul, Nat.reduceAdd, zz9, Option.bind_some, Option.map_some, forall_eq', D.sl.injEq, zz16, Option.some.injEq, exists_eq_left', exists_eq_left, exists_eq', exists_eq, zzD, zz2]
  refine call_go F_go35 (fun hG => rAll_ l hl) (by simp [AV.ids, AV.idsL]) (by simp) ?_
  simp only [List.nil_append, List.cons_append, true_and, and_true, zz0, true_implies, Nat.reduceLT, Nat.reduceLeDiff, zzI, look_nil, Nat.reduceBEq, implies_true, Nat.reduceSub, S_getD, zz5, and_imp, imp_and, imp_self, and_self, evS_move, zz21, gr_v, zz22, evS_call, evC_value, zz29, zz30, zz13, pickK_l, pickK_r, sBad_eq, zz6, Nat.reduceEqDiff, ↓reduceIte, atsL, oksG, freeN, AV.ren, AV.renL, addRows, ORow.row, Nat.reduceMul, Nat.reduceAdd, zz9, Option.bind_some, Option.map_some, forall_eq', D.sl.injEq, zz16, Option.some.injEq, exists_eq_left', exists_eq_left, exists_eq', exists_eq, zzD, zz2]
  refine hK1 _ ?_; try clear hK1 K1
  refine awp_keepL [0, 1, 28] ?_
  simp only [zz20, zzI, look_nil, Nat.reduceBEq]
  refine awp_condS _ (by decide) (by simp only [look_cons, Nat.reduceBEq, cond_true, cond_false]; rfl) ?_ ?_
  · intro hb
    have hsb : sBad t l = true := hb
    clear hb
    have hs : sRE t l = 3 := by simp only [sRE, hsb, cond_true]
    refine awp_seq fun K2 hK2 => ?_
    refine awp_plain F_mixed [some 4, some 5] rfl ?_
    simp only [List.nil_append, List.cons_append, true_and, and_true, zz0, true_implies, Nat.reduceLT, Nat.reduceLeDiff, zzI, look_nil, Nat.reduceBEq, implies_true, evS_assign, zz6, Nat.reduceEqDiff, ↓reduceIte]
    refine hK2 _ ?_; try clear hK2 K2
    refine awp_keepL [4, 5] ?_
    simp only [zz20, zzI, look_nil, Nat.reduceBEq]
    refine awp_le (le_SK id [0] rfl (l' := [(4, .ref 0 0), (5, .d (iv 3))]) (m' := [(0, (⟨True, 3, 1, true, true, 0, []⟩ : ARow))]) ?_ ?_ ?_ ?_) ?_
    · simp only [leV, look_cons, Nat.reduceBEq, cond_true, cond_false]; exact ⟨VLe.nil_ (by decide), VLe.still rfl, trivial⟩
    · exact ⟨fun h => by simp at h, fun _ => rfl, trivial⟩
    · simp [wfV, AV.ids, lookR]
    · simp [wfR]
    refine awp_ret ?_
    simp only [zz6, Nat.reduceEqDiff, ↓reduceIte]
    rw [show splitV t l = [] by simp only [splitV, hs]; rfl, show splitE t l = 3 by simp only [splitE, hs]; rfl]
    refine done1 0 (by simp only [resCs, resC]; trivial) ?_ (by simp [flatA, flatAs, flatD]) (by simp [AV.ids, AV.idsL]) (by rfl) trivial rfl rfl ?_ (by simp [flatDs, flatD])
    · simp only [List.map_cons, List.map_nil, resA, S_getD, Nat.reduceLT, Nat.reduceLeDiff, look_cons, Nat.reduceBEq, cond_true, cond_false, resAll]; rfl
    · rfl
  · intro hb
    have hsb : sBad t l = false := hb
    clear hb
    have hrt := sBad_rt hsb
    refine awp_skip ?_
    simp only [zz6, Nat.reduceEqDiff, ↓reduceIte]
    refine hK0 _ ?_; try clear hK0 K0
    refine awp_keepL [0, 1] ?_
    simp only [zz20, zzI, look_nil, Nat.reduceBEq]
    refine awp_seq fun K0 hK0 => ?_
    refine awp_plain F_mixed [some 6] rfl ?_
    simp only [List.nil_append, List.cons_append, true_and, and_true, zz0, true_implies, Nat.reduceLT, Nat.reduceLeDiff, zzI, look_nil, Nat.reduceBEq, implies_true, evS_assign, zz6, Nat.reduceEqDiff, ↓reduceIte]
    refine hK0 _ ?_; try clear hK0 K0
    refine awp_keepL [0, 1, 6] ?_
    simp only [zz20, zzI, look_nil, Nat.reduceBEq]
    refine awp_seq fun K0 hK0 => ?_
    refine awp_seq fun K1 hK1 => ?_
    refine awp_plain F_mixed [some 7] rfl ?_
    simp only [List.nil_append, List.cons_append, true_and, and_true, zz0, true_implies, Nat.reduceLT, Nat.reduceLeDiff, zzI, look_nil, Nat.reduceBEq, implies_true, evS_assign, zz6, Nat.reduceEqDiff, ↓reduceIte]
    refine hK1 _ ?_; try clear hK1 K1
    refine awp_keepL [0, 1, 6, 7] ?_
    simp only [zz20, zzI, look_nil, Nat.reduceBEq]
    refine awp_block ?_
    refine awp_loop (fun m s => ∃ (pre : List Int) (post : List Int), (l = pre ++ post) ∧ (pre.any ngI = false) ∧ m = post.length ∧ s = S 149 [(0, .d (iv t)), (1, .d (ints l)), (6, .ref 6 pre.length), (7, .d (iv pre.length))] [(6, grow 30 2 6 (pre.map wideC))]) (l.length) _ (le_SK id [6] rfl (l' := [(0, .d (iv t)), (1, .d (ints l)), (6, .ref 6 [].length), (7, .d (iv [].length))]) (m' := [(6, grow 30 2 6 ([].map wideC))]) ?_ ?_ ?_ ?_) ⟨[], l, rfl, rfl, rfl, rfl⟩ ?_
    · simp only [leV, look_cons, Nat.reduceBEq, cond_true, cond_false]; exact ⟨(by first | exact VLe.still rfl | exact VLe.nil_ (by decide) | exact VLe.nild_ | exact VLe.refl _ | exact VLe.ptrE (by simp) (by rfl) | exact VLe.refE (by simp) (by rfl) (by first | rfl | (simp; done) | (simp; omega)) | exact VLe.dE (by first | rfl | simp)), (by first | exact VLe.still rfl | exact VLe.nil_ (by decide) | exact VLe.nild_ | exact VLe.refl _ | exact VLe.ptrE (by simp) (by rfl) | exact VLe.refE (by simp) (by rfl) (by first | rfl | (simp; done) | (simp; omega)) | exact VLe.dE (by first | rfl | simp)), (by first | exact VLe.still rfl | exact VLe.nil_ (by decide) | exact VLe.nild_ | exact VLe.refl _ | exact VLe.ptrE (by simp) (by rfl) | exact VLe.refE (by simp) (by rfl) (by first | rfl | (simp; done) | (simp; omega)) | exact VLe.dE (by first | rfl | simp)), (by first | exact VLe.still rfl | exact VLe.nil_ (by decide) | exact VLe.nild_ | exact VLe.refl _ | exact VLe.ptrE (by simp) (by rfl) | exact VLe.refE (by simp) (by rfl) (by first | rfl | (simp; done) | (simp; omega)) | exact VLe.dE (by first | rfl | simp)), trivial⟩
    · exact ⟨fun h => by simp at h, fun _ => rfl, trivial⟩
    · simp [wfV, AV.ids, AV.idsL, lookR, grow]
    · exact ⟨wf_data _ _, trivial⟩
    rintro m s ⟨pre, post, hsp, hng, rfl, rfl⟩
    have hspl := congrArg List.length hsp
    simp only [List.length_append] at hspl
    refine awp_seq fun K2 hK2 => ?_
    refine awp_seq fun K3 hK3 => ?_
    refine awp_plain F_mixed [some 29, some 30, some 31, some 32] rfl ?_
    simp only [List.nil_append, List.cons_append, true_and, and_true, zz0, true_implies, Nat.reduceLT, Nat.reduceLeDiff, zzI, look_nil, Nat.reduceBEq, implies_true, evS_move, evS_call, zz12, F_sl22, Option.isSome_some, zz21, gr_v, zz22, ints, len_map, zz6, Nat.reduceEqDiff, ↓reduceIte]
    refine hK3 _ ?_; try clear hK3 K3
    refine awp_keepL [0, 1, 6, 7, 32] ?_
    simp only [zz20, zzI, look_nil, Nat.reduceBEq]
    refine awp_condS _ (by decide) (by simp only [look_cons, Nat.reduceBEq, cond_true, cond_false]; rfl) ?_ ?_
    · intro hb
      obtain ⟨x, post2, rfl⟩ : ∃ x t, post = x :: t := by
        cases post with
        | nil => have := of_decide_eq_true hb; simp at hspl; omega
        | cons x t => exact ⟨x, t, rfl⟩
      clear hb
      simp only [List.length_cons] at hspl
      have gx : (l.map (fun n => [iv n])).getD pre.length [] = [iv x] := by
        rw [hsp, List.map_append]; exact gd_mid' (A := pre.map (fun n => [iv n])) _ _ (by simp)
      have bx := ltI (show pre.length < l.length by omega)
      have hwx : IntKind.wrap .i64 ((pre.length : Int) + 1) = ((pre ++ [x]).length : Int) := by rw [wrapI (by omega) (by omega)]; simp
      have hxb := hrt x (by rw [hsp]; simp)
      refine awp_skip ?_
      simp only [zz6, Nat.reduceEqDiff, ↓reduceIte]
      refine hK2 _ ?_; try clear hK2 K2
      refine awp_keepL [0, 1, 6, 7] ?_
      simp only [zz20, zzI, look_nil, Nat.reduceBEq]
      refine awp_seq fun K2 hK2 => ?_
      refine awp_block ?_
      refine awp_seq fun K3 hK3 => ?_
      refine awp_seq fun K4 hK4 => ?_
      refine awp_plain F_mixed [some 35, some 36, some 37, some 38, some 39] rfl ?_
      simp only [List.nil_append, List.cons_append, true_and, and_true, zz0, true_implies, Nat.reduceLT, Nat.reduceLeDiff, zzI, look_nil, Nat.reduceBEq, implies_true, evS_move, evS_indexAddr, zz23, zz24, F_sl22, F_sz3, Option.map_some, zz16, Option.some.injEq, exists_eq_left', exists_eq_left, eq_self, reduceCtorEq, and_self, F_ok3, F_ag3, zz8, zzD, Nat.reduceAdd, Nat.zero_add, zzF, zzB, zzE, zz21, gr_v, zz22, ints, gx, bx, hwx, len_map, ge0, Int.toNat_natCast, D.agg.injEq, zz6, Nat.reduceEqDiff, ↓reduceIte]
      refine hK4 _ ?_; try clear hK4 K4
      refine awp_keepL [0, 1, 6, 7, 39] ?_
      simp only [zz20, zzI, look_nil, Nat.reduceBEq]
      refine awp_condS _ (by decide) (by simp only [look_cons, Nat.reduceBEq, cond_true, cond_false]; rfl) ?_ ?_
      · intro hb
        have hx : ngI x = true := hb
        clear hb
        have ha : l.any ngI = true := by rw [hsp]; simp [hx]
        have hs : sRE t l = 3 := by simp only [sRE, hsb, ha, cond_true, cond_false]
        refine awp_seq fun K5 hK5 => ?_
        refine awp_plain F_mixed [some 4, some 5] rfl ?_
        simp only [List.nil_append, List.cons_append, true_and, and_true, zz0, true_implies, Nat.reduceLT, Nat.reduceLeDiff, zzI, look_nil, Nat.reduceBEq, implies_true, evS_assign, zz6, Nat.reduceEqDiff, ↓reduceIte]
        refine hK5 _ ?_; try clear hK5 K5
        refine awp_keepL [4, 5] ?_
        simp only [zz20, zzI, look_nil, Nat.reduceBEq]
        refine awp_le (le_SK id [0] rfl (l' := [(4, .ref 0 0), (5, .d (iv 3))]) (m' := [(0, (⟨True, 3, 1, true, true, 0, []⟩ : ARow))]) ?_ ?_ ?_ ?_) ?_
        · simp only [leV, look_cons, Nat.reduceBEq, cond_true, cond_false]; exact ⟨VLe.nil_ (by decide), VLe.still rfl, trivial⟩
        · exact ⟨fun h => by simp at h, fun _ => rfl, trivial⟩
        · simp [wfV, AV.ids, lookR]
        · simp [wfR]
        refine awp_ret ?_
        simp only [zz6, Nat.reduceEqDiff, ↓reduceIte]
        rw [show splitV t l = [] by simp only [splitV, hs]; rfl, show splitE t l = 3 by simp only [splitE, hs]; rfl]
        refine done1 0 (by simp only [resCs, resC]; trivial) ?_ (by simp [flatA, flatAs, flatD]) (by simp [AV.ids, AV.idsL]) (by rfl) trivial rfl rfl ?_ (by simp [flatDs, flatD])
        · simp only [List.map_cons, List.map_nil, resA, S_getD, Nat.reduceLT, Nat.reduceLeDiff, look_cons, Nat.reduceBEq, cond_true, cond_false, resAll]; rfl
        · rfl
      · intro hb
        have hx : ngI x = false := hb
        clear hb
        refine awp_skip ?_
        simp only [zz6, Nat.reduceEqDiff, ↓reduceIte]
        refine hK3 _ ?_; try clear hK3 K3
        refine awp_keepL [0, 1, 6, 7] ?_
        simp only [zz20, zzI, look_nil, Nat.reduceBEq]
        refine awp_plain F_mixed [some 40, some 41, some 42, some 43, some 44, some 45, some 46, some 47, some 6] rfl ?_
        simp only [List.nil_append, List.cons_append, true_and, and_true, zz0, true_implies, Nat.reduceLT, Nat.reduceLeDiff, zzI, look_nil, Nat.reduceBEq, implies_true, evS_move, evS_indexAddr, zz23, zz24, F_sl22, F_sz3, Option.map_some, zz16, Option.some.injEq, exists_eq_left', exists_eq_left, eq_self, reduceCtorEq, and_self, F_ok3, F_ag3, zz8, zzD, Nat.reduceAdd, Nat.zero_add, zzF, zzB, zzE, evS_call, evC_value, F_sl27, F_zero30, F_sz30, zz3, newRow1, zz1, zzG, maxLen_le, Nat.reduceMul, F_by30, zz4, zz9, Option.bind_some, evS_assign, ints, grow, wideA, wideC, gx, bx, hwx, len_map, ge0, Int.toNat_natCast, D.agg.injEq, zz6, Nat.reduceEqDiff, ↓reduceIte]
        refine call_go F_go12 (fun hG => Of_ x (by omega) (by omega)) (by simp [AV.ids, AV.idsL, wideA, wideC]) (by simp) ?_
        simp only [List.nil_append, List.cons_append, true_and, and_true, zz0, true_implies, Nat.reduceLT, Nat.reduceLeDiff, zzI, look_nil, Nat.reduceBEq, implies_true, evS_move, evS_indexAddr, zz23, zz24, F_sl22, F_sz3, Option.map_some, zz16, Option.some.injEq, exists_eq_left', exists_eq_left, eq_self, reduceCtorEq, and_self, F_ok3, F_ag3, zz8, zzD, Nat.reduceAdd, Nat.zero_add, zzF, zzB, zzE, evS_call, evC_value, F_sl27, F_zero30, F_sz30, zz3, newRow1, zz1, zzG, maxLen_le, Nat.reduceMul, F_by30, zz4, zz9, Option.bind_some, evS_assign, ints, grow, wideA, wideC, gx, bx, hwx, len_map, ge0, Int.toNat_natCast, D.agg.injEq, zz6, Nat.reduceEqDiff, ↓reduceIte, atsL, oksG, freeN, AV.ren, AV.renL, addRows, ORow.row, Nat.reduceMul, Nat.reduceAdd, unDs_cons, Option.bind_some, Option.map_some, forall_eq', D.sl.injEq, S_mem, Option.some.injEq, exists_eq_left', exists_eq_left, exists_eq', exists_eq, List.length_cons, zz2]
        have hm : pre.length + 1 ≤ 1000000 := by first | omega | (simp; omega)
        first | refine ⟨le_maxLen hm, by omega, ?_⟩ | refine ⟨by simp, le_maxLen hm, by omega, ?_⟩
        clear hm
        refine hK2 _ ?_; try clear hK2 K2
        refine awp_keepL [0, 1, 6, 7] ?_
        simp only [zz20, zzI, look_nil, Nat.reduceBEq]
        refine awp_plain F_mixed [some 33, some 34, some 7] rfl ?_
        simp only [List.nil_append, List.cons_append, true_and, and_true, zz0, true_implies, Nat.reduceLT, Nat.reduceLeDiff, zzI, look_nil, Nat.reduceBEq, implies_true, evS_move, zz21, gr_v, zz26, evS_assign, hwx, zz6, Nat.reduceEqDiff, ↓reduceIte]
        refine ⟨post2.length, _, by simp, le_SK (fun r => bif r == 6 then 47 else r) [] rfl (l' := [(0, .d (iv t)), (1, .d (ints l)), (6, .ref 6 (pre ++ [x]).length), (7, .d (iv (pre ++ [x]).length))]) (m' := [(6, grow 30 2 6 ((pre ++ [x]).map wideC))]) ?_ ?_ ?_ ?_, (pre ++ [x]), post2, by simp [hsp], by rw [List.any_append, hng]; simpa using hx, rfl, rfl⟩
        · simp only [leV, look_cons, Nat.reduceBEq, cond_true, cond_false, hwx]; exact ⟨(by first | exact VLe.still rfl | exact VLe.nil_ (by decide) | exact VLe.nild_ | exact VLe.refl _ | exact VLe.ptrE (by simp) (by rfl) | exact VLe.refE (by simp) (by rfl) (by first | rfl | (simp; done) | (simp; omega)) | exact VLe.dE (by first | rfl | simp)), (by first | exact VLe.still rfl | exact VLe.nil_ (by decide) | exact VLe.nild_ | exact VLe.refl _ | exact VLe.ptrE (by simp) (by rfl) | exact VLe.refE (by simp) (by rfl) (by first | rfl | (simp; done) | (simp; omega)) | exact VLe.dE (by first | rfl | simp)), (VLe.refE (by simp) (by rfl) (by simp)), (by first | exact VLe.still rfl | exact VLe.nil_ (by decide) | exact VLe.nild_ | exact VLe.refl _ | exact VLe.ptrE (by simp) (by rfl) | exact VLe.refE (by simp) (by rfl) (by first | rfl | (simp; done) | (simp; omega)) | exact VLe.dE (by first | rfl | simp)), trivial⟩
        · exact ⟨fun _ => ⟨_, rfl, RowLe.data_ (by simp [wideC])⟩, fun h => by simp at h, trivial⟩
        · simp [wfV, AV.ids, AV.idsL, lookR, grow]
        · exact ⟨wf_data _ _, trivial⟩
    · intro hb
      obtain rfl : post = [] := by
        cases post with
        | nil => rfl
        | cons x t => have := of_decide_eq_false hb; simp at hspl; omega
      clear hb
      simp only [List.append_nil] at hsp
      subst hsp
      refine awp_exit ?_
      simp only [zz6, Nat.reduceEqDiff, ↓reduceIte]
      refine hK0 _ ?_; try clear hK0 K0
      refine awp_keepL [0, 1, 6] ?_
      simp only [zz20, zzI, look_nil, Nat.reduceBEq]
      refine awp_seq fun K0 hK0 => ?_
      refine awp_seq fun K1 hK1 => ?_
      refine awp_plain F_mixed [some 48, some 49, some 50] rfl ?_
      simp only [List.nil_append, List.cons_append, true_and, and_true, zz0, true_implies, Nat.reduceLT, Nat.reduceLeDiff, zzI, look_nil, Nat.reduceBEq, implies_true, evS_move, evS_call, zz12, F_sl22, Option.isSome_some, zz21, gr_v, zz25, ints, len_map, zz6, Nat.reduceEqDiff, ↓reduceIte]
      refine hK1 _ ?_; try clear hK1 K1
      refine awp_keepL [0, 1, 6, 50] ?_
      simp only [zz20, zzI, look_nil, Nat.reduceBEq]
      refine awp_condS _ (by decide) (by simp only [look_cons, Nat.reduceBEq, cond_true, cond_false]; rfl) ?_ ?_
      · intro hb
        have hn : decide ((l.length : Int) > 1024) = true := hb
        clear hb
        have hs : sRE t l = 5 := by simp only [sRE, hsb, hng, hn, cond_true, cond_false]
        refine awp_seq fun K2 hK2 => ?_
        refine awp_plain F_mixed [some 4, some 5] rfl ?_
        simp only [List.nil_append, List.cons_append, true_and, and_true, zz0, true_implies, Nat.reduceLT, Nat.reduceLeDiff, zzI, look_nil, Nat.reduceBEq, implies_true, evS_assign, zz6, Nat.reduceEqDiff, ↓reduceIte]
        refine hK2 _ ?_; try clear hK2 K2
        refine awp_keepL [4, 5] ?_
        simp only [zz20, zzI, look_nil, Nat.reduceBEq]
        refine awp_le (le_SK id [0] rfl (l' := [(4, .ref 0 0), (5, .d (iv 5))]) (m' := [(0, (⟨True, 3, 1, true, true, 0, []⟩ : ARow))]) ?_ ?_ ?_ ?_) ?_
        · simp only [leV, look_cons, Nat.reduceBEq, cond_true, cond_false]; exact ⟨VLe.nil_ (by decide), VLe.still rfl, trivial⟩
        · exact ⟨fun h => by simp at h, fun _ => rfl, trivial⟩
        · simp [wfV, AV.ids, lookR]
        · simp [wfR]
        refine awp_ret ?_
        simp only [zz6, Nat.reduceEqDiff, ↓reduceIte]
        rw [show splitV t l = [] by simp only [splitV, hs]; rfl, show splitE t l = 5 by simp only [splitE, hs]; rfl]
        refine done1 0 (by simp only [resCs, resC]; trivial) ?_ (by simp [flatA, flatAs, flatD]) (by simp [AV.ids, AV.idsL]) (by rfl) trivial rfl rfl ?_ (by simp [flatDs, flatD])
        · simp only [List.map_cons, List.map_nil, resA, S_getD, Nat.reduceLT, Nat.reduceLeDiff, look_cons, Nat.reduceBEq, cond_true, cond_false, resAll]; rfl
        · rfl
      · intro hb
        have hn : decide ((l.length : Int) > 1024) = false := hb
        clear hb
        have hs : sRE t l = 0 := by simp only [sRE, hsb, hng, hn, cond_false]
        obtain ⟨ht, hll, hl2⟩ := sRE_ok hs
        have hSN := sumN (l := l) (fun x hx => (hll x hx).1)
        have hfit := fits_small (l := l) (fun x hx => by have := hll x hx; omega) (by omega)
        have hSl := sN_le hll
        have htt : ((t.toNat : Nat) : Int) = t := by omega
        have htB : t.toNat ≤ 4611686018427387904 := by omega
        refine awp_skip ?_
        simp only [zz6, Nat.reduceEqDiff, ↓reduceIte]
        refine hK0 _ ?_; try clear hK0 K0
        refine awp_keepL [0, 1, 6] ?_
        simp only [zz20, zzI, look_nil, Nat.reduceBEq]
        refine awp_seq fun K0 hK0 => ?_
        refine awp_plain F_mixed [some 52, some 53, some 51, some 54, some 55, some 8, none, some 9] rfl ?_
        simp only [List.nil_append, List.cons_append, true_and, and_true, zz0, true_implies, Nat.reduceLT, Nat.reduceLeDiff, zzI, look_nil, Nat.reduceBEq, implies_true, evS_move, evS_call, evC_value, zz14, zzD, Nat.reduceAdd, Nat.zero_add, zzF, zz32, newRow1, F_zero30, zz16, Option.some.injEq, exists_eq_left', exists_eq_left, Option.map_some, eq_self, reduceCtorEq, and_self, zzB, zzE, zz10, zz18, F_ok30, F_sz30, splice, List.append_nil, zz1, zzG, evS_assign, wides, len_map, grow, wNA, zz6, Nat.reduceEqDiff, ↓reduceIte]
        refine call_go F_go13 (fun hG => WSumN_ l (by omega) hll) (by simp [AV.ids, AV.idsL, wNA]) (by simp) ?_
        simp only [List.nil_append, List.cons_append, true_and, and_true, zz0, true_implies, Nat.reduceLT, Nat.reduceLeDiff, zzI, look_nil, Nat.reduceBEq, implies_true, evS_move, evS_call, evC_value, zz14, zzD, Nat.reduceAdd, Nat.zero_add, zzF, zz32, newRow1, F_zero30, zz16, Option.some.injEq, exists_eq_left', exists_eq_left, Option.map_some, eq_self, reduceCtorEq, and_self, zzB, zzE, zz10, zz18, F_ok30, F_sz30, splice, List.append_nil, zz1, zzG, evS_assign, wides, len_map, grow, wNA, zz6, Nat.reduceEqDiff, ↓reduceIte, atsL, oksG, freeN, AV.ren, AV.renL, addRows, ORow.row, Nat.reduceMul, Nat.reduceAdd, zz9, Option.bind_some, Option.map_some, forall_eq', D.sl.injEq, S_mem, Option.some.injEq, exists_eq_left', exists_eq_left, exists_eq', exists_eq, List.length_cons, zz2]
        refine hK0 _ ?_; try clear hK0 K0
        refine awp_keepL [0, 1, 8] ?_
        simp only [zz20, zzI, look_nil, Nat.reduceBEq]
        refine awp_seq fun K0 hK0 => ?_
        refine awp_seq fun K1 hK1 => ?_
        refine awp_plain F_mixed [some 56, some 57, some 58, some 59, some 60, some 61, some 62, some 63] rfl ?_
        simp only [List.nil_append, List.cons_append, true_and, and_true, zz0, true_implies, Nat.reduceLT, Nat.reduceLeDiff, zzI, look_nil, Nat.reduceBEq, implies_true, Nat.reduceSub, S_getD, zz5, and_imp, imp_and, imp_self, and_self, zz19, zz23, F_off30_0, zzB, Nat.zero_add, Nat.reduceAdd, F_ok3, F_ag3, F_sz3, zz8, zzD, zzF, zzE, zz16, Option.some.injEq, exists_eq_left', exists_eq_left, Option.map_some, eq_self, reduceCtorEq, zz21, gr_v, zz34, evS_move, F_off30_1, F_ok28, F_ag28, F_sz28, zz13, pickK_l, pickK_r, sN_zero, D.agg.injEq, zz6, Nat.reduceEqDiff, ↓reduceIte]
        refine hK1 _ ?_; try clear hK1 K1
        refine awp_keepL [0, 1, 8, 63] ?_
        simp only [zz20, zzI, look_nil, Nat.reduceBEq]
        refine awp_condS _ (by decide) (by simp only [look_cons, Nat.reduceBEq, cond_true, cond_false]; rfl) ?_ ?_
        · intro hb
          have hz : sN l = 0 := by simpa using hb
          clear hb
          refine awp_seq fun K2 hK2 => ?_
          refine awp_seq fun K3 hK3 => ?_
          refine awp_plain F_mixed [some 64, some 65] rfl ?_
          simp only [List.nil_append, List.cons_append, true_and, and_true, zz0, true_implies, Nat.reduceLT, Nat.reduceLeDiff, zzI, look_nil, Nat.reduceBEq, implies_true, evS_move, zz21, gr_v, zz28, zz6, Nat.reduceEqDiff, ↓reduceIte]
          refine hK3 _ ?_; try clear hK3 K3
          refine awp_keepL [1, 65] ?_
          simp only [zz20, zzI, look_nil, Nat.reduceBEq]
          refine awp_condS _ (by decide) (by simp only [look_cons, Nat.reduceBEq, cond_true, cond_false]; rfl) ?_ ?_
          · intro hb
            have h0 : t ≠ 0 := by simpa using hb
            clear hb
            refine awp_seq fun K4 hK4 => ?_
            refine awp_plain F_mixed [some 4, some 5] rfl ?_
            simp only [List.nil_append, List.cons_append, true_and, and_true, zz0, true_implies, Nat.reduceLT, Nat.reduceLeDiff, zzI, look_nil, Nat.reduceBEq, implies_true, evS_assign, zz6, Nat.reduceEqDiff, ↓reduceIte]
            refine hK4 _ ?_; try clear hK4 K4
            refine awp_keepL [4, 5] ?_
            simp only [zz20, zzI, look_nil, Nat.reduceBEq]
            refine awp_le (le_SK id [0] rfl (l' := [(4, .ref 0 0), (5, .d (iv 2))]) (m' := [(0, (⟨True, 3, 1, true, true, 0, []⟩ : ARow))]) ?_ ?_ ?_ ?_) ?_
            · simp only [leV, look_cons, Nat.reduceBEq, cond_true, cond_false]; exact ⟨VLe.nil_ (by decide), VLe.still rfl, trivial⟩
            · exact ⟨fun h => by simp at h, fun _ => rfl, trivial⟩
            · simp [wfV, AV.ids, lookR]
            · simp [wfR]
            refine awp_ret ?_
            simp only [zz6, Nat.reduceEqDiff, ↓reduceIte]
            rw [splitV_none hs hz h0, splitE_zero hs hz, show (t == 0) = false by simpa using h0]
            refine done1 0 (by simp only [resCs, resC]; trivial) ?_ (by simp [flatA, flatAs, flatD]) (by simp [AV.ids, AV.idsL]) (by rfl) trivial rfl rfl ?_ (by simp [flatDs, flatD])
            · simp only [List.map_cons, List.map_nil, resA, S_getD, Nat.reduceLT, Nat.reduceLeDiff, look_cons, Nat.reduceBEq, cond_true, cond_false, resAll]; rfl
            · rfl
          · intro hb
            have h0 : t = 0 := by simpa using hb
            clear hb
            refine awp_skip ?_
            simp only [zz6, Nat.reduceEqDiff, ↓reduceIte]
            refine hK2 _ ?_; try clear hK2 K2
            refine awp_keepL [1] ?_
            simp only [zz20, zzI, look_nil, Nat.reduceBEq]
            refine awp_seq fun K2 hK2 => ?_
            refine awp_plain F_mixed [some 66, some 67, some 68, some 4, some 5] rfl ?_
            simp only [List.nil_append, List.cons_append, true_and, and_true, zz0, true_implies, Nat.reduceLT, Nat.reduceLeDiff, zzI, look_nil, Nat.reduceBEq, implies_true, evS_move, evS_call, zz12, F_sl22, Option.isSome_some, evS_makeSlice, msK_some, msZ_some, F_zero3, F_sz3, F_by3, newRow1, zz10, zz16, Option.some.injEq, exists_eq_left', exists_eq_left, Option.map_some, eq_self, reduceCtorEq, and_self, zzD, Nat.reduceAdd, Nat.zero_add, zzF, zzB, zzE, evS_assign, ints, len_map, zz6, Nat.reduceEqDiff, ↓reduceIte]
            refine ⟨⟨by omega, by omega⟩, ?_⟩
            refine hK2 _ ?_; try clear hK2 K2
            refine awp_keepL [4, 5] ?_
            simp only [zz20, zzI, look_nil, Nat.reduceBEq]
            refine awp_ret ?_
            simp only [zz6, Nat.reduceEqDiff, ↓reduceIte]
            rw [splitV_zero hs hz h0, splitE_zero hs hz, show (t == 0) = true by simpa using h0, show (zerosI l.length).length = l.length by simp [zerosI]]
            refine done1 68 (by simp only [resCs, resC]; trivial) ?_ (by simp [flatA, flatAs, flatD]) (by simp [AV.ids, AV.idsL]) (by rfl) trivial rfl rfl ?_ (by simp [flatDs, flatD])
            · simp only [List.map_cons, List.map_nil, resA, S_getD, Nat.reduceLT, Nat.reduceLeDiff, look_cons, Nat.reduceBEq, cond_true, cond_false, resAll]; rfl
            · simp [zerosI]
        · intro hb
          have hz : sN l ≠ 0 := by simpa using hb
          clear hb
          have hS : 0 < sN l := by omega
          have hLb := left_bnd (T := t.toNat) hS
          refine awp_skip ?_
          simp only [zz6, Nat.reduceEqDiff, ↓reduceIte]
          refine hK0 _ ?_; try clear hK0 K0
          refine awp_keepL [0, 1, 8] ?_
          simp only [zz20, zzI, look_nil, Nat.reduceBEq]
          refine awp_seq fun K0 hK0 => ?_
          refine awp_plain F_mixed [some 69, some 70, some 71, some 10] rfl ?_
          simp only [List.nil_append, List.cons_append, true_and, and_true, zz0, true_implies, Nat.reduceLT, Nat.reduceLeDiff, zzI, look_nil, Nat.reduceBEq, implies_true, evS_move, evS_call, zz12, F_sl22, Option.isSome_some, evS_makeSlice, msK_some, msZ_some, F_zero3, F_sz3, F_by3, newRow1, zz10, zz16, Option.some.injEq, exists_eq_left', exists_eq_left, Option.map_some, eq_self, reduceCtorEq, and_self, zzD, Nat.reduceAdd, Nat.zero_add, zzF, zzB, zzE, evS_assign, ints, len_map, zz6, Nat.reduceEqDiff, ↓reduceIte]
          refine ⟨⟨by omega, by omega⟩, ?_⟩
          refine hK0 _ ?_; try clear hK0 K0
          refine awp_keepL [0, 1, 8, 10] ?_
          simp only [zz20, zzI, look_nil, Nat.reduceBEq]
          refine awp_seq fun K0 hK0 => ?_
          refine awp_plain F_mixed [some 72, some 73, some 74, some 11] rfl ?_
          simp only [List.nil_append, List.cons_append, true_and, and_true, zz0, true_implies, Nat.reduceLT, Nat.reduceLeDiff, zzI, look_nil, Nat.reduceBEq, implies_true, evS_move, evS_call, zz12, F_sl22, Option.isSome_some, evS_makeSlice, msK_some, msZ_some, F_sl27, F_zero30, F_sz30, F_by30, newRow1, zz10, zz16, Option.some.injEq, exists_eq_left', exists_eq_left, Option.map_some, eq_self, reduceCtorEq, and_self, zzD, Nat.reduceAdd, Nat.zero_add, zzF, zzB, zzE, evS_assign, ints, len_map, zz6, Nat.reduceEqDiff, ↓reduceIte]
          refine ⟨⟨by omega, by omega⟩, ?_⟩
          refine hK0 _ ?_; try clear hK0 K0
          refine awp_keepL [0, 1, 8, 10, 11] ?_
          simp only [zz20, zzI, look_nil, Nat.reduceBEq]
          refine awp_seq fun K0 hK0 => ?_
          refine awp_plain F_mixed [some 75, some 12] rfl ?_
          simp only [List.nil_append, List.cons_append, true_and, and_true, zz0, true_implies, Nat.reduceLT, Nat.reduceLeDiff, zzI, look_nil, Nat.reduceBEq, implies_true, evS_move, evS_assign, zz6, Nat.reduceEqDiff, ↓reduceIte]
          refine hK0 _ ?_; try clear hK0 K0
          refine awp_keepL [0, 1, 8, 10, 11, 12] ?_
          simp only [zz20, zzI, look_nil, Nat.reduceBEq]
          refine awp_seq fun K0 hK0 => ?_
          refine awp_seq fun K1 hK1 => ?_
          refine awp_plain F_mixed [some 13] rfl ?_
          simp only [List.nil_append, List.cons_append, true_and, and_true, zz0, true_implies, Nat.reduceLT, Nat.reduceLeDiff, zzI, look_nil, Nat.reduceBEq, implies_true, evS_assign, zz6, Nat.reduceEqDiff, ↓reduceIte]
          refine hK1 _ ?_; try clear hK1 K1
          refine awp_keepL [0, 1, 8, 10, 11, 12, 13] ?_
          simp only [zz20, zzI, look_nil, Nat.reduceBEq]
          refine awp_block ?_
          refine awp_loop (fun m s => ∃ (pre : List Int) (post : List Int), (l = pre ++ post) ∧ m = post.length ∧ s = S 149 [(0, .d (iv t)), (1, .d (ints l)), (8, .ptr 8 0 0), (10, .ref 71 l.length), (11, .ref 74 l.length), (12, .d (iv (leftV t.toNat (sN l) pre))), (13, .d (iv pre.length))] [(8, (⟨True, 30, 2, true, false, 8, [[.d (iv (((sN l) / 18446744073709551616 : Nat) : Int)), .d (.v (.int .u64 (((sN l) % 18446744073709551616 : Nat) : Int)))]]⟩ : ARow)), (71, (⟨True, 3, 1, true, true, 71, ((qsV t.toNat (sN l) pre ++ zerosI post.length).map fun n => [iv n]).map (·.map .d)⟩ : ARow)), (74, (⟨True, 30, 2, true, true, 74, ((restsN t.toNat (sN l) pre ++ zerosN post.length).map wN).map (·.map .d)⟩ : ARow))]) (l.length) _ (le_SK id [] rfl (l' := [(0, .d (iv t)), (1, .d (ints l)), (8, .ptr 8 0 0), (10, .ref 71 l.length), (11, .ref 74 l.length), (12, .d (iv (leftV t.toNat (sN l) []))), (13, .d (iv [].length))]) (m' := [(8, (⟨True, 30, 2, true, false, 8, [[.d (iv (((sN l) / 18446744073709551616 : Nat) : Int)), .d (.v (.int .u64 (((sN l) % 18446744073709551616 : Nat) : Int)))]]⟩ : ARow)), (71, (⟨True, 3, 1, true, true, 71, ((qsV t.toNat (sN l) [] ++ zerosI l.length).map fun n => [iv n]).map (·.map .d)⟩ : ARow)), (74, (⟨True, 30, 2, true, true, 74, ((restsN t.toNat (sN l) [] ++ zerosN l.length).map wN).map (·.map .d)⟩ : ARow))]) ?_ ?_ ?_ ?_) ⟨[], l, rfl, rfl, rfl⟩ ?_
          · simp only [leV, look_cons, Nat.reduceBEq, cond_true, cond_false]; exact ⟨(by first | exact VLe.still rfl | exact VLe.nil_ (by decide) | exact VLe.nild_ | exact VLe.refl _ | exact VLe.ptrE (by simp) (by rfl) | exact VLe.refE (by simp) (by rfl) (by first | rfl | (simp; done) | (simp; omega)) | exact VLe.dE (by first | rfl | simp)), (by first | exact VLe.still rfl | exact VLe.nil_ (by decide) | exact VLe.nild_ | exact VLe.refl _ | exact VLe.ptrE (by simp) (by rfl) | exact VLe.refE (by simp) (by rfl) (by first | rfl | (simp; done) | (simp; omega)) | exact VLe.dE (by first | rfl | simp)), (by first | exact VLe.still rfl | exact VLe.nil_ (by decide) | exact VLe.nild_ | exact VLe.refl _ | exact VLe.ptrE (by simp) (by rfl) | exact VLe.refE (by simp) (by rfl) (by first | rfl | (simp; done) | (simp; omega)) | exact VLe.dE (by first | rfl | simp)), (VLe.refE (by simp) (by rfl) (by simp)), (VLe.refE (by simp) (by rfl) (by simp)), (VLe.dE (by simp [leftV, qsV, htt])), (by first | exact VLe.still rfl | exact VLe.nil_ (by decide) | exact VLe.nild_ | exact VLe.refl _ | exact VLe.ptrE (by simp) (by rfl) | exact VLe.refE (by simp) (by rfl) (by first | rfl | (simp; done) | (simp; omega)) | exact VLe.dE (by first | rfl | simp)), trivial⟩
          · exact ⟨fun _ => ⟨_, rfl, RowLe.cells (VLess.one_ (VLes.cons_ (VLe.dE (by first | rfl | simp)) (VLes.cons_ (VLe.dE (by first | rfl | simp)) (VLes.nil_))))⟩, fun h => by simp at h, fun _ => ⟨_, rfl, (by exact RowLe.same (by simp [qsV, zerosI, List.map_replicate]) (by simp [AV.idsL, AV.ids]))⟩, fun h => by simp at h, fun _ => ⟨_, rfl, (by exact RowLe.same (by simp [restsN, zerosN, wN, List.map_replicate]) (by simp [AV.idsL, AV.ids]))⟩, fun h => by simp at h, trivial⟩
          · simp [wfV, AV.ids, AV.idsL, lookR, grow]
          · exact ⟨by simp [AV.idsL, AV.ids, lookR], wf_data _ _, wf_data _ _, trivial⟩
          rintro m s ⟨pre, post, hsp, rfl, rfl⟩
          have hspl := congrArg List.length hsp
          simp only [List.length_append] at hspl
          refine awp_seq fun K2 hK2 => ?_
          refine awp_seq fun K3 hK3 => ?_
          refine awp_plain F_mixed [some 76, some 77, some 78, some 79] rfl ?_
          simp only [List.nil_append, List.cons_append, true_and, and_true, zz0, true_implies, Nat.reduceLT, Nat.reduceLeDiff, zzI, look_nil, Nat.reduceBEq, implies_true, evS_move, evS_call, zz12, F_sl22, Option.isSome_some, zz21, gr_v, zz22, ints, len_map, zz6, Nat.reduceEqDiff, ↓reduceIte]
          refine hK3 _ ?_; try clear hK3 K3
          refine awp_keepL [0, 1, 8, 10, 11, 12, 13, 79] ?_
          simp only [zz20, zzI, look_nil, Nat.reduceBEq]
          refine awp_condS _ (by decide) (by simp only [look_cons, Nat.reduceBEq, cond_true, cond_false]; rfl) ?_ ?_
          · intro hb
            obtain ⟨x, post2, rfl⟩ : ∃ x t, post = x :: t := by
              cases post with
              | nil => have := of_decide_eq_true hb; simp at hspl; omega
              | cons x t => exact ⟨x, t, rfl⟩
            clear hb
            simp only [List.length_cons] at hspl
            have gx : (l.map (fun n => [iv n])).getD pre.length [] = [iv x] := by
              rw [hsp, List.map_append]; exact gd_mid' (A := pre.map (fun n => [iv n])) _ _ (by simp)
            have bx := ltI (show pre.length < l.length by omega)
            have hwx : IntKind.wrap .i64 ((pre.length : Int) + 1) = ((pre ++ [x]).length : Int) := by rw [wrapI (by omega) (by omega)]; simp
            have hxb := hll x (by rw [hsp]; simp)
            have hxS : x.toNat ≤ sN l := w_le (by rw [hsp]; simp)
            have hqT := q_le (T := t.toNat) hxS
            have hxB : x.toNat ≤ 4611686018427387904 := by omega
            have hTx := times_bnd htB hxB
            have hlb := left_mid (T := t.toNat) hS hsp
            have hls := leftV_snoc t.toNat (sN l) pre x
            have hlv : IntKind.wrap .i64 (leftV t.toNat (sN l) pre - ((t.toNat * x.toNat / sN l : Nat) : Int)) = leftV t.toNat (sN l) (pre ++ [x]) := by
              rw [← hls]; exact wrapI (by omega) (by omega)
            have cL0 := eq_true (show pre.length < l.length by omega)
            have n1 : (qsV t.toNat (sN l) pre ++ zerosI (post2.length + 1)).length = l.length := by rw [List.length_append, qsV_len]; simp only [zerosI, List.length_replicate]; omega
            have n2 : (restsN t.toNat (sN l) pre ++ zerosN (post2.length + 1)).length = l.length := by rw [List.length_append, restsN_len]; simp only [zerosN, List.length_replicate]; omega
            have n3 : (qsV t.toNat (sN l) (pre ++ [x]) ++ zerosI post2.length).length = l.length := by rw [List.length_append, qsV_len]; simp only [zerosI, List.length_replicate, List.length_append, List.length_singleton]; omega
            have gq0 := get_q0 (T := t.toNat) (S := sN l) (pre := pre) (post := post2)
            have gr0 := get_r0 (T := t.toNat) (S := sN l) (pre := pre) (post := post2)
            have sq := set_q (T := t.toNat) (S := sN l) (pre := pre) (post := post2) (x := x)
            have gq := get_q (T := t.toNat) (S := sN l) (pre := pre) (post := post2) (x := x)
            have sr := set_r (T := t.toNat) (S := sN l) (pre := pre) (post := post2) (x := x)
            simp only [wN, List.map_cons, List.map_nil] at sr
            refine awp_skip ?_
            simp only [zz6, Nat.reduceEqDiff, ↓reduceIte]
            refine hK2 _ ?_; try clear hK2 K2
            refine awp_keepL [0, 1, 8, 10, 11, 12, 13] ?_
            simp only [zz20, zzI, look_nil, Nat.reduceBEq]
            refine awp_seq fun K2 hK2 => ?_
            refine awp_block ?_
            refine awp_seq fun K3 hK3 => ?_
            refine awp_draw F_mixed [some 83, some 84, some 85, some 86, some 87, some 88, some 89, some 90, some 91, some 92, some 93, some 94, some 82, some 95, some 96, some 97, none, some 98, none] rfl (by kernel_rfl) ?_
            simp only [List.nil_append, List.cons_append, true_and, and_true, zz0, true_implies, Nat.reduceLT, Nat.reduceLeDiff, zzI, look_nil, Nat.reduceBEq, implies_true, evS_move, evS_indexAddr, zz23, zz24, F_sl22, F_sz3, Option.map_some, zz16, Option.some.injEq, exists_eq_left', exists_eq_left, eq_self, reduceCtorEq, and_self, F_ok3, F_ag3, zz8, zzD, Nat.reduceAdd, Nat.zero_add, zzF, zzB, zzE, evS_call, evC_value, F_ok30, F_ag30, F_sz30, zz14, zz18, splice, List.append_nil, zz1, zzG, F_sl27, ints, wN, wNA, cL0, n1, n2, n3, gq0, gr0, Nat.le_refl, sq, gq, sr, List.length_cons, List.map_cons, gx, bx, hwx, len_map, ge0, Int.toNat_natCast, D.agg.injEq, zz6, Nat.reduceEqDiff, ↓reduceIte]
            refine call_go F_go17 (fun hG => rTimesT_ t x (by omega) (by omega) (by omega) (by omega)) (by simp [AV.ids, AV.idsL, wNA]) (by simp) ?_
            simp only [List.nil_append, List.cons_append, true_and, and_true, zz0, true_implies, Nat.reduceLT, Nat.reduceLeDiff, zzI, look_nil, Nat.reduceBEq, implies_true, evS_move, evS_indexAddr, zz23, zz24, F_sl22, F_sz3, Option.map_some, zz16, Option.some.injEq, exists_eq_left', exists_eq_left, eq_self, reduceCtorEq, and_self, F_ok3, F_ag3, zz8, zzD, Nat.reduceAdd, Nat.zero_add, zzF, zzB, zzE, evS_call, evC_value, F_ok30, F_ag30, F_sz30, zz14, zz18, splice, List.append_nil, zz1, zzG, F_sl27, ints, wN, wNA, cL0, n1, n2, n3, gq0, gr0, Nat.le_refl, sq, gq, sr, List.length_cons, List.map_cons, gx, bx, hwx, len_map, ge0, Int.toNat_natCast, D.agg.injEq, zz6, Nat.reduceEqDiff, ↓reduceIte, atsL, oksG, freeN, AV.ren, AV.renL, addRows, ORow.row, Nat.reduceMul, Nat.reduceAdd, zz9, Option.bind_some, Option.map_some, forall_eq', D.sl.injEq, S_mem, Option.some.injEq, exists_eq_left', exists_eq_left, exists_eq', exists_eq, List.length_cons, zz2]
            refine call_go F_go36 (fun hG => rDivide_ (t.toNat * x.toNat) (sN l) hS (by omega) hTx (by omega)) (by simp [AV.ids, AV.idsL, wNA]) (by simp) ?_
            simp only [List.nil_append, List.cons_append, true_and, and_true, zz0, true_implies, Nat.reduceLT, Nat.reduceLeDiff, zzI, look_nil, Nat.reduceBEq, implies_true, evS_move, evS_indexAddr, zz23, zz24, F_sl22, F_sz3, Option.map_some, zz16, Option.some.injEq, exists_eq_left', exists_eq_left, eq_self, reduceCtorEq, and_self, F_ok3, F_ag3, zz8, zzD, Nat.reduceAdd, Nat.zero_add, zzF, zzB, zzE, evS_call, evC_value, F_ok30, F_ag30, F_sz30, zz14, zz18, splice, List.append_nil, zz1, zzG, F_sl27, ints, wN, wNA, cL0, n1, n2, n3, gq0, gr0, Nat.le_refl, sq, gq, sr, List.length_cons, List.map_cons, gx, bx, hwx, len_map, ge0, Int.toNat_natCast, D.agg.injEq, zz6, Nat.reduceEqDiff, ↓reduceIte, atsL, oksG, freeN, AV.ren, AV.renL, addRows, ORow.row, Nat.reduceMul, Nat.reduceAdd, zz9, Option.bind_some, Option.map_some, forall_eq', D.sl.injEq, S_mem, Option.some.injEq, exists_eq_left', exists_eq_left, exists_eq', exists_eq, List.length_cons, zz2]
            refine hK3 _ ?_; try clear hK3 K3
            refine awp_keepL [0, 1, 8, 10, 11, 12, 13] ?_
            simp only [zz20, zzI, look_nil, Nat.reduceBEq]
            refine awp_plain F_mixed [some 99, some 100, some 101, some 102, some 103, some 104, some 12] rfl ?_
            simp only [List.nil_append, List.cons_append, true_and, and_true, zz0, true_implies, Nat.reduceLT, Nat.reduceLeDiff, zzI, look_nil, Nat.reduceBEq, implies_true, evS_move, evS_indexAddr, zz23, zz24, F_sl22, F_sz3, Option.map_some, zz16, Option.some.injEq, exists_eq_left', exists_eq_left, eq_self, reduceCtorEq, and_self, F_ok3, F_ag3, zz8, zzD, Nat.reduceAdd, Nat.zero_add, zzF, zzB, zzE, zz21, gr_v, zz33, evS_assign, cL0, n3, Nat.le_refl, List.length_cons, gq, hlv, gx, bx, hwx, len_map, ge0, Int.toNat_natCast, D.agg.injEq, zz6, Nat.reduceEqDiff, ↓reduceIte]
            refine hK2 _ ?_; try clear hK2 K2
            refine awp_keepL [0, 1, 8, 10, 11, 12, 13] ?_
            simp only [zz20, zzI, look_nil, Nat.reduceBEq]
            refine awp_plain F_mixed [some 80, some 81, some 13] rfl ?_
            simp only [List.nil_append, List.cons_append, true_and, and_true, zz0, true_implies, Nat.reduceLT, Nat.reduceLeDiff, zzI, look_nil, Nat.reduceBEq, implies_true, evS_move, zz21, gr_v, zz26, evS_assign, hwx, zz6, Nat.reduceEqDiff, ↓reduceIte]
            refine ⟨post2.length, _, by simp, le_SK id [] rfl (l' := [(0, .d (iv t)), (1, .d (ints l)), (8, .ptr 8 0 0), (10, .ref 71 l.length), (11, .ref 74 l.length), (12, .d (iv (leftV t.toNat (sN l) (pre ++ [x])))), (13, .d (iv (pre ++ [x]).length))]) (m' := [(8, (⟨True, 30, 2, true, false, 8, [[.d (iv (((sN l) / 18446744073709551616 : Nat) : Int)), .d (.v (.int .u64 (((sN l) % 18446744073709551616 : Nat) : Int)))]]⟩ : ARow)), (71, (⟨True, 3, 1, true, true, 71, ((qsV t.toNat (sN l) (pre ++ [x]) ++ zerosI post2.length).map fun n => [iv n]).map (·.map .d)⟩ : ARow)), (74, (⟨True, 30, 2, true, true, 74, ((restsN t.toNat (sN l) (pre ++ [x]) ++ zerosN post2.length).map wN).map (·.map .d)⟩ : ARow))]) ?_ ?_ ?_ ?_, (pre ++ [x]), post2, by simp [hsp], rfl, rfl⟩
            · simp only [leV, look_cons, Nat.reduceBEq, cond_true, cond_false, hwx, hlv]; exact ⟨(by first | exact VLe.still rfl | exact VLe.nil_ (by decide) | exact VLe.nild_ | exact VLe.refl _ | exact VLe.ptrE (by simp) (by rfl) | exact VLe.refE (by simp) (by rfl) (by first | rfl | (simp; done) | (simp; omega)) | exact VLe.dE (by first | rfl | simp)), (by first | exact VLe.still rfl | exact VLe.nil_ (by decide) | exact VLe.nild_ | exact VLe.refl _ | exact VLe.ptrE (by simp) (by rfl) | exact VLe.refE (by simp) (by rfl) (by first | rfl | (simp; done) | (simp; omega)) | exact VLe.dE (by first | rfl | simp)), (by first | exact VLe.still rfl | exact VLe.nil_ (by decide) | exact VLe.nild_ | exact VLe.refl _ | exact VLe.ptrE (by simp) (by rfl) | exact VLe.refE (by simp) (by rfl) (by first | rfl | (simp; done) | (simp; omega)) | exact VLe.dE (by first | rfl | simp)), (by first | exact VLe.still rfl | exact VLe.nil_ (by decide) | exact VLe.nild_ | exact VLe.refl _ | exact VLe.ptrE (by simp) (by rfl) | exact VLe.refE (by simp) (by rfl) (by first | rfl | (simp; done) | (simp; omega)) | exact VLe.dE (by first | rfl | simp)), (by first | exact VLe.still rfl | exact VLe.nil_ (by decide) | exact VLe.nild_ | exact VLe.refl _ | exact VLe.ptrE (by simp) (by rfl) | exact VLe.refE (by simp) (by rfl) (by first | rfl | (simp; done) | (simp; omega)) | exact VLe.dE (by first | rfl | simp)), (by first | exact VLe.still rfl | exact VLe.nil_ (by decide) | exact VLe.nild_ | exact VLe.refl _ | exact VLe.ptrE (by simp) (by rfl) | exact VLe.refE (by simp) (by rfl) (by first | rfl | (simp; done) | (simp; omega)) | exact VLe.dE (by first | rfl | simp)), (by first | exact VLe.still rfl | exact VLe.nil_ (by decide) | exact VLe.nild_ | exact VLe.refl _ | exact VLe.ptrE (by simp) (by rfl) | exact VLe.refE (by simp) (by rfl) (by first | rfl | (simp; done) | (simp; omega)) | exact VLe.dE (by first | rfl | simp)), trivial⟩
            · exact ⟨fun _ => ⟨_, rfl, (by first | exact RowLe.same (by simp) ids_data | exact RowLe.still ids_data | exact RowLe.still (by simp [AV.idsL, AV.ids]))⟩, fun h => by simp at h, fun _ => ⟨_, rfl, (by first | exact RowLe.same (by simp) ids_data | exact RowLe.still ids_data | exact RowLe.still (by simp [AV.idsL, AV.ids]))⟩, fun h => by simp at h, fun _ => ⟨_, rfl, (by first | exact RowLe.same (by simp) ids_data | exact RowLe.still ids_data | exact RowLe.still (by simp [AV.idsL, AV.ids]))⟩, fun h => by simp at h, trivial⟩
            · simp [wfV, AV.ids, AV.idsL, lookR, grow]
            · exact ⟨by simp [AV.idsL, AV.ids, lookR], wf_data _ _, wf_data _ _, trivial⟩
          · intro hb
            obtain rfl : post = [] := by
              cases post with
              | nil => rfl
              | cons x t => have := of_decide_eq_false hb; simp at hspl; omega
            clear hb
            simp only [List.append_nil] at hsp
            subst hsp
            refine awp_exit ?_
            simp only [zz6, Nat.reduceEqDiff, ↓reduceIte]
            refine hK0 _ ?_; try clear hK0 K0
            refine awp_keepL [1, 10, 11, 12] ?_
            simp only [zz20, zzI, look_nil, Nat.reduceBEq]
            refine awp_seq fun K0 hK0 => ?_
            refine awp_plain F_mixed [some 105, some 106, some 107, some 14] rfl ?_
            simp only [List.nil_append, List.cons_append, true_and, and_true, zz0, true_implies, Nat.reduceLT, Nat.reduceLeDiff, zzI, look_nil, Nat.reduceBEq, implies_true, evS_move, evS_call, zz12, F_sl22, Option.isSome_some, evS_makeSlice, msK_some, msZ_some, F_sl70, F_zero4, F_sz4, F_by4, newRow1, zz10, zz16, Option.some.injEq, exists_eq_left', exists_eq_left, Option.map_some, eq_self, reduceCtorEq, and_self, zzD, Nat.reduceAdd, Nat.zero_add, zzF, zzB, zzE, evS_assign, ints, len_map, zz6, Nat.reduceEqDiff, ↓reduceIte]
            refine ⟨⟨by omega, by omega⟩, ?_⟩
            refine hK0 _ ?_; try clear hK0 K0
            refine awp_keepL [1, 10, 11, 12, 14] ?_
            simp only [zz20, zzI, look_nil, Nat.reduceBEq]
            refine awp_seq fun K0 hK0 => ?_
            refine awp_block ?_
            refine awp_loop (fun m s => ∃ (j : Nat), ((j : Int) ≤ (leftV t.toNat (sN l) l)) ∧ m = (leftV t.toNat (sN l) l).toNat - j ∧ s = S 149 [(1, .d (ints l)), (10, .ref 71 l.length), (11, .ref 74 l.length), (12, .d (iv ((leftV t.toNat (sN l) l) - ((j : Nat) : Int)))), (14, .ref 107 l.length)] [(71, (⟨True, 3, 1, true, true, 71, ((bumpV (qsV t.toNat (sN l) l) (atK t.toNat (sN l) l j)).map fun n => [iv n]).map (·.map .d)⟩ : ARow)), (74, (⟨True, 30, 2, true, true, 74, ((restsN t.toNat (sN l) l).map wN).map (·.map .d)⟩ : ARow)), (107, (⟨True, 4, 1, true, true, 107, ((givV t.toNat (sN l) l j).map oneB).map (·.map .d)⟩ : ARow))]) ((leftV t.toNat (sN l) l).toNat) _ (le_SK id [] rfl (l' := [(1, .d (ints l)), (10, .ref 71 l.length), (11, .ref 74 l.length), (12, .d (iv ((leftV t.toNat (sN l) l) - ((0 : Nat) : Int)))), (14, .ref 107 l.length)]) (m' := [(71, (⟨True, 3, 1, true, true, 71, ((bumpV (qsV t.toNat (sN l) l) (atK t.toNat (sN l) l 0)).map fun n => [iv n]).map (·.map .d)⟩ : ARow)), (74, (⟨True, 30, 2, true, true, 74, ((restsN t.toNat (sN l) l).map wN).map (·.map .d)⟩ : ARow)), (107, (⟨True, 4, 1, true, true, 107, ((givV t.toNat (sN l) l 0).map oneB).map (·.map .d)⟩ : ARow))]) ?_ ?_ ?_ ?_) ⟨0, by omega, rfl, rfl⟩ ?_
            · simp only [leV, look_cons, Nat.reduceBEq, cond_true, cond_false]; exact ⟨(by first | exact VLe.still rfl | exact VLe.nil_ (by decide) | exact VLe.nild_ | exact VLe.refl _ | exact VLe.ptrE (by simp) (by rfl) | exact VLe.refE (by simp) (by rfl) (by first | rfl | (simp; done) | (simp; omega)) | exact VLe.dE (by first | rfl | simp)), (by first | exact VLe.still rfl | exact VLe.nil_ (by decide) | exact VLe.nild_ | exact VLe.refl _ | exact VLe.ptrE (by simp) (by rfl) | exact VLe.refE (by simp) (by rfl) (by first | rfl | (simp; done) | (simp; omega)) | exact VLe.dE (by first | rfl | simp)), (by first | exact VLe.still rfl | exact VLe.nil_ (by decide) | exact VLe.nild_ | exact VLe.refl _ | exact VLe.ptrE (by simp) (by rfl) | exact VLe.refE (by simp) (by rfl) (by first | rfl | (simp; done) | (simp; omega)) | exact VLe.dE (by first | rfl | simp)), (VLe.dE (by simp)), (VLe.refE (by simp) (by rfl) (by simp)), trivial⟩
            · exact ⟨fun _ => ⟨_, rfl, (by exact RowLe.same (by simp [zerosI, atK, bumpV]) ids_data)⟩, fun h => by simp at h, fun _ => ⟨_, rfl, (by exact RowLe.same (by simp [zerosN]) ids_data)⟩, fun h => by simp at h, fun _ => ⟨_, rfl, (by exact RowLe.same (by simp [givV_zero, oneB, List.map_replicate]) (by simp [AV.idsL, AV.ids]))⟩, fun h => by simp at h, trivial⟩
            · simp [wfV, AV.ids, AV.idsL, lookR, grow]
            · exact ⟨wf_data _ _, wf_data _ _, wf_data _ _, trivial⟩
            rintro m s ⟨j, hjL, rfl, rfl⟩
            refine awp_seq fun K2 hK2 => ?_
            refine awp_seq fun K3 hK3 => ?_
            refine awp_plain F_mixed [some 108, some 109] rfl ?_
            simp only [List.nil_append, List.cons_append, true_and, and_true, zz0, true_implies, Nat.reduceLT, Nat.reduceLeDiff, zzI, look_nil, Nat.reduceBEq, implies_true, evS_move, zz21, gr_v, zz25, zz6, Nat.reduceEqDiff, ↓reduceIte]
            refine hK3 _ ?_; try clear hK3 K3
            refine awp_keepL [1, 10, 11, 12, 14, 109] ?_
            simp only [zz20, zzI, look_nil, Nat.reduceBEq]
            refine awp_condS _ (by decide) (by simp only [look_cons, Nat.reduceBEq, cond_true, cond_false]; rfl) ?_ ?_
            · intro hb
              have hjl : (j : Int) < (leftV t.toNat (sN l) l) := by have := of_decide_eq_true hb; omega
              clear hb
              obtain ⟨k, hk, hbk, hgs, hbu, hp0, hp1⟩ := pick_step (T := t.toNat) (l := l) (j := j) htB (by omega)
              have hlj : IntKind.wrap .i64 ((leftV t.toNat (sN l) l) - (j : Int) - 1) = (leftV t.toNat (sN l) l) - ((j + 1 : Nat) : Int) := by rw [wrapI (by omega) (by omega)]; omega
              refine awp_skip ?_
              simp only [zz6, Nat.reduceEqDiff, ↓reduceIte]
              refine hK2 _ ?_; try clear hK2 K2
              refine awp_keepL [1, 10, 11, 12, 14] ?_
              simp only [zz20, zzI, look_nil, Nat.reduceBEq]
              refine awp_block ?_
              refine awp_seq fun K2 hK2 => ?_
              refine awp_plain F_mixed [some 15] rfl ?_
              simp only [List.nil_append, List.cons_append, true_and, and_true, zz0, true_implies, Nat.reduceLT, Nat.reduceLeDiff, zzI, look_nil, Nat.reduceBEq, implies_true, evS_assign, zz6, Nat.reduceEqDiff, ↓reduceIte]
              refine hK2 _ ?_; try clear hK2 K2
              refine awp_keepL [1, 10, 11, 12, 14, 15] ?_
              simp only [zz20, zzI, look_nil, Nat.reduceBEq]
              refine awp_seq fun K2 hK2 => ?_
              refine awp_seq fun K3 hK3 => ?_
              refine awp_plain F_mixed [some 16] rfl ?_
              simp only [List.nil_append, List.cons_append, true_and, and_true, zz0, true_implies, Nat.reduceLT, Nat.reduceLeDiff, zzI, look_nil, Nat.reduceBEq, implies_true, evS_assign, zz6, Nat.reduceEqDiff, ↓reduceIte]
              refine hK3 _ ?_; try clear hK3 K3
              refine awp_keepL [1, 10, 11, 12, 14, 15, 16] ?_
              simp only [zz20, zzI, look_nil, Nat.reduceBEq]
              refine awp_block ?_
              refine awp_loop (fun m s => ∃ (i : Nat), (i ≤ l.length) ∧ m = l.length - i ∧ s = S 149 [(1, .d (ints l)), (10, .ref 71 l.length), (11, .ref 74 l.length), (12, .d (iv ((leftV t.toNat (sN l) l) - ((j : Nat) : Int)))), (14, .ref 107 l.length), (15, .d (iv (bestV (givV t.toNat (sN l) l j) (restsN t.toNat (sN l) l) i))), (16, .d (iv ((i : Nat) : Int)))] [(71, (⟨True, 3, 1, true, true, 71, ((bumpV (qsV t.toNat (sN l) l) (atK t.toNat (sN l) l j)).map fun n => [iv n]).map (·.map .d)⟩ : ARow)), (74, (⟨True, 30, 2, true, true, 74, ((restsN t.toNat (sN l) l).map wN).map (·.map .d)⟩ : ARow)), (107, (⟨True, 4, 1, true, true, 107, ((givV t.toNat (sN l) l j).map oneB).map (·.map .d)⟩ : ARow))]) (l.length) _ (le_SK id [] rfl (l' := [(1, .d (ints l)), (10, .ref 71 l.length), (11, .ref 74 l.length), (12, .d (iv ((leftV t.toNat (sN l) l) - ((j : Nat) : Int)))), (14, .ref 107 l.length), (15, .d (iv (bestV (givV t.toNat (sN l) l j) (restsN t.toNat (sN l) l) 0))), (16, .d (iv ((0 : Nat) : Int)))]) (m' := [(71, (⟨True, 3, 1, true, true, 71, ((bumpV (qsV t.toNat (sN l) l) (atK t.toNat (sN l) l j)).map fun n => [iv n]).map (·.map .d)⟩ : ARow)), (74, (⟨True, 30, 2, true, true, 74, ((restsN t.toNat (sN l) l).map wN).map (·.map .d)⟩ : ARow)), (107, (⟨True, 4, 1, true, true, 107, ((givV t.toNat (sN l) l j).map oneB).map (·.map .d)⟩ : ARow))]) ?_ ?_ ?_ ?_) ⟨0, Nat.zero_le _, rfl, rfl⟩ ?_
              · simp only [leV, look_cons, Nat.reduceBEq, cond_true, cond_false]; exact ⟨(by first | exact VLe.still rfl | exact VLe.nil_ (by decide) | exact VLe.nild_ | exact VLe.refl _ | exact VLe.ptrE (by simp) (by rfl) | exact VLe.refE (by simp) (by rfl) (by first | rfl | (simp; done) | (simp; omega)) | exact VLe.dE (by first | rfl | simp)), (by first | exact VLe.still rfl | exact VLe.nil_ (by decide) | exact VLe.nild_ | exact VLe.refl _ | exact VLe.ptrE (by simp) (by rfl) | exact VLe.refE (by simp) (by rfl) (by first | rfl | (simp; done) | (simp; omega)) | exact VLe.dE (by first | rfl | simp)), (by first | exact VLe.still rfl | exact VLe.nil_ (by decide) | exact VLe.nild_ | exact VLe.refl _ | exact VLe.ptrE (by simp) (by rfl) | exact VLe.refE (by simp) (by rfl) (by first | rfl | (simp; done) | (simp; omega)) | exact VLe.dE (by first | rfl | simp)), (by first | exact VLe.still rfl | exact VLe.nil_ (by decide) | exact VLe.nild_ | exact VLe.refl _ | exact VLe.ptrE (by simp) (by rfl) | exact VLe.refE (by simp) (by rfl) (by first | rfl | (simp; done) | (simp; omega)) | exact VLe.dE (by first | rfl | simp)), (by first | exact VLe.still rfl | exact VLe.nil_ (by decide) | exact VLe.nild_ | exact VLe.refl _ | exact VLe.ptrE (by simp) (by rfl) | exact VLe.refE (by simp) (by rfl) (by first | rfl | (simp; done) | (simp; omega)) | exact VLe.dE (by first | rfl | simp)), (VLe.dE rfl), (by first | exact VLe.still rfl | exact VLe.nil_ (by decide) | exact VLe.nild_ | exact VLe.refl _ | exact VLe.ptrE (by simp) (by rfl) | exact VLe.refE (by simp) (by rfl) (by first | rfl | (simp; done) | (simp; omega)) | exact VLe.dE (by first | rfl | simp)), trivial⟩
              · exact ⟨fun _ => ⟨_, rfl, (by first | exact RowLe.same (by simp) ids_data | exact RowLe.still ids_data | exact RowLe.still (by simp [AV.idsL, AV.ids]))⟩, fun h => by simp at h, fun _ => ⟨_, rfl, (by first | exact RowLe.same (by simp) ids_data | exact RowLe.still ids_data | exact RowLe.still (by simp [AV.idsL, AV.ids]))⟩, fun h => by simp at h, fun _ => ⟨_, rfl, (by first | exact RowLe.same (by simp) ids_data | exact RowLe.still ids_data | exact RowLe.still (by simp [AV.idsL, AV.ids]))⟩, fun h => by simp at h, trivial⟩
              · simp [wfV, AV.ids, AV.idsL, lookR, grow]
              · exact ⟨wf_data _ _, wf_data _ _, wf_data _ _, trivial⟩
              rintro m s ⟨i, hil, rfl, rfl⟩
              refine awp_seq fun K4 hK4 => ?_
              refine awp_seq fun K5 hK5 => ?_
              refine awp_plain F_mixed [some 110, some 111, some 112, some 113] rfl ?_
              simp only [List.nil_append, List.cons_append, true_and, and_true, zz0, true_implies, Nat.reduceLT, Nat.reduceLeDiff, zzI, look_nil, Nat.reduceBEq, implies_true, evS_move, evS_call, zz12, F_sl22, Option.isSome_some, zz21, gr_v, zz22, ints, len_map, zz6, Nat.reduceEqDiff, ↓reduceIte]
              refine hK5 _ ?_; try clear hK5 K5
              refine awp_keepL [1, 10, 11, 12, 14, 15, 16, 113] ?_
              simp only [zz20, zzI, look_nil, Nat.reduceBEq]
              refine awp_condS _ (by decide) (by simp only [look_cons, Nat.reduceBEq, cond_true, cond_false]; rfl) ?_ ?_
              · intro hb
                have hi : i < l.length := by have := of_decide_eq_true hb; omega
                clear hb
                have hwi : IntKind.wrap .i64 ((i : Int) + 1) = ((i + 1 : Nat) : Int) := wrapI (by omega) (by omega)
                have bi := ltI hi
                have cI := eq_true hi
                have nG := givV_len t.toNat (sN l) l j
                have nR := restsN_len t.toNat (sN l) l
                have hbl : (bestV (givV t.toNat (sN l) l j) (restsN t.toNat (sN l) l) i).toNat < l.length := best_lt hi
                have cB := eq_true hbl
                have gB := get_b (L := givV t.toNat (sN l) l j) (i := i) (by rw [givV_len]; exact hi)
                have gR1 := get_r (L := restsN t.toNat (sN l) l) (i := i) (by rw [restsN_len]; exact hi)
                have gR2 := get_r (L := restsN t.toNat (sN l) l) (i := (bestV (givV t.toNat (sN l) l j) (restsN t.toNat (sN l) l) i).toNat) (by rw [restsN_len]; exact hbl)
                have hrng := best_rng (g := givV t.toNat (sN l) l j) (r := restsN t.toNat (sN l) l) (n := i) (m := l.length) hi
                simp only [wN, List.map_cons, List.map_nil] at gR1 gR2
                refine awp_skip ?_
                simp only [zz6, Nat.reduceEqDiff, ↓reduceIte]
                refine hK4 _ ?_; try clear hK4 K4
                refine awp_keepL [1, 10, 11, 12, 14, 15, 16] ?_
                simp only [zz20, zzI, look_nil, Nat.reduceBEq]
                refine awp_seq fun K4 hK4 => ?_
                refine awp_block ?_
                refine awp_seq fun K5 hK5 => ?_
                refine awp_draw F_mixed [some 116, some 117, some 118, some 119, some 120, some 121, some 122, some 123, some 124, some 125, some 126, some 127, some 128, some 129, some 130, some 131, some 132, some 133, some 134, some 135] rfl (by kernel_rfl) ?_
                simp only [List.nil_append, List.cons_append, true_and, and_true, zz0, true_implies, Nat.reduceLT, Nat.reduceLeDiff, zzI, look_nil, Nat.reduceBEq, implies_true, Nat.reduceSub, S_getD, zz5, and_imp, imp_and, imp_self, and_self, evS_move, evS_indexAddr, zz23, zz24, F_sl70, F_sz4, Option.map_some, zz16, Option.some.injEq, exists_eq_left', exists_eq_left, eq_self, reduceCtorEq, F_ok4, F_ag4, zz8, zzD, Nat.reduceAdd, Nat.zero_add, zzF, zzB, zzE, zz29, gr_v, zz30, zz21, zz22, F_sl27, F_sz30, F_ok30, F_ag30, evS_call, evC_value, zz13, pickK_l, pickK_r, ints, len_map, wN, bi, cI, nG, nR, cB, gB, gR1, gR2, Nat.le_refl, List.length_cons, ge0, Int.toNat_natCast, D.agg.injEq, zz6, Nat.reduceEqDiff, ↓reduceIte]
                refine ⟨⟨fun _ h => (hrng h).1, fun _ h => (hrng h).2⟩, ?_⟩
                refine call_go F_go16 (fun hG => rLessN_ ((restsN t.toNat (sN l) l).getD (bestV (givV t.toNat (sN l) l j) (restsN t.toNat (sN l) l) i).toNat 0) ((restsN t.toNat (sN l) l).getD i 0)) (by simp [AV.ids, AV.idsL]) (by simp) ?_
                simp only [List.nil_append, List.cons_append, true_and, and_true, zz0, true_implies, Nat.reduceLT, Nat.reduceLeDiff, zzI, look_nil, Nat.reduceBEq, implies_true, Nat.reduceSub, S_getD, zz5, and_imp, imp_and, imp_self, and_self, evS_move, evS_indexAddr, zz23, zz24, F_sl70, F_sz4, Option.map_some, zz16, Option.some.injEq, exists_eq_left', exists_eq_left, eq_self, reduceCtorEq, F_ok4, F_ag4, zz8, zzD, Nat.reduceAdd, Nat.zero_add, zzF, zzB, zzE, zz29, gr_v, zz30, zz21, zz22, F_sl27, F_sz30, F_ok30, F_ag30, evS_call, evC_value, zz13, pickK_l, pickK_r, ints, len_map, wN, bi, cI, nG, nR, cB, gB, gR1, gR2, Nat.le_refl, List.length_cons, ge0, Int.toNat_natCast, D.agg.injEq, zz6, Nat.reduceEqDiff, ↓reduceIte, atsL, oksG, freeN, AV.ren, AV.renL, addRows, ORow.row, Nat.reduceMul, Nat.reduceAdd, zz9, Option.bind_some, Option.map_some, forall_eq', D.sl.injEq, S_mem, Option.some.injEq, exists_eq_left', exists_eq_left, exists_eq', exists_eq, List.length_cons, zz2]
                refine hK5 _ ?_; try clear hK5 K5
                refine awp_keepL [1, 10, 11, 12, 14, 15, 16, 135] ?_
                simp only [zz20, zzI, look_nil, Nat.reduceBEq]
                refine awp_condS _ (by decide) (by simp only [look_cons, Nat.reduceBEq, cond_true, cond_false]; rfl) ?_ ?_
                · intro hb
                  have hcd := hb
                  clear hb
                  refine awp_plain F_mixed [some 136, some 15] rfl ?_
                  simp only [List.nil_append, List.cons_append, true_and, and_true, zz0, true_implies, Nat.reduceLT, Nat.reduceLeDiff, zzI, look_nil, Nat.reduceBEq, implies_true, evS_move, evS_assign, zz6, Nat.reduceEqDiff, ↓reduceIte]
                  refine hK4 _ ?_; try clear hK4 K4
                  refine awp_keepL [1, 10, 11, 12, 14, 15, 16] ?_
                  simp only [zz20, zzI, look_nil, Nat.reduceBEq]
                  refine awp_plain F_mixed [some 114, some 115, some 16] rfl ?_
                  simp only [List.nil_append, List.cons_append, true_and, and_true, zz0, true_implies, Nat.reduceLT, Nat.reduceLeDiff, zzI, look_nil, Nat.reduceBEq, implies_true, evS_move, zz21, gr_v, zz26, evS_assign, hwi, zz6, Nat.reduceEqDiff, ↓reduceIte]
                  refine ⟨l.length - (i + 1), _, by omega, le_SK id [] rfl (l' := [(1, .d (ints l)), (10, .ref 71 l.length), (11, .ref 74 l.length), (12, .d (iv ((leftV t.toNat (sN l) l) - ((j : Nat) : Int)))), (14, .ref 107 l.length), (15, .d (iv (bestV (givV t.toNat (sN l) l j) (restsN t.toNat (sN l) l) (i + 1)))), (16, .d (iv (((i + 1) : Nat) : Int)))]) (m' := [(71, (⟨True, 3, 1, true, true, 71, ((bumpV (qsV t.toNat (sN l) l) (atK t.toNat (sN l) l j)).map fun n => [iv n]).map (·.map .d)⟩ : ARow)), (74, (⟨True, 30, 2, true, true, 74, ((restsN t.toNat (sN l) l).map wN).map (·.map .d)⟩ : ARow)), (107, (⟨True, 4, 1, true, true, 107, ((givV t.toNat (sN l) l j).map oneB).map (·.map .d)⟩ : ARow))]) ?_ ?_ ?_ ?_, (i + 1), by omega, rfl, rfl⟩
                  · simp only [leV, look_cons, Nat.reduceBEq, cond_true, cond_false, hwi]; exact ⟨(by first | exact VLe.still rfl | exact VLe.nil_ (by decide) | exact VLe.nild_ | exact VLe.refl _ | exact VLe.ptrE (by simp) (by rfl) | exact VLe.refE (by simp) (by rfl) (by first | rfl | (simp; done) | (simp; omega)) | exact VLe.dE (by first | rfl | simp)), (by first | exact VLe.still rfl | exact VLe.nil_ (by decide) | exact VLe.nild_ | exact VLe.refl _ | exact VLe.ptrE (by simp) (by rfl) | exact VLe.refE (by simp) (by rfl) (by first | rfl | (simp; done) | (simp; omega)) | exact VLe.dE (by first | rfl | simp)), (by first | exact VLe.still rfl | exact VLe.nil_ (by decide) | exact VLe.nild_ | exact VLe.refl _ | exact VLe.ptrE (by simp) (by rfl) | exact VLe.refE (by simp) (by rfl) (by first | rfl | (simp; done) | (simp; omega)) | exact VLe.dE (by first | rfl | simp)), (by first | exact VLe.still rfl | exact VLe.nil_ (by decide) | exact VLe.nild_ | exact VLe.refl _ | exact VLe.ptrE (by simp) (by rfl) | exact VLe.refE (by simp) (by rfl) (by first | rfl | (simp; done) | (simp; omega)) | exact VLe.dE (by first | rfl | simp)), (by first | exact VLe.still rfl | exact VLe.nil_ (by decide) | exact VLe.nild_ | exact VLe.refl _ | exact VLe.ptrE (by simp) (by rfl) | exact VLe.refE (by simp) (by rfl) (by first | rfl | (simp; done) | (simp; omega)) | exact VLe.dE (by first | rfl | simp)), (VLe.dE (by rw [← best_step, hcd]; rfl)), (by first | exact VLe.still rfl | exact VLe.nil_ (by decide) | exact VLe.nild_ | exact VLe.refl _ | exact VLe.ptrE (by simp) (by rfl) | exact VLe.refE (by simp) (by rfl) (by first | rfl | (simp; done) | (simp; omega)) | exact VLe.dE (by first | rfl | simp)), trivial⟩
                  · exact ⟨fun _ => ⟨_, rfl, (by first | exact RowLe.same (by simp) ids_data | exact RowLe.still ids_data | exact RowLe.still (by simp [AV.idsL, AV.ids]))⟩, fun h => by simp at h, fun _ => ⟨_, rfl, (by first | exact RowLe.same (by simp) ids_data | exact RowLe.still ids_data | exact RowLe.still (by simp [AV.idsL, AV.ids]))⟩, fun h => by simp at h, fun _ => ⟨_, rfl, (by first | exact RowLe.same (by simp) ids_data | exact RowLe.still ids_data | exact RowLe.still (by simp [AV.idsL, AV.ids]))⟩, fun h => by simp at h, trivial⟩
                  · simp [wfV, AV.ids, AV.idsL, lookR, grow]
                  · exact ⟨wf_data _ _, wf_data _ _, wf_data _ _, trivial⟩
                · intro hb
                  have hcd := hb
                  clear hb
                  refine awp_skip ?_
                  simp only [zz6, Nat.reduceEqDiff, ↓reduceIte]
                  refine hK4 _ ?_; try clear hK4 K4
                  refine awp_keepL [1, 10, 11, 12, 14, 15, 16] ?_
                  simp only [zz20, zzI, look_nil, Nat.reduceBEq]
                  refine awp_plain F_mixed [some 114, some 115, some 16] rfl ?_
                  simp only [List.nil_append, List.cons_append, true_and, and_true, zz0, true_implies, Nat.reduceLT, Nat.reduceLeDiff, zzI, look_nil, Nat.reduceBEq, implies_true, evS_move, zz21, gr_v, zz26, evS_assign, hwi, zz6, Nat.reduceEqDiff, ↓reduceIte]
                  refine ⟨l.length - (i + 1), _, by omega, le_SK id [] rfl (l' := [(1, .d (ints l)), (10, .ref 71 l.length), (11, .ref 74 l.length), (12, .d (iv ((leftV t.toNat (sN l) l) - ((j : Nat) : Int)))), (14, .ref 107 l.length), (15, .d (iv (bestV (givV t.toNat (sN l) l j) (restsN t.toNat (sN l) l) (i + 1)))), (16, .d (iv (((i + 1) : Nat) : Int)))]) (m' := [(71, (⟨True, 3, 1, true, true, 71, ((bumpV (qsV t.toNat (sN l) l) (atK t.toNat (sN l) l j)).map fun n => [iv n]).map (·.map .d)⟩ : ARow)), (74, (⟨True, 30, 2, true, true, 74, ((restsN t.toNat (sN l) l).map wN).map (·.map .d)⟩ : ARow)), (107, (⟨True, 4, 1, true, true, 107, ((givV t.toNat (sN l) l j).map oneB).map (·.map .d)⟩ : ARow))]) ?_ ?_ ?_ ?_, (i + 1), by omega, rfl, rfl⟩
                  · simp only [leV, look_cons, Nat.reduceBEq, cond_true, cond_false, hwi]; exact ⟨(by first | exact VLe.still rfl | exact VLe.nil_ (by decide) | exact VLe.nild_ | exact VLe.refl _ | exact VLe.ptrE (by simp) (by rfl) | exact VLe.refE (by simp) (by rfl) (by first | rfl | (simp; done) | (simp; omega)) | exact VLe.dE (by first | rfl | simp)), (by first | exact VLe.still rfl | exact VLe.nil_ (by decide) | exact VLe.nild_ | exact VLe.refl _ | exact VLe.ptrE (by simp) (by rfl) | exact VLe.refE (by simp) (by rfl) (by first | rfl | (simp; done) | (simp; omega)) | exact VLe.dE (by first | rfl | simp)), (by first | exact VLe.still rfl | exact VLe.nil_ (by decide) | exact VLe.nild_ | exact VLe.refl _ | exact VLe.ptrE (by simp) (by rfl) | exact VLe.refE (by simp) (by rfl) (by first | rfl | (simp; done) | (simp; omega)) | exact VLe.dE (by first | rfl | simp)), (by first | exact VLe.still rfl | exact VLe.nil_ (by decide) | exact VLe.nild_ | exact VLe.refl _ | exact VLe.ptrE (by simp) (by rfl) | exact VLe.refE (by simp) (by rfl) (by first | rfl | (simp; done) | (simp; omega)) | exact VLe.dE (by first | rfl | simp)), (by first | exact VLe.still rfl | exact VLe.nil_ (by decide) | exact VLe.nild_ | exact VLe.refl _ | exact VLe.ptrE (by simp) (by rfl) | exact VLe.refE (by simp) (by rfl) (by first | rfl | (simp; done) | (simp; omega)) | exact VLe.dE (by first | rfl | simp)), (VLe.dE (by rw [← best_step, hcd]; rfl)), (by first | exact VLe.still rfl | exact VLe.nil_ (by decide) | exact VLe.nild_ | exact VLe.refl _ | exact VLe.ptrE (by simp) (by rfl) | exact VLe.refE (by simp) (by rfl) (by first | rfl | (simp; done) | (simp; omega)) | exact VLe.dE (by first | rfl | simp)), trivial⟩
                  · exact ⟨fun _ => ⟨_, rfl, (by first | exact RowLe.same (by simp) ids_data | exact RowLe.still ids_data | exact RowLe.still (by simp [AV.idsL, AV.ids]))⟩, fun h => by simp at h, fun _ => ⟨_, rfl, (by first | exact RowLe.same (by simp) ids_data | exact RowLe.still ids_data | exact RowLe.still (by simp [AV.idsL, AV.ids]))⟩, fun h => by simp at h, fun _ => ⟨_, rfl, (by first | exact RowLe.same (by simp) ids_data | exact RowLe.still ids_data | exact RowLe.still (by simp [AV.idsL, AV.ids]))⟩, fun h => by simp at h, trivial⟩
                  · simp [wfV, AV.ids, AV.idsL, lookR, grow]
                  · exact ⟨wf_data _ _, wf_data _ _, wf_data _ _, trivial⟩
              · intro hb
                obtain rfl : i = l.length := by have := of_decide_eq_false hb; omega
                clear hb
                simp only [hbk]
                have bk := ltI hk
                have cK := eq_true hk
                have nG := givV_len t.toNat (sN l) l j
                have nP : (bumpV (qsV t.toNat (sN l) l) (atK t.toNat (sN l) l j)).length = l.length := by rw [bumpV_len, qsV_len]
                have gG := get_b (L := givV t.toNat (sN l) l j) (i := k) (by rw [givV_len]; exact hk)
                have gP := oneI_get (p := bumpV (qsV t.toNat (sN l) l) (atK t.toNat (sN l) l j)) (k := k) (by rw [bumpV_len, qsV_len]; exact hk)
                have hwp : IntKind.wrap .i64 ((bumpV (qsV t.toNat (sN l) l) (atK t.toNat (sN l) l j)).getD k 0 + 1) = (bumpV (qsV t.toNat (sN l) l) (atK t.toNat (sN l) l j)).getD k 0 + 1 := wrapI (by omega) (by omega)
                have sP := oneI_set (bumpV (qsV t.toNat (sN l) l) (atK t.toNat (sN l) l j)) k
                refine awp_exit ?_
                simp only [zz6, Nat.reduceEqDiff, ↓reduceIte]
                refine hK2 _ ?_; try clear hK2 K2
                refine awp_keepL [1, 10, 11, 12, 14, 15] ?_
                simp only [zz20, zzI, look_nil, Nat.reduceBEq]
                refine awp_seq fun K2 hK2 => ?_
                refine awp_plain F_mixed [some 137, some 138, some 139, none] rfl ?_
                simp only [List.nil_append, List.cons_append, true_and, and_true, zz0, true_implies, Nat.reduceLT, Nat.reduceLeDiff, zzI, look_nil, Nat.reduceBEq, implies_true, evS_move, evS_indexAddr, zz23, zz24, F_sl70, F_sz4, Option.map_some, zz16, Option.some.injEq, exists_eq_left', exists_eq_left, eq_self, reduceCtorEq, and_self, zz18, F_ok4, splice, List.append_nil, zzD, Nat.reduceAdd, Nat.zero_add, zzF, zzB, zzE, zz1, zzG, len_map, bk, cK, nG, gG, Nat.le_refl, List.length_cons, set_b, ge0, Int.toNat_natCast, zz6, Nat.reduceEqDiff, ↓reduceIte]
                refine hK2 _ ?_; try clear hK2 K2
                refine awp_keepL [1, 10, 11, 12, 14, 15] ?_
                simp only [zz20, zzI, look_nil, Nat.reduceBEq]
                refine awp_seq fun K2 hK2 => ?_
                refine awp_plain F_mixed [some 140, some 141, some 142, some 143, some 144, some 145, none] rfl ?_
                simp only [List.nil_append, List.cons_append, true_and, and_true, zz0, true_implies, Nat.reduceLT, Nat.reduceLeDiff, zzI, look_nil, Nat.reduceBEq, implies_true, evS_move, evS_indexAddr, zz23, zz24, F_sl22, F_sz3, Option.map_some, zz16, Option.some.injEq, exists_eq_left', exists_eq_left, eq_self, reduceCtorEq, and_self, F_ok3, F_ag3, zz8, zzD, Nat.reduceAdd, Nat.zero_add, zzF, zzB, zzE, zz21, gr_v, zz26, zz18, splice, List.append_nil, zz1, zzG, len_map, bk, cK, nP, gP, Nat.le_refl, List.length_cons, hwp, sP, ge0, Int.toNat_natCast, zz6, Nat.reduceEqDiff, ↓reduceIte]
                refine hK2 _ ?_; try clear hK2 K2
                refine awp_keepL [1, 10, 11, 12, 14] ?_
                simp only [zz20, zzI, look_nil, Nat.reduceBEq]
                refine awp_plain F_mixed [some 146, some 147, some 12] rfl ?_
                simp only [List.nil_append, List.cons_append, true_and, and_true, zz0, true_implies, Nat.reduceLT, Nat.reduceLeDiff, zzI, look_nil, Nat.reduceBEq, implies_true, evS_move, zz21, gr_v, zz33, evS_assign, hlj, zz6, Nat.reduceEqDiff, ↓reduceIte]
                refine ⟨(leftV t.toNat (sN l) l).toNat - (j + 1), _, by omega, le_SK id [] rfl (l' := [(1, .d (ints l)), (10, .ref 71 l.length), (11, .ref 74 l.length), (12, .d (iv ((leftV t.toNat (sN l) l) - (((j + 1) : Nat) : Int)))), (14, .ref 107 l.length)]) (m' := [(71, (⟨True, 3, 1, true, true, 71, ((bumpV (qsV t.toNat (sN l) l) (atK t.toNat (sN l) l (j + 1))).map fun n => [iv n]).map (·.map .d)⟩ : ARow)), (74, (⟨True, 30, 2, true, true, 74, ((restsN t.toNat (sN l) l).map wN).map (·.map .d)⟩ : ARow)), (107, (⟨True, 4, 1, true, true, 107, ((givV t.toNat (sN l) l (j + 1)).map oneB).map (·.map .d)⟩ : ARow))]) ?_ ?_ ?_ ?_, (j + 1), by omega, rfl, rfl⟩
                · simp only [leV, look_cons, Nat.reduceBEq, cond_true, cond_false, hlj]; exact ⟨(by first | exact VLe.still rfl | exact VLe.nil_ (by decide) | exact VLe.nild_ | exact VLe.refl _ | exact VLe.ptrE (by simp) (by rfl) | exact VLe.refE (by simp) (by rfl) (by first | rfl | (simp; done) | (simp; omega)) | exact VLe.dE (by first | rfl | simp)), (by first | exact VLe.still rfl | exact VLe.nil_ (by decide) | exact VLe.nild_ | exact VLe.refl _ | exact VLe.ptrE (by simp) (by rfl) | exact VLe.refE (by simp) (by rfl) (by first | rfl | (simp; done) | (simp; omega)) | exact VLe.dE (by first | rfl | simp)), (by first | exact VLe.still rfl | exact VLe.nil_ (by decide) | exact VLe.nild_ | exact VLe.refl _ | exact VLe.ptrE (by simp) (by rfl) | exact VLe.refE (by simp) (by rfl) (by first | rfl | (simp; done) | (simp; omega)) | exact VLe.dE (by first | rfl | simp)), (by first | exact VLe.still rfl | exact VLe.nil_ (by decide) | exact VLe.nild_ | exact VLe.refl _ | exact VLe.ptrE (by simp) (by rfl) | exact VLe.refE (by simp) (by rfl) (by first | rfl | (simp; done) | (simp; omega)) | exact VLe.dE (by first | rfl | simp)), (by first | exact VLe.still rfl | exact VLe.nil_ (by decide) | exact VLe.nild_ | exact VLe.refl _ | exact VLe.ptrE (by simp) (by rfl) | exact VLe.refE (by simp) (by rfl) (by first | rfl | (simp; done) | (simp; omega)) | exact VLe.dE (by first | rfl | simp)), trivial⟩
                · exact ⟨fun _ => ⟨_, rfl, (by exact RowLe.same (by rw [hbu]) ids_data)⟩, fun h => by simp at h, fun _ => ⟨_, rfl, (by first | exact RowLe.same (by simp) ids_data | exact RowLe.still ids_data | exact RowLe.still (by simp [AV.idsL, AV.ids]))⟩, fun h => by simp at h, fun _ => ⟨_, rfl, (by exact RowLe.same (by rw [hgs]) ids_data)⟩, fun h => by simp at h, trivial⟩
                · simp [wfV, AV.ids, AV.idsL, lookR, grow]
                · exact ⟨wf_data _ _, wf_data _ _, wf_data _ _, trivial⟩
            · intro hb
              have hjL2 : (leftV t.toNat (sN l) l).toNat = j := by have := of_decide_eq_false hb; omega
              clear hb
              refine awp_exit ?_
              simp only [zz6, Nat.reduceEqDiff, ↓reduceIte]
              refine hK0 _ ?_; try clear hK0 K0
              refine awp_keepL [10] ?_
              simp only [zz20, zzI, look_nil, Nat.reduceBEq]
              refine awp_seq fun K0 hK0 => ?_
              refine awp_plain F_mixed [some 148, some 4, some 5] rfl ?_
              simp only [List.nil_append, List.cons_append, true_and, and_true, zz0, true_implies, Nat.reduceLT, Nat.reduceLeDiff, zzI, look_nil, Nat.reduceBEq, implies_true, evS_move, evS_assign, zz6, Nat.reduceEqDiff, ↓reduceIte]
              refine hK0 _ ?_; try clear hK0 K0
              refine awp_keepL [4, 5] ?_
              simp only [zz20, zzI, look_nil, Nat.reduceBEq]
              refine awp_ret ?_
              simp only [zz6, Nat.reduceEqDiff, ↓reduceIte]
              rw [show splitV t l = bumpV (qsV t.toNat (sN l) l) (atK t.toNat (sN l) l j) by rw [splitV_prt hs hS, prt, hjL2], splitE_prt hs hS, show (bumpV (qsV t.toNat (sN l) l) (atK t.toNat (sN l) l j)).length = l.length by rw [bumpV_len, qsV_len]]
              refine done1 71 (by simp only [resCs, resC]; trivial) ?_ (by simp [flatA, flatAs, flatD]) (by simp [AV.ids, AV.idsL]) (by rfl) trivial rfl rfl ?_ (by simp [flatDs, flatD])
              · simp only [List.map_cons, List.map_nil, resA, S_getD, Nat.reduceLT, Nat.reduceLeDiff, look_cons, Nat.reduceBEq, cond_true, cond_false, resAll]; rfl
              · rfl
end Go.Proofs.Ytfpicdhfoflcgaa
