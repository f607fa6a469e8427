import Derived.Test.YtfpicdhfoflcgaaWpK
namespace Go.Proofs.Ytfpicdhfoflcgaa
open Go.RowKit
set_option linter.unusedVariables false
set_option linter.unusedSimpArgs false
theorem F_go10 : goFn Try.prog 10 := ⟨_, Try.func10, rfl, rfl⟩
theorem F_go22 : goFn Try.prog 22 := ⟨_, Try.func22, rfl, rfl⟩
theorem F_go14 : goFn Try.prog 14 := ⟨_, Try.func14, rfl, rfl⟩
set_option maxRecDepth 100000 in
set_option maxHeartbeats 4000000 in
theorem greedyParts_ (t : Int) (l : List Int) (a : Int) : ACalls Try.prog 9 [iv t, ints l, iv a] [] (bv true) := by
  refine acalls_S (rs := [.tmp 6]) Try.func9 rfl rfl 77 [(0, .d (iv t)), (1, .d (ints l)), (2, .d (iv a))] rfl (by simp) rfl ?_
  refine awp_seq fun K0 hK0 => ?_
  refine awp_plain F_mixed [some 6] rfl ?_
  simp only [List.nil_append, List.cons_append, true_and, and_true, zz0, true_implies, Nat.reduceLT, Nat.reduceLeDiff, zzI, look_nil, Nat.reduceBEq, implies_true, evS_assign, zz6, Nat.reduceEqDiff, ↓reduceIte]
  refine hK0 _ ?_; try clear hK0 K0
  refine awp_keepL [0, 1, 2] ?_
  simp only [zz20, zzI, look_nil, Nat.reduceBEq]
  refine awp_seq fun K0 hK0 => ?_
  refine awp_seq fun K1 hK1 => ?_
  refine awp_plain F_mixed [some 17, some 18, some 19, some 20] rfl ?_
  simp only [List.nil_append, List.cons_append, true_and, and_true, zz0, true_implies, Nat.reduceLT, Nat.reduceLeDiff, zzI, look_nil, Nat.reduceBEq, implies_true, evS_move, evS_call, evC_value, zz29, gr_v, zz30, zz6, Nat.reduceEqDiff, ↓reduceIte]
  refine call_go F_go10 (fun hG => may_ t l) (by simp [AV.ids, AV.idsL]) (by simp) ?_
  simp only [List.nil_append, List.cons_append, true_and, and_true, zz0, true_implies, Nat.reduceLT, Nat.reduceLeDiff, zzI, look_nil, Nat.reduceBEq, implies_true, evS_move, evS_call, evC_value, zz29, gr_v, zz30, zz6, Nat.reduceEqDiff, ↓reduceIte, atsL, oksG, freeN, AV.ren, AV.renL, addRows, ORow.row, Nat.reduceMul, Nat.reduceAdd, zz9, Option.bind_some, Option.map_some, forall_eq', D.sl.injEq, zz16, Option.some.injEq, exists_eq_left', exists_eq_left, exists_eq', exists_eq, zzD, zz2]
  refine hK1 _ ?_; try clear hK1 K1
  refine awp_keepL [0, 1, 2, 20] ?_
  simp only [zz20, zzI, look_nil, Nat.reduceBEq]
  refine awp_condS _ (by decide) (by simp only [look_cons, Nat.reduceBEq, cond_true, cond_false]; rfl) ?_ ?_
  · intro hb
    clear hb
    refine awp_seq fun K2 hK2 => ?_
    refine awp_plain F_mixed [some 6] rfl ?_
    simp only [List.nil_append, List.cons_append, true_and, and_true, zz0, true_implies, Nat.reduceLT, Nat.reduceLeDiff, zzI, look_nil, Nat.reduceBEq, implies_true, evS_assign, zz6, Nat.reduceEqDiff, ↓reduceIte]
    refine hK2 _ ?_; try clear hK2 K2
    refine awp_keepL [6] ?_
    simp only [zz20, zzI, look_nil, Nat.reduceBEq]
    refine awp_ret ?_
    simp only [zz6, Nat.reduceEqDiff, ↓reduceIte]
    refine done0 (by simp only [resCs, resC]; trivial) ?_ (by simp [flatA, flatAs, flatD]) (by simp [AV.ids, AV.idsL])
    simp only [List.map_cons, List.map_nil, resA, S_getD, Nat.reduceLT, Nat.reduceLeDiff, look_cons, Nat.reduceBEq, cond_true, cond_false, resAll]
    
  · intro hb
    have hm : mayB t l = true := by simpa using hb
    clear hb
    have hM := may_ok hm
    obtain ⟨hG, hR⟩ := gV_ok (sRE_may hM)
    have hE := sRE_may hM
    have hl2 := hM.2.2
    have hlw1 : IntKind.wrap .i64 ((l.length : Int) + 1) = ((l.length + 1 : Nat) : Int) := wrapI (by omega) (by omega)
    have hlw : IntKind.wrap .u64 ((l.length + 1 : Nat) : Int) = ((l.length + 1 : Nat) : Int) := wrapU (by omega) (by omega)
    have hnz : (((l.length + 1 : Nat) : Int) = 0) = False := eq_false (by omega)
    obtain ⟨K, hK, hKl⟩ := modK' (a := a) (n := l.length + 1) (by omega) (by omega)
    have hM1 := parts_may (k := K) hM
    have hM2 := parts_may2 (k := K) hM
    obtain ⟨hG1, hR1⟩ := gV_ok (sRE_may hM1)
    have hE1 := sRE_may hM1
    obtain ⟨hG2, hR2⟩ := gV_ok (sRE_may hM2)
    have hE2 := sRE_may hM2
    have hpp := parts_part t l K
    have hpl := parts_left t l K
    have kb := eq_true (show (K : Int) ≤ (l.length : Int) by omega)
    have tk1 : (l.map fun n => [iv n]).take K = (l.take K).map fun n => [iv n] := List.map_take.symm
    have tk2 : (l.map fun n => [iv n]).take l.length = l.map fun n => [iv n] := List.take_of_length_le (by simp)
    have tk3 : (l.map fun n => [iv n]).drop K = (l.drop K).map fun n => [iv n] := List.map_drop.symm
    refine awp_skip ?_
    simp only [zz6, Nat.reduceEqDiff, ↓reduceIte]
    refine hK0 _ ?_; try clear hK0 K0
    refine awp_keepL [0, 1, 2] ?_
    simp only [zz20, zzI, look_nil, Nat.reduceBEq]
    refine awp_seq fun K0 hK0 => ?_
    refine awp_plain F_mixed [some 21, some 22, some 23, some 24, some 25, some 26, some 27, some 28, some 7] rfl ?_
    simp only [List.nil_append, List.cons_append, true_and, and_true, zz0, true_implies, Nat.reduceLT, Nat.reduceLeDiff, zzI, look_nil, Nat.reduceBEq, implies_true, evS_move, zz27, gr_v, F_cv3_47, F_cvV47, evS_call, zz12, F_sl22, Option.isSome_some, zz21, zz26, b_rem, pure_rem, ne_eq, Int.reduceEq, not_false_eq_true, F_cv47_3, F_cvV3, evS_assign, ints, len_map, hlw1, hlw, hnz, not_false_iff, hK, zz6, Nat.reduceEqDiff, ↓reduceIte]
    refine hK0 _ ?_; try clear hK0 K0
    refine awp_keepL [0, 1, 7] ?_
    simp only [zz20, zzI, look_nil, Nat.reduceBEq]
    refine awp_seq fun K0 hK0 => ?_
    refine awp_plain F_mixed [some 30, some 31, some 32, some 29, some 33, some 34, some 35, some 8, some 9, some 10] rfl ?_
    simp only [List.nil_append, List.cons_append, true_and, and_true, zz0, true_implies, Nat.reduceLT, Nat.reduceLeDiff, zzI, look_nil, Nat.reduceBEq, implies_true, evS_move, evS_call, evC_value, zz14, zzD, Nat.reduceAdd, Nat.zero_add, zzF, evS_assign, hG, hR, hE, ints, zz6, Nat.reduceEqDiff, ↓reduceIte]
    refine call_go F_go22 (fun hG => greedyF t l (by omega)) (by simp [AV.ids, AV.idsL]) (by simp) ?_
    simp only [List.nil_append, List.cons_append, true_and, and_true, zz0, true_implies, Nat.reduceLT, Nat.reduceLeDiff, zzI, look_nil, Nat.reduceBEq, implies_true, evS_move, evS_call, evC_value, zz14, zzD, Nat.reduceAdd, Nat.zero_add, zzF, evS_assign, hG, hR, hE, ints, zz6, Nat.reduceEqDiff, ↓reduceIte, atsL, oksG, freeN, AV.ren, AV.renL, addRows, ORow.row, Nat.reduceMul, Nat.reduceAdd, zz9, Option.bind_some, Option.map_some, forall_eq', D.sl.injEq, zz16, Option.some.injEq, exists_eq_left', exists_eq_left, exists_eq', exists_eq, List.length_cons, zz2]
    refine hK0 _ ?_; try clear hK0 K0
    refine awp_keepL [0, 1, 7, 8, 9, 10] ?_
    simp only [zz20, zzI, look_nil, Nat.reduceBEq]
    refine awp_seq fun K0 hK0 => ?_
    refine awp_plain F_mixed [some 37, some 38, some 39, some 40, some 41, some 36, some 42, some 43, some 44, some 11, some 12, some 13] rfl ?_
    simp only [List.nil_append, List.cons_append, true_and, and_true, zz0, true_implies, Nat.reduceLT, Nat.reduceLeDiff, zzI, look_nil, Nat.reduceBEq, implies_true, evS_move, evS_slice, slX_sl, slK_some, slV_none, slV_int, okO_none, okO_some, Option.map_some, Option.map_none, F_sl22, F_sz3, evS_call, evC_value, zz14, zzD, Nat.reduceAdd, Nat.zero_add, zzF, evS_assign, ints, len_map, hG1, hR1, hE1, kb, ge0, Int.toNat_natCast, List.drop_zero, Int.toNat_zero, Int.le_refl, tk1, zz6, Nat.reduceEqDiff, ↓reduceIte]
    refine call_go F_go22 (fun hG => greedy_ t (l.take K) (by simp; omega)) (by simp [AV.ids, AV.idsL]) (by simp) ?_
    simp only [List.nil_append, List.cons_append, true_and, and_true, zz0, true_implies, Nat.reduceLT, Nat.reduceLeDiff, zzI, look_nil, Nat.reduceBEq, implies_true, evS_move, evS_slice, slX_sl, slK_some, slV_none, slV_int, okO_none, okO_some, Option.map_some, Option.map_none, F_sl22, F_sz3, evS_call, evC_value, zz14, zzD, Nat.reduceAdd, Nat.zero_add, zzF, evS_assign, ints, len_map, hG1, hR1, hE1, kb, ge0, Int.toNat_natCast, List.drop_zero, Int.toNat_zero, Int.le_refl, tk1, zz6, Nat.reduceEqDiff, ↓reduceIte, atsL, oksG, freeN, AV.ren, AV.renL, addRows, ORow.row, Nat.reduceMul, Nat.reduceAdd, zz9, Option.bind_some, Option.map_some, forall_eq', D.sl.injEq, zz16, Option.some.injEq, exists_eq_left', exists_eq_left, exists_eq', exists_eq, List.length_cons, zz2]
    refine hK0 _ ?_; try clear hK0 K0
    refine awp_keepL [1, 7, 8, 9, 10, 11, 12, 13] ?_
    simp only [zz20, zzI, look_nil, Nat.reduceBEq]
    refine awp_seq fun K0 hK0 => ?_
    refine awp_seq fun K1 hK1 => ?_
    refine awp_plain F_mixed [some 45, some 46, some 47, some 48, some 49, some 50] rfl ?_
    simp only [List.nil_append, List.cons_append, true_and, and_true, zz0, true_implies, Nat.reduceLT, Nat.reduceLeDiff, zzI, look_nil, Nat.reduceBEq, implies_true, Nat.reduceSub, S_getD, zz5, and_imp, imp_and, imp_self, and_self, evS_move, zz21, gr_v, zz28, zz13, pickK_l, pickK_r, hE, hE1, zz6, Nat.reduceEqDiff, ↓reduceIte]
    refine hK1 _ ?_; try clear hK1 K1
    refine awp_keepL [1, 7, 8, 9, 11, 12, 50] ?_
    simp only [zz20, zzI, look_nil, Nat.reduceBEq]
    refine awp_condS _ (by decide) (by simp only [look_cons, Nat.reduceBEq, cond_true, cond_false]; rfl) ?_ ?_
    · intro hb
      simp at hb
    · intro hb
      clear hb
      refine awp_skip ?_
      simp only [zz6, Nat.reduceEqDiff, ↓reduceIte]
      refine hK0 _ ?_; try clear hK0 K0
      refine awp_keepL [1, 7, 8, 9, 11, 12] ?_
      simp only [zz20, zzI, look_nil, Nat.reduceBEq]
      refine awp_seq fun K0 hK0 => ?_
      refine awp_plain F_mixed [some 52, some 53, some 54, some 55, some 56, some 51, some 57, some 58, some 59, some 14, some 15, some 16] rfl ?_
      simp only [List.nil_append, List.cons_append, true_and, and_true, zz0, true_implies, Nat.reduceLT, Nat.reduceLeDiff, zzI, look_nil, Nat.reduceBEq, implies_true, evS_move, evS_slice, slX_sl, slK_some, slV_none, slV_int, okO_none, okO_some, Option.map_some, Option.map_none, F_sl22, F_sz3, evS_call, evC_value, zz14, zzD, Nat.reduceAdd, Nat.zero_add, zzF, evS_assign, ints, len_map, hG2, hR2, hE2, kb, ge0, Int.toNat_natCast, Int.le_refl, tk2, tk3, zz6, Nat.reduceEqDiff, ↓reduceIte]
      refine call_go F_go22 (fun hG => greedyF (gLeft t (l.take K)) (l.drop K) (by simp; omega)) (by simp [AV.ids, AV.idsL]) (by simp) ?_
      simp only [List.nil_append, List.cons_append, true_and, and_true, zz0, true_implies, Nat.reduceLT, Nat.reduceLeDiff, zzI, look_nil, Nat.reduceBEq, implies_true, evS_move, evS_slice, slX_sl, slK_some, slV_none, slV_int, okO_none, okO_some, Option.map_some, Option.map_none, F_sl22, F_sz3, evS_call, evC_value, zz14, zzD, Nat.reduceAdd, Nat.zero_add, zzF, evS_assign, ints, len_map, hG2, hR2, hE2, kb, ge0, Int.toNat_natCast, Int.le_refl, tk2, tk3, zz6, Nat.reduceEqDiff, ↓reduceIte, atsL, oksG, freeN, AV.ren, AV.renL, addRows, ORow.row, Nat.reduceMul, Nat.reduceAdd, zz9, Option.bind_some, Option.map_some, forall_eq', D.sl.injEq, zz16, Option.some.injEq, exists_eq_left', exists_eq_left, exists_eq', exists_eq, List.length_cons, zz2]
      refine hK0 _ ?_; try clear hK0 K0
      refine awp_keepL [8, 9, 11, 14, 15, 16] ?_
      simp only [zz20, zzI, look_nil, Nat.reduceBEq]
      refine awp_seq fun K0 hK0 => ?_
      refine awp_plain F_mixed [some 60, some 61, some 62, some 63, some 64, some 65, some 66, some 67, some 68, some 69, some 70, some 71, some 72, some 73, some 74, some 75, some 76, some 6] rfl ?_
      simp only [List.nil_append, List.cons_append, true_and, and_true, zz0, true_implies, Nat.reduceLT, Nat.reduceLeDiff, zzI, look_nil, Nat.reduceBEq, implies_true, Nat.reduceSub, S_getD, zz5, and_imp, imp_and, imp_self, and_self, evS_move, zz21, gr_v, zz34, zz13, pickK_l, pickK_r, evS_call, F_sl22, F_zero3, F_sz3, F_by3, zz4, maxLen_le, Nat.reduceMul, newRow1, zz9, Option.bind_some, Option.map_some, zz16, Option.some.injEq, exists_eq_left', exists_eq_left, eq_self, reduceCtorEq, zzD, Nat.reduceAdd, Nat.zero_add, zzF, zzB, zzE, evC_value, evS_assign, hE2, hpl, hpp, ints, len_map, unDs_map, grow, Gp_some, beq_self_eq_true, Bool.and_true, zz6, Nat.reduceEqDiff, ↓reduceIte]
      have hpn : (gPart t (List.take K l)).length + (gPart (gLeft t (List.take K l)) (List.drop K l)).length = (gPart t l).length := by rw [← List.length_append, hpp]
      have hm3 : (gPart t (List.take K l)).length + (gPart (gLeft t (List.take K l)) (List.drop K l)).length ≤ 1000000 := by rw [hpn, gPart_len]; omega
      refine ⟨le_maxLen hm3, by omega, ?_⟩
      simp only [hpn, ← List.map_append, hpp]
      refine call_go F_go19 (fun hG => kInts_ (gPart t l) (by rw [gPart_len]; omega)) (by simp [AV.ids, AV.idsL]) (by simp) ?_
      simp only [List.nil_append, List.cons_append, true_and, and_true, zz0, true_implies, Nat.reduceLT, Nat.reduceLeDiff, zzI, look_nil, Nat.reduceBEq, implies_true, Nat.reduceSub, S_getD, zz5, and_imp, imp_and, imp_self, and_self, evS_move, zz21, gr_v, zz34, zz13, pickK_l, pickK_r, evS_call, F_sl22, F_zero3, F_sz3, F_by3, zz4, maxLen_le, Nat.reduceMul, newRow1, zz9, Option.bind_some, Option.map_some, zz16, Option.some.injEq, exists_eq_left', exists_eq_left, eq_self, reduceCtorEq, zzD, Nat.reduceAdd, Nat.zero_add, zzF, zzB, zzE, evC_value, evS_assign, hE2, hpl, hpp, ints, len_map, unDs_map, grow, Gp_some, beq_self_eq_true, Bool.and_true, zz6, Nat.reduceEqDiff, ↓reduceIte, atsL, oksG, freeN, AV.ren, AV.renL, addRows, ORow.row, Nat.reduceMul, Nat.reduceAdd, unDs_cons, Option.bind_some, Option.map_some, forall_eq', D.sl.injEq, S_mem, Option.some.injEq, exists_eq_left', exists_eq_left, exists_eq', exists_eq, List.length_cons, zz2]
      refine call_go F_go14 (fun hG => wakes03_) (by simp [AV.ids, AV.idsL]) (by simp) ?_
      simp only [List.nil_append, List.cons_append, true_and, and_true, zz0, true_implies, Nat.reduceLT, Nat.reduceLeDiff, zzI, look_nil, Nat.reduceBEq, implies_true, Nat.reduceSub, S_getD, zz5, and_imp, imp_and, imp_self, and_self, evS_move, zz21, gr_v, zz34, zz13, pickK_l, pickK_r, evS_call, F_sl22, F_zero3, F_sz3, F_by3, zz4, maxLen_le, Nat.reduceMul, newRow1, zz9, Option.bind_some, Option.map_some, zz16, Option.some.injEq, exists_eq_left', exists_eq_left, eq_self, reduceCtorEq, zzD, Nat.reduceAdd, Nat.zero_add, zzF, zzB, zzE, evC_value, evS_assign, hE2, hpl, hpp, ints, len_map, unDs_map, grow, Gp_some, beq_self_eq_true, Bool.and_true, zz6, Nat.reduceEqDiff, ↓reduceIte, atsL, oksG, freeN, AV.ren, AV.renL, addRows, ORow.row, Nat.reduceMul, Nat.reduceAdd, unDs_cons, Option.bind_some, Option.map_some, forall_eq', D.sl.injEq, S_mem, Option.some.injEq, exists_eq_left', exists_eq_left, exists_eq', exists_eq, List.length_cons, zz2]
      refine hK0 _ ?_; try clear hK0 K0
      refine awp_keepL [6] ?_
      simp only [zz20, zzI, look_nil, Nat.reduceBEq]
      refine awp_ret ?_
      simp only [zz6, Nat.reduceEqDiff, ↓reduceIte]
      refine done0 (by simp only [resCs, resC]; trivial) ?_ (by simp [flatA, flatAs, flatD]) (by simp [AV.ids, AV.idsL])
      simp only [List.map_cons, List.map_nil, resA, S_getD, Nat.reduceLT, Nat.reduceLeDiff, look_cons, Nat.reduceBEq, cond_true, cond_false, resAll]
      
end Go.Proofs.Ytfpicdhfoflcgaa
