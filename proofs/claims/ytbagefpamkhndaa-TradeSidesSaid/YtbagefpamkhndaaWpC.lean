import Derived.Test.YtbagefpamkhndaaWpB
namespace Go.Proofs.Ytbagefpamkhndaa
open Go.RowKit
set_option linter.unusedVariables false
set_option linter.unusedSimpArgs false
theorem F_zero30 : zeroT Try.prog 30 = some [(.int .i64 0), (.int .i64 0), (.int .i64 0), (.int .i64 0), (.int .i64 0), (.int .i64 0), (.bool false)] := by kernel_rfl
theorem F_bld30 : bldT Try.prog 30 = true := by kernel_rfl
theorem F_fld30_1 : fldT Try.prog 30 1 = some (1, 1) := by kernel_rfl
theorem F_fld30_2 : fldT Try.prog 30 2 = some (2, 1) := by kernel_rfl
theorem F_fld30_3 : fldT Try.prog 30 3 = some (3, 1) := by kernel_rfl
theorem F_fld30_4 : fldT Try.prog 30 4 = some (4, 1) := by kernel_rfl
theorem F_fld30_5 : fldT Try.prog 30 5 = some (5, 1) := by kernel_rfl
theorem F_go8 : goFn Try.prog 8 := ⟨_, Try.func8, rfl, rfl⟩
theorem F_go9 : goFn Try.prog 9 := ⟨_, Try.func9, rfl, rfl⟩
theorem F_go10 : goFn Try.prog 10 := ⟨_, Try.func10, rfl, rfl⟩
theorem wakes_ : ACalls Try.prog 10 [] [] (bv true) := by
  refine acalls_S (rs := [.tmp 0]) Try.func10 rfl rfl 21 [] rfl (by simp) rfl ?_
  refine awp_seq fun K0 hK0 => ?_
  refine awp_plain F_mixed [some 0] rfl ?_
  simp only [evL_nil, evL_plain, nxS, nxS0, List.nil_append, List.cons_append, true_and, and_true, Gp_none, true_implies, S_const, Sk_const, S_tmp, Sk_tmp, Nat.reduceLT, Nat.reduceLeDiff, look_cons, look_nil, Nat.reduceBEq, cond_true, cond_false, ok_d, bare_d, ok_ref, bare_ref, ok_ptr, bare_ptr, ok_ag, bare_ag, implies_true, evS_assign, aThen_normal, Th_exit, Th_ret, Bl_normal, Bl_ret, Bl_exit, Po_normal, Po_ret, Nat.reduceEqDiff, ↓reduceIte]
  refine hK0 _ ?_; try clear hK0 K0
  refine awp_keepL [] ?_
  simp only [keepL_cons, keepL_nil, look_cons, look_nil, Nat.reduceBEq, cond_true, cond_false]
  refine awp_seq fun K0 hK0 => ?_
  refine awp_plain F_mixed [some 2, some 3, some 1] rfl ?_
  simp only [evL_nil, evL_plain, nxS, nxS0, List.nil_append, List.cons_append, true_and, and_true, Gp_none, true_implies, S_const, Sk_const, S_tmp, Sk_tmp, Nat.reduceLT, Nat.reduceLeDiff, look_cons, look_nil, Nat.reduceBEq, cond_true, cond_false, ok_d, bare_d, ok_ref, bare_ref, ok_ptr, bare_ptr, ok_ag, bare_ag, implies_true, evS_build, F_zero30, F_bld30, buildK_some, bldPs_nil, bldPs_cons, fldK_some, bldCells_nil, bldCells_cons, splice, Option.getD_some, List.append_nil, cellsOf_ag, cellsOf_agg, cellsOf_int, cellsOf_bool, cellsOf_slice, cellsOf_func, cellsOf_ref, cellsOf_sl, cell1s_nil, cell1s_cons, cell1_int, cell1_bool, cell1_slice, cell1_func, cell1_ref, cell1_sl, List.map_cons, List.map_nil, List.length_cons, List.length_nil, S_mem, lookR_cons, lookR_nil, Option.some.injEq, exists_eq_left', exists_eq_left, Option.map_some, eq_self, reduceCtorEq, and_self, Nat.reduceAdd, Nat.zero_add, List.getD_cons_zero, List.getD_cons_succ, List.drop_zero, List.drop_succ_cons, List.take_succ_cons, List.take_zero, Nat.le_refl, List.set_cons_zero, List.set_cons_succ, allO_nil, allO_cons, oc_int, oc_bool, oc_slice, F_fld30_1, F_fld30_2, F_fld30_3, F_fld30_4, F_fld30_5, evS_call, evC_value, evS_assign, tradeC, D.agg.injEq, legsC, posC, legA, legB, aThen_normal, Th_exit, Th_ret, Bl_normal, Bl_ret, Bl_exit, Po_normal, Po_ret, Nat.reduceEqDiff, ↓reduceIte]
  refine call_go F_go11 (fun hG => Legs_yes ⟨0, 1, 2, 3, 5, 10, false⟩ rfl) (by simp [AV.ids, AV.idsL]) (by simp) ?_
  simp only [evL_nil, evL_plain, nxS, nxS0, List.nil_append, List.cons_append, true_and, and_true, Gp_none, true_implies, S_const, Sk_const, S_tmp, Sk_tmp, Nat.reduceLT, Nat.reduceLeDiff, look_cons, look_nil, Nat.reduceBEq, cond_true, cond_false, ok_d, bare_d, ok_ref, bare_ref, ok_ptr, bare_ptr, ok_ag, bare_ag, implies_true, evS_build, F_zero30, F_bld30, buildK_some, bldPs_nil, bldPs_cons, fldK_some, bldCells_nil, bldCells_cons, splice, Option.getD_some, List.append_nil, cellsOf_ag, cellsOf_agg, cellsOf_int, cellsOf_bool, cellsOf_slice, cellsOf_func, cellsOf_ref, cellsOf_sl, cell1s_nil, cell1s_cons, cell1_int, cell1_bool, cell1_slice, cell1_func, cell1_ref, cell1_sl, List.map_cons, List.map_nil, List.length_cons, List.length_nil, S_mem, lookR_cons, lookR_nil, Option.some.injEq, exists_eq_left', exists_eq_left, Option.map_some, eq_self, reduceCtorEq, and_self, Nat.reduceAdd, Nat.zero_add, List.getD_cons_zero, List.getD_cons_succ, List.drop_zero, List.drop_succ_cons, List.take_succ_cons, List.take_zero, Nat.le_refl, List.set_cons_zero, List.set_cons_succ, allO_nil, allO_cons, oc_int, oc_bool, oc_slice, F_fld30_1, F_fld30_2, F_fld30_3, F_fld30_4, F_fld30_5, evS_call, evC_value, evS_assign, tradeC, D.agg.injEq, legsC, posC, legA, legB, aThen_normal, Th_exit, Th_ret, Bl_normal, Bl_ret, Bl_exit, Po_normal, Po_ret, Nat.reduceEqDiff, ↓reduceIte, asDs_cons, asDs_nil, atsL, asD_self, asD_nil, asD_sl, asD_agg, asD_int, asD_bool, asD_func, asD_ag, asD_ref, asG_d, asG_ag, asG_ref, oksG, freeN, AV.ren, AV.renL, addRows, ORow.row, Nat.reduceMul, Nat.reduceAdd, unE_cons, unE_nil, unDs_cons, unDs_nil, unE_map, Option.bind_some, Option.map_some, forall_eq', D.sl.injEq, S_mem, Option.some.injEq, exists_eq_left', exists_eq_left, exists_eq', exists_eq, List.length_nil, List.length_cons, lookR_nil, lookR_cons, S_func, Sk_func]
  refine hK0 _ ?_; try clear hK0 K0
  refine awp_keepL [1] ?_
  simp only [keepL_cons, keepL_nil, look_cons, look_nil, Nat.reduceBEq, cond_true, cond_false]
  refine awp_seq fun K0 hK0 => ?_
  refine awp_plain F_mixed [some 4, some 5, some 6, some 7, some 8, some 9, some 10, some 11, some 12, some 13, some 14, some 15, some 16, some 17, some 18, some 19, some 20, some 0] rfl ?_
  simp only [evL_nil, evL_plain, nxS, nxS0, List.nil_append, List.cons_append, true_and, and_true, Gp_none, true_implies, S_const, Sk_const, S_tmp, Sk_tmp, Nat.reduceLT, Nat.reduceLeDiff, look_cons, look_nil, Nat.reduceBEq, cond_true, cond_false, ok_d, bare_d, ok_ref, bare_ref, ok_ptr, bare_ptr, ok_ag, bare_ag, implies_true, evL_guard, evG_some, evGK_b, evGK_wh, nthD_cons, Nat.reduceSub, S_getD, nxSg, Gp_some, bare_wh, ok_wh, and_imp, imp_and, imp2, imp_self, and_self, evS_move, evS_call, evC_len, F_sl22, Option.isSome_some, lenK_sl, lenK_nil, lenK_ref, evS_binOp, binK_some, gr_v, b_eql, pure_eql, evS_indexAddr, bare_ep, ok_ep, evIx_sl, evIx_ref, F_sz35, Option.map_some, S_mem, lookR_cons, lookR_nil, Option.some.injEq, exists_eq_left', exists_eq_left, eq_self, reduceCtorEq, evS_fieldAddr, faK_ptr, faK_ep, F_off35_2, List.drop_succ_cons, List.drop_zero, Nat.zero_add, Nat.reduceAdd, evS_load, F_ok3, F_ag3, F_sz3, evLd_ptr, ldR_agg, ldR_one, evLd_ep_agg, evLd_ep_one, List.length_cons, List.length_nil, List.getD_cons_zero, List.getD_cons_succ, List.take_succ_cons, List.take_zero, Nat.le_refl, List.set_cons_zero, List.set_cons_succ, evS_pick, pickK_bool, bif_tt, bif_ff, F_off35_1, evS_assign, cast2, Int.reduceBEq, Int.reduceLT, Int.reduceLE, Int.reduceToNat, aThen_normal, Th_exit, Th_ret, Bl_normal, Bl_ret, Bl_exit, Po_normal, Po_ret, Nat.reduceEqDiff, ↓reduceIte]
  refine hK0 _ ?_; try clear hK0 K0
  refine awp_keepL [0] ?_
  simp only [keepL_cons, keepL_nil, look_cons, look_nil, Nat.reduceBEq, cond_true, cond_false]
  refine awp_ret ?_
  simp only [aThen_normal, Th_exit, Th_ret, Bl_normal, Bl_ret, Bl_exit, Po_normal, Po_ret, Nat.reduceEqDiff, ↓reduceIte]
  refine done0 (by simp only [resCs, resC]; trivial) ?_ (by simp [flatA, flatAs, flatD]) (by simp [AV.ids, AV.idsL])
  simp only [List.map_cons, List.map_nil, resA, S_getD, Nat.reduceLT, Nat.reduceLeDiff, look_cons, Nat.reduceBEq, cond_true, cond_false, resAll]
  rfl
theorem tradeSums_ (l : List PosV) : ACalls Try.prog 3 [poss l] [] (bv true) := by
  refine acalls_S (rs := [.tmp 2]) Try.func3 rfl rfl 40 [(0, .d (poss l))] rfl (by simp) rfl ?_
  refine awp_seq fun K0 hK0 => ?_
  refine awp_plain F_mixed [some 2] rfl ?_
  simp only [evL_nil, evL_plain, nxS, nxS0, List.nil_append, List.cons_append, true_and, and_true, Gp_none, true_implies, S_const, Sk_const, S_tmp, Sk_tmp, Nat.reduceLT, Nat.reduceLeDiff, look_cons, look_nil, Nat.reduceBEq, cond_true, cond_false, ok_d, bare_d, ok_ref, bare_ref, ok_ptr, bare_ptr, ok_ag, bare_ag, implies_true, evS_assign, aThen_normal, Th_exit, Th_ret, Bl_normal, Bl_ret, Bl_exit, Po_normal, Po_ret, Nat.reduceEqDiff, ↓reduceIte]
  refine hK0 _ ?_; try clear hK0 K0
  refine awp_keepL [0] ?_
  simp only [keepL_cons, keepL_nil, look_cons, look_nil, Nat.reduceBEq, cond_true, cond_false]
  refine awp_seq fun K0 hK0 => ?_
  refine awp_seq fun K1 hK1 => ?_
  refine awp_plain F_mixed [some 9, some 10, some 11] rfl ?_
  simp only [evL_nil, evL_plain, nxS, nxS0, List.nil_append, List.cons_append, true_and, and_true, Gp_none, true_implies, S_const, Sk_const, S_tmp, Sk_tmp, Nat.reduceLT, Nat.reduceLeDiff, look_cons, look_nil, Nat.reduceBEq, cond_true, cond_false, ok_d, bare_d, ok_ref, bare_ref, ok_ptr, bare_ptr, ok_ag, bare_ag, implies_true, evS_move, evS_call, evC_len, F_sl22, Option.isSome_some, lenK_sl, lenK_nil, lenK_ref, evS_binOp, binK_some, gr_v, b_gtr, pure_gtr, poss, len_map, aThen_normal, Th_exit, Th_ret, Bl_normal, Bl_ret, Bl_exit, Po_normal, Po_ret, Nat.reduceEqDiff, ↓reduceIte]
  refine hK1 _ ?_; try clear hK1 K1
  refine awp_keepL [0, 11] ?_
  simp only [keepL_cons, keepL_nil, look_cons, look_nil, Nat.reduceBEq, cond_true, cond_false]
  refine awp_condS _ (by decide) (by simp only [look_cons, Nat.reduceBEq, cond_true, cond_false]; rfl) ?_ ?_
  · intro hb
    refine awp_seq fun K2 hK2 => ?_
    refine awp_plain F_mixed [some 2] rfl ?_
    simp only [evL_nil, evL_plain, nxS, nxS0, List.nil_append, List.cons_append, true_and, and_true, Gp_none, true_implies, S_const, Sk_const, S_tmp, Sk_tmp, Nat.reduceLT, Nat.reduceLeDiff, look_cons, look_nil, Nat.reduceBEq, cond_true, cond_false, ok_d, bare_d, ok_ref, bare_ref, ok_ptr, bare_ptr, ok_ag, bare_ag, implies_true, evS_assign, aThen_normal, Th_exit, Th_ret, Bl_normal, Bl_ret, Bl_exit, Po_normal, Po_ret, Nat.reduceEqDiff, ↓reduceIte]
    refine hK2 _ ?_; try clear hK2 K2
    refine awp_keepL [2] ?_
    simp only [keepL_cons, keepL_nil, look_cons, look_nil, Nat.reduceBEq, cond_true, cond_false]
    refine awp_ret ?_
    simp only [aThen_normal, Th_exit, Th_ret, Bl_normal, Bl_ret, Bl_exit, Po_normal, Po_ret, Nat.reduceEqDiff, ↓reduceIte]
    refine done0 (by simp only [resCs, resC]; trivial) ?_ (by simp [flatA, flatAs, flatD]) (by simp [AV.ids, AV.idsL])
    simp only [List.map_cons, List.map_nil, resA, S_getD, Nat.reduceLT, Nat.reduceLeDiff, look_cons, Nat.reduceBEq, cond_true, cond_false, resAll]
    
  · intro hb
    have hl : l.length ≤ 300 := by simp at hb; omega
    clear hb
    refine awp_skip ?_
    simp only [aThen_normal, Th_exit, Th_ret, Bl_normal, Bl_ret, Bl_exit, Po_normal, Po_ret, Nat.reduceEqDiff, ↓reduceIte]
    refine hK0 _ ?_; try clear hK0 K0
    refine awp_keepL [0] ?_
    simp only [keepL_cons, keepL_nil, look_cons, look_nil, Nat.reduceBEq, cond_true, cond_false]
    refine awp_seq fun K0 hK0 => ?_
    refine awp_plain F_mixed [some 13, some 14, some 12, some 15, some 16, some 17, some 3, some 4, some 5] rfl ?_
    simp only [evL_nil, evL_plain, nxS, nxS0, List.nil_append, List.cons_append, true_and, and_true, Gp_none, true_implies, S_const, Sk_const, S_tmp, Sk_tmp, Nat.reduceLT, Nat.reduceLeDiff, look_cons, look_nil, Nat.reduceBEq, cond_true, cond_false, ok_d, bare_d, ok_ref, bare_ref, ok_ptr, bare_ptr, ok_ag, bare_ag, implies_true, evS_move, evS_call, evC_value, evS_extract, exK_tp, bare_tp, ok_tp, List.length_cons, List.length_nil, Nat.reduceAdd, Nat.zero_add, List.getD_cons_zero, List.getD_cons_succ, evS_assign, poss, aThen_normal, Th_exit, Th_ret, Bl_normal, Bl_ret, Bl_exit, Po_normal, Po_ret, Nat.reduceEqDiff, ↓reduceIte]
    refine call_go F_go8 (fun hG => tSum_ l (by omega)) (by simp [AV.ids, AV.idsL]) (by simp) ?_
    simp only [evL_nil, evL_plain, nxS, nxS0, List.nil_append, List.cons_append, true_and, and_true, Gp_none, true_implies, S_const, Sk_const, S_tmp, Sk_tmp, Nat.reduceLT, Nat.reduceLeDiff, look_cons, look_nil, Nat.reduceBEq, cond_true, cond_false, ok_d, bare_d, ok_ref, bare_ref, ok_ptr, bare_ptr, ok_ag, bare_ag, implies_true, evS_move, evS_call, evC_value, evS_extract, exK_tp, bare_tp, ok_tp, List.length_cons, List.length_nil, Nat.reduceAdd, Nat.zero_add, List.getD_cons_zero, List.getD_cons_succ, evS_assign, poss, aThen_normal, Th_exit, Th_ret, Bl_normal, Bl_ret, Bl_exit, Po_normal, Po_ret, Nat.reduceEqDiff, ↓reduceIte, asDs_cons, asDs_nil, atsL, asD_self, asD_nil, asD_sl, asD_agg, asD_int, asD_bool, asD_func, asD_ag, asD_ref, asG_d, asG_ag, asG_ref, oksG, freeN, AV.ren, AV.renL, addRows, ORow.row, Nat.reduceMul, Nat.reduceAdd, unE_cons, unE_nil, unDs_cons, unDs_nil, unE_map, Option.bind_some, Option.map_some, forall_eq', D.sl.injEq, S_mem, Option.some.injEq, exists_eq_left', exists_eq_left, exists_eq', exists_eq, List.length_nil, List.length_cons, lookR_nil, lookR_cons, S_func, Sk_func]
    refine hK0 _ ?_; try clear hK0 K0
    refine awp_keepL [0, 3, 4, 5] ?_
    simp only [keepL_cons, keepL_nil, look_cons, look_nil, Nat.reduceBEq, cond_true, cond_false]
    refine awp_seq fun K0 hK0 => ?_
    refine awp_plain F_mixed [some 19, some 20, some 18, some 21, some 22, some 23, some 6, some 7, some 8] rfl ?_
    simp only [evL_nil, evL_plain, nxS, nxS0, List.nil_append, List.cons_append, true_and, and_true, Gp_none, true_implies, S_const, Sk_const, S_tmp, Sk_tmp, Nat.reduceLT, Nat.reduceLeDiff, look_cons, look_nil, Nat.reduceBEq, cond_true, cond_false, ok_d, bare_d, ok_ref, bare_ref, ok_ptr, bare_ptr, ok_ag, bare_ag, implies_true, evS_move, evS_call, evC_value, evS_extract, exK_tp, bare_tp, ok_tp, List.length_cons, List.length_nil, Nat.reduceAdd, Nat.zero_add, List.getD_cons_zero, List.getD_cons_succ, evS_assign, poss, aThen_normal, Th_exit, Th_ret, Bl_normal, Bl_ret, Bl_exit, Po_normal, Po_ret, Nat.reduceEqDiff, ↓reduceIte]
    refine call_go F_go9 (fun hG => rSum_ l (by omega)) (by simp [AV.ids, AV.idsL]) (by simp) ?_
    simp only [evL_nil, evL_plain, nxS, nxS0, List.nil_append, List.cons_append, true_and, and_true, Gp_none, true_implies, S_const, Sk_const, S_tmp, Sk_tmp, Nat.reduceLT, Nat.reduceLeDiff, look_cons, look_nil, Nat.reduceBEq, cond_true, cond_false, ok_d, bare_d, ok_ref, bare_ref, ok_ptr, bare_ptr, ok_ag, bare_ag, implies_true, evS_move, evS_call, evC_value, evS_extract, exK_tp, bare_tp, ok_tp, List.length_cons, List.length_nil, Nat.reduceAdd, Nat.zero_add, List.getD_cons_zero, List.getD_cons_succ, evS_assign, poss, aThen_normal, Th_exit, Th_ret, Bl_normal, Bl_ret, Bl_exit, Po_normal, Po_ret, Nat.reduceEqDiff, ↓reduceIte, asDs_cons, asDs_nil, atsL, asD_self, asD_nil, asD_sl, asD_agg, asD_int, asD_bool, asD_func, asD_ag, asD_ref, asG_d, asG_ag, asG_ref, oksG, freeN, AV.ren, AV.renL, addRows, ORow.row, Nat.reduceMul, Nat.reduceAdd, unE_cons, unE_nil, unDs_cons, unDs_nil, unE_map, Option.bind_some, Option.map_some, forall_eq', D.sl.injEq, S_mem, Option.some.injEq, exists_eq_left', exists_eq_left, exists_eq', exists_eq, List.length_nil, List.length_cons, lookR_nil, lookR_cons, S_func, Sk_func]
    refine hK0 _ ?_; try clear hK0 K0
    refine awp_keepL [3, 4, 5, 6, 7, 8] ?_
    simp only [keepL_cons, keepL_nil, look_cons, look_nil, Nat.reduceBEq, cond_true, cond_false]
    refine awp_seq fun K0 hK0 => ?_
    refine awp_plain F_mixed [some 24, some 25, some 26, some 27, some 28, some 29, some 30, some 31, some 32, some 33, some 34, some 35, some 36, some 37, some 38, some 39, some 2] rfl ?_
    simp only [evL_nil, evL_plain, nxS, nxS0, List.nil_append, List.cons_append, true_and, and_true, Gp_none, true_implies, S_const, Sk_const, S_tmp, Sk_tmp, Nat.reduceLT, Nat.reduceLeDiff, look_cons, look_nil, Nat.reduceBEq, cond_true, cond_false, ok_d, bare_d, ok_ref, bare_ref, ok_ptr, bare_ptr, ok_ag, bare_ag, implies_true, evL_guard, evG_some, evGK_b, evGK_wh, nthD_cons, Nat.reduceSub, S_getD, nxSg, Gp_some, bare_wh, ok_wh, and_imp, imp_and, imp2, imp_self, and_self, evS_move, evS_binOp, binK_some, gr_v, b_eql, pure_eql, evS_pick, pickK_bool, bif_tt, bif_ff, evS_call, evC_value, evS_assign, aThen_normal, Th_exit, Th_ret, Bl_normal, Bl_ret, Bl_exit, Po_normal, Po_ret, Nat.reduceEqDiff, ↓reduceIte]
    refine call_go F_go10 (fun hG => wakes_) (by simp [AV.ids, AV.idsL]) (by simp) ?_
    simp only [evL_nil, evL_plain, nxS, nxS0, List.nil_append, List.cons_append, true_and, and_true, Gp_none, true_implies, S_const, Sk_const, S_tmp, Sk_tmp, Nat.reduceLT, Nat.reduceLeDiff, look_cons, look_nil, Nat.reduceBEq, cond_true, cond_false, ok_d, bare_d, ok_ref, bare_ref, ok_ptr, bare_ptr, ok_ag, bare_ag, implies_true, evL_guard, evG_some, evGK_b, evGK_wh, nthD_cons, Nat.reduceSub, S_getD, nxSg, Gp_some, bare_wh, ok_wh, and_imp, imp_and, imp2, imp_self, and_self, evS_move, evS_binOp, binK_some, gr_v, b_eql, pure_eql, evS_pick, pickK_bool, bif_tt, bif_ff, evS_call, evC_value, evS_assign, aThen_normal, Th_exit, Th_ret, Bl_normal, Bl_ret, Bl_exit, Po_normal, Po_ret, Nat.reduceEqDiff, ↓reduceIte, asDs_cons, asDs_nil, atsL, asD_self, asD_nil, asD_sl, asD_agg, asD_int, asD_bool, asD_func, asD_ag, asD_ref, asG_d, asG_ag, asG_ref, oksG, freeN, AV.ren, AV.renL, addRows, ORow.row, Nat.reduceMul, Nat.reduceAdd, unE_cons, unE_nil, unDs_cons, unDs_nil, unE_map, Option.bind_some, Option.map_some, forall_eq', D.sl.injEq, S_mem, Option.some.injEq, exists_eq_left', exists_eq_left, exists_eq', exists_eq, List.length_nil, List.length_cons, lookR_nil, lookR_cons, S_func, Sk_func]
    refine hK0 _ ?_; try clear hK0 K0
    refine awp_keepL [2] ?_
    simp only [keepL_cons, keepL_nil, look_cons, look_nil, Nat.reduceBEq, cond_true, cond_false]
    refine awp_ret ?_
    simp only [aThen_normal, Th_exit, Th_ret, Bl_normal, Bl_ret, Bl_exit, Po_normal, Po_ret, Nat.reduceEqDiff, ↓reduceIte]
    refine done0 (by simp only [resCs, resC]; trivial) ?_ (by simp [flatA, flatAs, flatD]) (by simp [AV.ids, AV.idsL])
    simp only [List.map_cons, List.map_nil, resA, S_getD, Nat.reduceLT, Nat.reduceLeDiff, look_cons, Nat.reduceBEq, cond_true, cond_false, resAll]
    simp
end Go.Proofs.Ytbagefpamkhndaa
