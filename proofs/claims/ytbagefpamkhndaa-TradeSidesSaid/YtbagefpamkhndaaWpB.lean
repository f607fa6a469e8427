import Derived.Test.YtbagefpamkhndaaWpA
namespace Go.Proofs.Ytbagefpamkhndaa
open Go.RowKit
set_option linter.unusedVariables false
set_option linter.unusedSimpArgs false
theorem F_sl22 : sliceT Try.prog 22 = some 35 := by kernel_rfl
theorem F_sz35 : szT Try.prog 35 = 4 := by kernel_rfl
theorem F_ok35 : tyOk Try.prog 35 = true := by kernel_rfl
theorem F_ag35 : aggT Try.prog 35 = true := by kernel_rfl
theorem F_zero35 : zeroT Try.prog 35 = some [(.int .i64 0), (.int .i64 0), (.int .i64 0), (.int .i64 0)] := by kernel_rfl
theorem F_off35_1 : offT Try.prog 35 1 = some 2 := by kernel_rfl
theorem F_by3 : byT Try.prog 3 = 8 := by kernel_rfl
theorem F_off35_2 : offT Try.prog 35 2 = some 3 := by kernel_rfl
theorem F_go24 : goFn Try.prog 24 := ⟨_, Try.func24, rfl, rfl⟩
theorem F_go26 : goFn Try.prog 26 := ⟨_, Try.func26, rfl, rfl⟩
theorem F_off30_4 : offT Try.prog 30 4 = some 4 := by kernel_rfl
theorem F_off30_5 : offT Try.prog 30 5 = some 5 := by kernel_rfl
theorem F_ok30 : tyOk Try.prog 30 = true := by kernel_rfl
theorem F_ag30 : aggT Try.prog 30 = true := by kernel_rfl
theorem F_sz30 : szT Try.prog 30 = 7 := by kernel_rfl
theorem F_go27 : goFn Try.prog 27 := ⟨_, Try.func27, rfl, rfl⟩
theorem F_off30_1 : offT Try.prog 30 1 = some 1 := by kernel_rfl
theorem F_off30_3 : offT Try.prog 30 3 = some 3 := by kernel_rfl
theorem F_zero33 : zeroT Try.prog 33 = some [(.int .i64 0), (.int .i64 0)] := by kernel_rfl
theorem F_bld33 : bldT Try.prog 33 = true := by kernel_rfl
theorem F_fld33_0 : fldT Try.prog 33 0 = some (0, 1) := by kernel_rfl
theorem F_fld33_1 : fldT Try.prog 33 1 = some (1, 1) := by kernel_rfl
theorem F_bld35 : bldT Try.prog 35 = true := by kernel_rfl
theorem F_fld35_0 : fldT Try.prog 35 0 = some (0, 2) := by kernel_rfl
theorem F_fld35_1 : fldT Try.prog 35 1 = some (2, 1) := by kernel_rfl
theorem F_fld35_2 : fldT Try.prog 35 2 = some (3, 1) := by kernel_rfl
theorem F_off30_2 : offT Try.prog 30 2 = some 2 := by kernel_rfl
theorem F_go11 : goFn Try.prog 11 := ⟨_, Try.func11, rfl, rfl⟩
theorem tSum_ (l : List PosV) (hl : l.length ≤ 1000000) : ACalls Try.prog 8 [poss l] [] (.tp [.d (iv (tsQ l)), .d (iv (tsC l)), .d (iv (tsE l))]) := by
  refine acalls_S (rs := [.tmp 2, .tmp 3, .tmp 4]) Try.func8 rfl rfl 52 [(0, .d (poss l))] rfl (by simp) rfl ?_
  refine awp_seq fun K0 hK0 => ?_
  refine awp_plain F_mixed [some 2, some 3, some 4] rfl ?_
  simp only [evL_nil, evL_plain, nxS, nxS0, List.nil_append, List.cons_append, true_and, and_true, Gp_none, true_implies, S_const, Sk_const, S_tmp, Sk_tmp, Nat.reduceLT, Nat.reduceLeDiff, look_cons, look_nil, Nat.reduceBEq, cond_true, cond_false, ok_d, bare_d, ok_ref, bare_ref, ok_ptr, bare_ptr, ok_ag, bare_ag, implies_true, evS_assign, aThen_normal, Th_exit, Th_ret, Bl_normal, Bl_ret, Bl_exit, Po_normal, Po_ret, Nat.reduceEqDiff, ↓reduceIte]
  refine hK0 _ ?_; try clear hK0 K0
  refine awp_keepL [0] ?_
  simp only [keepL_cons, keepL_nil, look_cons, look_nil, Nat.reduceBEq, cond_true, cond_false]
  refine awp_seq fun K0 hK0 => ?_
  refine awp_plain F_mixed [some 5, some 6] rfl ?_
  simp only [evL_nil, evL_plain, nxS, nxS0, List.nil_append, List.cons_append, true_and, and_true, Gp_none, true_implies, S_const, Sk_const, S_tmp, Sk_tmp, Nat.reduceLT, Nat.reduceLeDiff, look_cons, look_nil, Nat.reduceBEq, cond_true, cond_false, ok_d, bare_d, ok_ref, bare_ref, ok_ptr, bare_ptr, ok_ag, bare_ag, implies_true, evS_assign, aThen_normal, Th_exit, Th_ret, Bl_normal, Bl_ret, Bl_exit, Po_normal, Po_ret, Nat.reduceEqDiff, ↓reduceIte]
  refine hK0 _ ?_; try clear hK0 K0
  refine awp_keepL [0, 5, 6] ?_
  simp only [keepL_cons, keepL_nil, look_cons, look_nil, Nat.reduceBEq, cond_true, cond_false]
  refine awp_seq fun K0 hK0 => ?_
  refine awp_seq fun K1 hK1 => ?_
  refine awp_plain F_mixed [some 9, some 10, some 11] rfl ?_
  simp only [evL_nil, evL_plain, nxS, nxS0, List.nil_append, List.cons_append, true_and, and_true, Gp_none, true_implies, S_const, Sk_const, S_tmp, Sk_tmp, Nat.reduceLT, Nat.reduceLeDiff, look_cons, look_nil, Nat.reduceBEq, cond_true, cond_false, ok_d, bare_d, ok_ref, bare_ref, ok_ptr, bare_ptr, ok_ag, bare_ag, implies_true, evS_move, evS_call, evC_len, F_sl22, Option.isSome_some, lenK_sl, lenK_nil, lenK_ref, poss, len_map, aThen_normal, Th_exit, Th_ret, Bl_normal, Bl_ret, Bl_exit, Po_normal, Po_ret, Nat.reduceEqDiff, ↓reduceIte]
  refine hK1 _ ?_; try clear hK1 K1
  refine awp_keepL [5, 6, 9, 10, 11] ?_
  simp only [keepL_cons, keepL_nil, look_cons, look_nil, Nat.reduceBEq, cond_true, cond_false]
  refine awp_block ?_
  refine awp_loop (fun m s => ∃ pre post : List PosV, l = pre ++ post ∧ m = post.length ∧ s = S 52 [(5, .ref 5 pre.length), (6, .ref 6 pre.length), (9, .d (poss l)), (10, .d (iv l.length)), (11, .d (iv pre.length))] [(5, grow 3 1 5 ((pre.map PosV.qty).map fun n => [iv n])), (6, grow 3 1 6 ((pre.map PosV.cost).map fun n => [iv n]))]) l.length _ (le_S id [5, 6] (l' := [(5, .ref 5 ([] : List PosV).length), (6, .ref 6 ([] : List PosV).length), (9, .d (poss l)), (10, .d (iv l.length)), (11, .d (iv ([] : List PosV).length))]) (m' := [(5, grow 3 1 5 ((([] : List PosV).map PosV.qty).map fun n => [iv n])), (6, grow 3 1 6 ((([] : List PosV).map PosV.cost).map fun n => [iv n]))]) ?_ ?_ (by simp) ?_ ?_) ⟨[], l, rfl, rfl, rfl⟩ ?_
  · simp only [leV, look_cons, Nat.reduceBEq, cond_true, cond_false, poss, len_map]; exact ⟨VLe.nil_ (by decide), VLe.nil_ (by decide), VLe.data_ _, VLe.data_ _, VLe.data_ _, trivial⟩
  · simp [leR, grow]
  · simp [wfV, AV.ids, lookR]
  · simp [wfR, grow]
  rintro m s ⟨pre, post, rfl, rfl, rfl⟩
  refine awp_seq fun K2 hK2 => ?_
  refine awp_plain F_mixed [some 12] rfl ?_
  simp only [evL_nil, evL_plain, nxS, nxS0, List.nil_append, List.cons_append, true_and, and_true, Gp_none, true_implies, S_const, Sk_const, S_tmp, Sk_tmp, Nat.reduceLT, Nat.reduceLeDiff, look_cons, look_nil, Nat.reduceBEq, cond_true, cond_false, ok_d, bare_d, ok_ref, bare_ref, ok_ptr, bare_ptr, ok_ag, bare_ag, implies_true, evS_binOp, binK_some, gr_v, b_lss, pure_lss, aThen_normal, Th_exit, Th_ret, Bl_normal, Bl_ret, Bl_exit, Po_normal, Po_ret, Nat.reduceEqDiff, ↓reduceIte]
  refine hK2 _ ?_; try clear hK2 K2
  refine awp_keepL [5, 6, 9, 10, 11, 12] ?_
  simp only [keepL_cons, keepL_nil, look_cons, look_nil, Nat.reduceBEq, cond_true, cond_false]
  refine awp_seq fun K2 hK2 => ?_
  refine awp_condS _ (by decide) (by simp only [look_cons, Nat.reduceBEq, cond_true, cond_false]; rfl) ?_ ?_
  · intro hb
    obtain ⟨x, post, rfl⟩ := more_of hb; clear hb
    refine awp_skip ?_
    simp only [aThen_normal, Th_exit, Th_ret, Bl_normal, Bl_ret, Bl_exit, Po_normal, Po_ret, Nat.reduceEqDiff, ↓reduceIte]
    refine hK2 _ ?_; try clear hK2 K2
    refine awp_keepL [5, 6, 9, 10, 11] ?_
    simp only [keepL_cons, keepL_nil, look_cons, look_nil, Nat.reduceBEq, cond_true, cond_false]
    refine awp_seq fun K2 hK2 => ?_
    refine awp_block ?_
    refine awp_seq fun K3 hK3 => ?_
    refine awp_plain F_mixed [some 13, some 14, some 8, none] rfl ?_
    simp only [evL_nil, evL_plain, nxS, nxS0, List.nil_append, List.cons_append, true_and, and_true, Gp_none, true_implies, S_const, Sk_const, S_tmp, Sk_tmp, Nat.reduceLT, Nat.reduceLeDiff, look_cons, look_nil, Nat.reduceBEq, cond_true, cond_false, ok_d, bare_d, ok_ref, bare_ref, ok_ptr, bare_ptr, ok_ag, bare_ag, implies_true, evS_indexAddr, bare_ep, ok_ep, evIx_sl, evIx_ref, F_sl22, F_sz35, Option.map_some, S_mem, lookR_cons, lookR_nil, Option.some.injEq, exists_eq_left', exists_eq_left, eq_self, reduceCtorEq, and_self, evS_load, F_ok35, F_ag35, evLd_ptr, ldR_agg, ldR_one, evLd_ep_agg, evLd_ep_one, List.length_cons, List.length_nil, Nat.reduceAdd, Nat.zero_add, List.getD_cons_zero, List.getD_cons_succ, List.drop_zero, List.drop_succ_cons, List.take_succ_cons, List.take_zero, Nat.le_refl, List.set_cons_zero, List.set_cons_succ, evS_alloc, allocK_some, newRow1, F_zero35, allO_nil, allO_cons, oc_int, oc_bool, oc_slice, evS_store, evSo_ptr, soR_some, splice, List.append_nil, cellsOf_ag, cellsOf_agg, cellsOf_int, cellsOf_bool, cellsOf_slice, cellsOf_func, cellsOf_ref, cellsOf_sl, cell1s_nil, cell1s_cons, cell1_int, cell1_bool, cell1_slice, cell1_func, cell1_ref, cell1_sl, List.map_cons, List.map_nil, poss, posC, getD_mid, len_map, lt_mid, ge_mid, aThen_normal, Th_exit, Th_ret, Bl_normal, Bl_ret, Bl_exit, Po_normal, Po_ret, Nat.reduceEqDiff, ↓reduceIte]
    refine hK3 _ ?_; try clear hK3 K3
    refine awp_keepL [5, 6, 8, 9, 10, 11] ?_
    simp only [keepL_cons, keepL_nil, look_cons, look_nil, Nat.reduceBEq, cond_true, cond_false]
    refine awp_draw F_mixed [some 15, some 16, some 17, some 18, some 19, some 20, some 21, some 22, some 23, some 24, some 5, some 6] rfl (by kernel_rfl) ?_
    simp only [evL_nil, evL_plain, nxS, nxS0, List.nil_append, List.cons_append, true_and, and_true, Gp_none, true_implies, S_const, Sk_const, S_tmp, Sk_tmp, Nat.reduceLT, Nat.reduceLeDiff, look_cons, look_nil, Nat.reduceBEq, cond_true, cond_false, ok_d, bare_d, ok_ref, bare_ref, ok_ptr, bare_ptr, ok_ag, bare_ag, implies_true, evS_move, evS_fieldAddr, faK_ptr, faK_ep, bare_ep, ok_ep, F_off35_1, List.drop_succ_cons, List.drop_zero, Nat.zero_add, Nat.reduceAdd, evS_load, F_ok3, F_ag3, F_sz3, evLd_ptr, ldR_agg, ldR_one, evLd_ep_agg, evLd_ep_one, List.length_cons, List.length_nil, List.getD_cons_zero, List.getD_cons_succ, List.take_succ_cons, List.take_zero, Nat.le_refl, List.set_cons_zero, List.set_cons_succ, S_mem, lookR_cons, lookR_nil, Option.some.injEq, exists_eq_left', exists_eq_left, Option.map_some, eq_self, reduceCtorEq, and_self, evS_buildSlice, F_sl61, F_zero3, bsK_some, bsK2_some, bsParts_nil, bsParts_cons, newRow1, cellsOf_ag, cellsOf_agg, cellsOf_int, cellsOf_bool, cellsOf_slice, cellsOf_func, cellsOf_ref, cellsOf_sl, cell1s_nil, cell1s_cons, cell1_int, cell1_bool, cell1_slice, cell1_func, cell1_ref, cell1_sl, List.map_cons, List.map_nil, rg0, rg1, rg2, rg3, rg4, rg5, rg6, maxLen_le, Nat.reduceMul, evS_call, evC_append, F_by3, apD_some, apZ_some, apV_sl, apV_nil, apV_ref, apY_some, apN_some, apX_nil, apX_ref, apRow_some, apR_some, unE_map, unE_cons, unE_nil, unDs_cons, unDs_nil, Option.bind_some, F_off35_2, evS_assign, grow, len_map, aThen_normal, Th_exit, Th_ret, Bl_normal, Bl_ret, Bl_exit, Po_normal, Po_ret, Nat.reduceEqDiff, ↓reduceIte]
    have hm : pre.length + 1 ≤ 1000000 := by simp at hl; omega
    refine ⟨by rw [maxLen_le _ hm]; trivial, by omega, by rw [maxLen_le _ hm]; trivial, by omega, ?_⟩
    clear hm
    refine hK2 _ ?_; try clear hK2 K2
    refine awp_keepL [5, 6, 9, 10, 11] ?_
    simp only [keepL_cons, keepL_nil, look_cons, look_nil, Nat.reduceBEq, cond_true, cond_false]
    refine awp_plain F_mixed [some 25, some 11] rfl ?_
    simp only [evL_nil, evL_plain, nxS, nxS0, List.nil_append, List.cons_append, true_and, and_true, Gp_none, true_implies, S_const, Sk_const, S_tmp, Sk_tmp, Nat.reduceLT, Nat.reduceLeDiff, look_cons, look_nil, Nat.reduceBEq, cond_true, cond_false, ok_d, bare_d, ok_ref, bare_ref, ok_ptr, bare_ptr, ok_ag, bare_ag, implies_true, evS_binOp, binK_some, gr_v, b_add, pure_add, evS_move, aThen_normal, Th_exit, Th_ret, Bl_normal, Bl_ret, Bl_exit, Po_normal, Po_ret, Nat.reduceEqDiff, ↓reduceIte]
    refine ⟨post.length, _, by simp, le_SK (fun r => bif r == 5 then 19 else 24) [] rfl (l' := [(5, .ref 5 (pre ++ [x]).length), (6, .ref 6 (pre ++ [x]).length), (9, .d (poss (pre ++ x :: post))), (10, .d (iv (pre ++ x :: post).length)), (11, .d (iv (pre ++ [x]).length))]) (m' := [(5, grow 3 1 5 (((pre ++ [x]).map PosV.qty).map fun n => [iv n])), (6, grow 3 1 6 (((pre ++ [x]).map PosV.cost).map fun n => [iv n]))]) ?_ ?_ ?_ ?_, pre ++ [x], post, by simp, rfl, rfl⟩
    · simp only [leV, look_cons, Nat.reduceBEq, cond_true, cond_false, poss, len_map, wrap_len pre x (by simp at hl; omega)]
      refine ⟨?_, ?_, VLe.data_ _, VLe.data_ _, VLe.data_ _, trivial⟩
      · rw [show pre.length + 1 = (pre ++ [x]).length from by simp]; exact VLe.ref_ (f := fun r => bif r == 5 then 19 else 24) (r := 5) (by simp)
      · rw [show pre.length + 1 = (pre ++ [x]).length from by simp]; exact VLe.ref_ (f := fun r => bif r == 5 then 19 else 24) (r := 6) (by simp)
    · refine ⟨fun _ => ⟨_, rfl, RowLe.data_ (by simp)⟩, fun h => by simp at h, fun _ => ⟨_, rfl, RowLe.data_ (by simp)⟩, fun h => by simp at h, trivial⟩
    · simp [wfV, AV.ids, lookR, grow]
    · exact ⟨wf_data _ _, wf_data _ _, trivial⟩
  · intro hb
    obtain rfl := none_of hb; clear hb
    simp only [List.append_nil] at hl ⊢
    refine awp_exit ?_
    simp only [aThen_normal, Th_exit, Th_ret, Bl_normal, Bl_ret, Bl_exit, Po_normal, Po_ret, Nat.reduceEqDiff, ↓reduceIte]
    refine hK0 _ ?_; try clear hK0 K0
    refine awp_keepL [5, 6] ?_
    simp only [keepL_cons, keepL_nil, look_cons, look_nil, Nat.reduceBEq, cond_true, cond_false]
    refine awp_seq fun K0 hK0 => ?_
    refine awp_seq fun K1 hK1 => ?_
    refine awp_plain F_mixed [some 26, some 27, some 28, some 29, some 30, some 31, some 32, some 33] rfl ?_
    simp only [evL_nil, evL_plain, nxS, nxS0, List.nil_append, List.cons_append, true_and, and_true, Gp_none, true_implies, S_const, Sk_const, S_tmp, Sk_tmp, Nat.reduceLT, Nat.reduceLeDiff, look_cons, look_nil, Nat.reduceBEq, cond_true, cond_false, ok_d, bare_d, ok_ref, bare_ref, ok_ptr, bare_ptr, ok_ag, bare_ag, implies_true, evL_guard, evG_some, evGK_b, evGK_wh, nthD_cons, Nat.reduceSub, S_getD, nxSg, Gp_some, bare_wh, ok_wh, and_imp, imp_and, imp2, imp_self, and_self, evS_move, evS_call, evC_value, evS_unOp, unK_some, gr_v, u_not, pure_not, evS_pick, pickK_bool, bif_tt, bif_ff, ints, len_map, grow, aThen_normal, Th_exit, Th_ret, Bl_normal, Bl_ret, Bl_exit, Po_normal, Po_ret, Nat.reduceEqDiff, ↓reduceIte]
    refine call_go F_go23 (fun hG => Right_ (pre.map PosV.qty) (by simp; omega)) (by simp [AV.ids, AV.idsL]) (by simp) ?_
    simp only [evL_nil, evL_plain, nxS, nxS0, List.nil_append, List.cons_append, true_and, and_true, Gp_none, true_implies, S_const, Sk_const, S_tmp, Sk_tmp, Nat.reduceLT, Nat.reduceLeDiff, look_cons, look_nil, Nat.reduceBEq, cond_true, cond_false, ok_d, bare_d, ok_ref, bare_ref, ok_ptr, bare_ptr, ok_ag, bare_ag, implies_true, evL_guard, evG_some, evGK_b, evGK_wh, nthD_cons, Nat.reduceSub, S_getD, nxSg, Gp_some, bare_wh, ok_wh, and_imp, imp_and, imp2, imp_self, and_self, evS_move, evS_call, evC_value, evS_unOp, unK_some, gr_v, u_not, pure_not, evS_pick, pickK_bool, bif_tt, bif_ff, ints, len_map, grow, aThen_normal, Th_exit, Th_ret, Bl_normal, Bl_ret, Bl_exit, Po_normal, Po_ret, Nat.reduceEqDiff, ↓reduceIte, asDs_cons, asDs_nil, atsL, asD_self, asD_nil, asD_sl, asD_agg, asD_int, asD_bool, asD_func, asD_ag, asD_ref, asG_d, asG_ag, asG_ref, oksG, freeN, AV.ren, AV.renL, addRows, ORow.row, Nat.reduceMul, Nat.reduceAdd, unE_cons, unE_nil, unDs_cons, unDs_nil, unE_map, Option.bind_some, Option.map_some, forall_eq', D.sl.injEq, S_mem, Option.some.injEq, exists_eq_left', exists_eq_left, exists_eq', exists_eq, List.length_nil, List.length_cons, lookR_nil, lookR_cons, S_func, Sk_func]
    refine call_go F_go23 (fun hG => Right_ (pre.map PosV.cost) (by simp; omega)) (by simp [AV.ids, AV.idsL]) (by simp) ?_
    simp only [evL_nil, evL_plain, nxS, nxS0, List.nil_append, List.cons_append, true_and, and_true, Gp_none, true_implies, S_const, Sk_const, S_tmp, Sk_tmp, Nat.reduceLT, Nat.reduceLeDiff, look_cons, look_nil, Nat.reduceBEq, cond_true, cond_false, ok_d, bare_d, ok_ref, bare_ref, ok_ptr, bare_ptr, ok_ag, bare_ag, implies_true, evL_guard, evG_some, evGK_b, evGK_wh, nthD_cons, Nat.reduceSub, S_getD, nxSg, Gp_some, bare_wh, ok_wh, and_imp, imp_and, imp2, imp_self, and_self, evS_move, evS_call, evC_value, evS_unOp, unK_some, gr_v, u_not, pure_not, evS_pick, pickK_bool, bif_tt, bif_ff, ints, len_map, grow, aThen_normal, Th_exit, Th_ret, Bl_normal, Bl_ret, Bl_exit, Po_normal, Po_ret, Nat.reduceEqDiff, ↓reduceIte, asDs_cons, asDs_nil, atsL, asD_self, asD_nil, asD_sl, asD_agg, asD_int, asD_bool, asD_func, asD_ag, asD_ref, asG_d, asG_ag, asG_ref, oksG, freeN, AV.ren, AV.renL, addRows, ORow.row, Nat.reduceMul, Nat.reduceAdd, unE_cons, unE_nil, unDs_cons, unDs_nil, unE_map, Option.bind_some, Option.map_some, forall_eq', D.sl.injEq, S_mem, Option.some.injEq, exists_eq_left', exists_eq_left, exists_eq', exists_eq, List.length_nil, List.length_cons, lookR_nil, lookR_cons, S_func, Sk_func]
    refine hK1 _ ?_; try clear hK1 K1
    refine awp_keepL [5, 6, 33] ?_
    simp only [keepL_cons, keepL_nil, look_cons, look_nil, Nat.reduceBEq, cond_true, cond_false]
    refine awp_condS _ (by decide) (by simp only [look_cons, Nat.reduceBEq, cond_true, cond_false]; rfl) ?_ ?_
    · intro hb
      refine awp_seq fun K2 hK2 => ?_
      refine awp_plain F_mixed [some 2, some 3, some 4] rfl ?_
      simp only [evL_nil, evL_plain, nxS, nxS0, List.nil_append, List.cons_append, true_and, and_true, Gp_none, true_implies, S_const, Sk_const, S_tmp, Sk_tmp, Nat.reduceLT, Nat.reduceLeDiff, look_cons, look_nil, Nat.reduceBEq, cond_true, cond_false, ok_d, bare_d, ok_ref, bare_ref, ok_ptr, bare_ptr, ok_ag, bare_ag, implies_true, evS_assign, aThen_normal, Th_exit, Th_ret, Bl_normal, Bl_ret, Bl_exit, Po_normal, Po_ret, Nat.reduceEqDiff, ↓reduceIte]
      refine hK2 _ ?_; try clear hK2 K2
      refine awp_keepL [2, 3, 4] ?_
      simp only [keepL_cons, keepL_nil, look_cons, look_nil, Nat.reduceBEq, cond_true, cond_false]
      refine awp_ret ?_
      simp only [aThen_normal, Th_exit, Th_ret, Bl_normal, Bl_ret, Bl_exit, Po_normal, Po_ret, Nat.reduceEqDiff, ↓reduceIte]
      refine done0 (by simp only [resCs, resC]; trivial) ?_ (by simp [flatA, flatAs, flatD]) (by simp [AV.ids, AV.idsL])
      simp only [List.map_cons, List.map_nil, resA, S_getD, Nat.reduceLT, Nat.reduceLeDiff, look_cons, Nat.reduceBEq, cond_true, cond_false, resAll]
      rcases hA : (pre.map PosV.qty).all rightN <;> rcases hB : (pre.map PosV.cost).all rightN <;> simp [hA, hB, tsQ, tsC, tsE, tsA, tsB] at hb ⊢
    · intro hb
      have hall : (pre.map PosV.qty).all rightN = true ∧ (pre.map PosV.cost).all rightN = true := by simpa only [Bool.or_eq_false_iff, Bool.not_eq_false'] using hb
      clear hb
      obtain ⟨hA, hB⟩ := hall
      refine awp_skip ?_
      simp only [aThen_normal, Th_exit, Th_ret, Bl_normal, Bl_ret, Bl_exit, Po_normal, Po_ret, Nat.reduceEqDiff, ↓reduceIte]
      refine hK0 _ ?_; try clear hK0 K0
      refine awp_keepL [5, 6] ?_
      simp only [keepL_cons, keepL_nil, look_cons, look_nil, Nat.reduceBEq, cond_true, cond_false]
      refine awp_seq fun K0 hK0 => ?_
      refine awp_plain F_mixed [some 35, some 36, some 34, some 37, some 38, some 2, some 4] rfl ?_
      simp only [evL_nil, evL_plain, nxS, nxS0, List.nil_append, List.cons_append, true_and, and_true, Gp_none, true_implies, S_const, Sk_const, S_tmp, Sk_tmp, Nat.reduceLT, Nat.reduceLeDiff, look_cons, look_nil, Nat.reduceBEq, cond_true, cond_false, ok_d, bare_d, ok_ref, bare_ref, ok_ptr, bare_ptr, ok_ag, bare_ag, implies_true, evS_move, evS_call, evC_value, evS_extract, exK_tp, bare_tp, ok_tp, List.length_cons, List.length_nil, Nat.reduceAdd, Nat.zero_add, List.getD_cons_zero, List.getD_cons_succ, evS_assign, ints, len_map, grow, aThen_normal, Th_exit, Th_ret, Bl_normal, Bl_ret, Bl_exit, Po_normal, Po_ret, Nat.reduceEqDiff, ↓reduceIte]
      refine call_go F_go24 (fun hG => Sum_ (pre.map PosV.qty) (by simp; omega)) (by simp [AV.ids, AV.idsL]) (by simp) ?_
      simp only [evL_nil, evL_plain, nxS, nxS0, List.nil_append, List.cons_append, true_and, and_true, Gp_none, true_implies, S_const, Sk_const, S_tmp, Sk_tmp, Nat.reduceLT, Nat.reduceLeDiff, look_cons, look_nil, Nat.reduceBEq, cond_true, cond_false, ok_d, bare_d, ok_ref, bare_ref, ok_ptr, bare_ptr, ok_ag, bare_ag, implies_true, evS_move, evS_call, evC_value, evS_extract, exK_tp, bare_tp, ok_tp, List.length_cons, List.length_nil, Nat.reduceAdd, Nat.zero_add, List.getD_cons_zero, List.getD_cons_succ, evS_assign, ints, len_map, grow, aThen_normal, Th_exit, Th_ret, Bl_normal, Bl_ret, Bl_exit, Po_normal, Po_ret, Nat.reduceEqDiff, ↓reduceIte, asDs_cons, asDs_nil, atsL, asD_self, asD_nil, asD_sl, asD_agg, asD_int, asD_bool, asD_func, asD_ag, asD_ref, asG_d, asG_ag, asG_ref, oksG, freeN, AV.ren, AV.renL, addRows, ORow.row, Nat.reduceMul, Nat.reduceAdd, unE_cons, unE_nil, unDs_cons, unDs_nil, unE_map, Option.bind_some, Option.map_some, forall_eq', D.sl.injEq, S_mem, Option.some.injEq, exists_eq_left', exists_eq_left, exists_eq', exists_eq, List.length_nil, List.length_cons, lookR_nil, lookR_cons, S_func, Sk_func]
      refine hK0 _ ?_; try clear hK0 K0
      refine awp_keepL [2, 4, 6] ?_
      simp only [keepL_cons, keepL_nil, look_cons, look_nil, Nat.reduceBEq, cond_true, cond_false]
      refine awp_seq fun K0 hK0 => ?_
      refine awp_seq fun K1 hK1 => ?_
      refine awp_plain F_mixed [some 39, some 40] rfl ?_
      simp only [evL_nil, evL_plain, nxS, nxS0, List.nil_append, List.cons_append, true_and, and_true, Gp_none, true_implies, S_const, Sk_const, S_tmp, Sk_tmp, Nat.reduceLT, Nat.reduceLeDiff, look_cons, look_nil, Nat.reduceBEq, cond_true, cond_false, ok_d, bare_d, ok_ref, bare_ref, ok_ptr, bare_ptr, ok_ag, bare_ag, implies_true, evS_move, evS_binOp, binK_some, gr_v, b_neq, pure_neq, aThen_normal, Th_exit, Th_ret, Bl_normal, Bl_ret, Bl_exit, Po_normal, Po_ret, Nat.reduceEqDiff, ↓reduceIte]
      refine hK1 _ ?_; try clear hK1 K1
      refine awp_keepL [2, 4, 6, 40] ?_
      simp only [keepL_cons, keepL_nil, look_cons, look_nil, Nat.reduceBEq, cond_true, cond_false]
      refine awp_condS _ (by decide) (by simp only [look_cons, Nat.reduceBEq, cond_true, cond_false]; rfl) ?_ ?_
      · intro hb
        refine awp_seq fun K2 hK2 => ?_
        refine awp_plain F_mixed [some 41, some 2, some 3, some 4] rfl ?_
        simp only [evL_nil, evL_plain, nxS, nxS0, List.nil_append, List.cons_append, true_and, and_true, Gp_none, true_implies, S_const, Sk_const, S_tmp, Sk_tmp, Nat.reduceLT, Nat.reduceLeDiff, look_cons, look_nil, Nat.reduceBEq, cond_true, cond_false, ok_d, bare_d, ok_ref, bare_ref, ok_ptr, bare_ptr, ok_ag, bare_ag, implies_true, evS_move, evS_assign, aThen_normal, Th_exit, Th_ret, Bl_normal, Bl_ret, Bl_exit, Po_normal, Po_ret, Nat.reduceEqDiff, ↓reduceIte]
        refine hK2 _ ?_; try clear hK2 K2
        refine awp_keepL [2, 3, 4] ?_
        simp only [keepL_cons, keepL_nil, look_cons, look_nil, Nat.reduceBEq, cond_true, cond_false]
        refine awp_ret ?_
        simp only [aThen_normal, Th_exit, Th_ret, Bl_normal, Bl_ret, Bl_exit, Po_normal, Po_ret, Nat.reduceEqDiff, ↓reduceIte]
        refine done0 (by simp only [resCs, resC]; trivial) ?_ (by simp [flatA, flatAs, flatD]) (by simp [AV.ids, AV.idsL])
        simp only [List.map_cons, List.map_nil, resA, S_getD, Nat.reduceLT, Nat.reduceLeDiff, look_cons, Nat.reduceBEq, cond_true, cond_false, resAll]
        rcases hq : rightN (pre.map PosV.qty).sum <;> simp [hA, hB, hq, sumE, tsQ, tsC, tsE, tsA, tsB] at hb ⊢
      · intro hb
        have hq : rightN (pre.map PosV.qty).sum = true := by
          rcases hq : rightN (pre.map PosV.qty).sum
          · simp [hA, hq, sumE] at hb
          · rfl
        clear hb
        refine awp_skip ?_
        simp only [aThen_normal, Th_exit, Th_ret, Bl_normal, Bl_ret, Bl_exit, Po_normal, Po_ret, Nat.reduceEqDiff, ↓reduceIte]
        refine hK0 _ ?_; try clear hK0 K0
        refine awp_keepL [2, 6] ?_
        simp only [keepL_cons, keepL_nil, look_cons, look_nil, Nat.reduceBEq, cond_true, cond_false]
        refine awp_seq fun K0 hK0 => ?_
        refine awp_plain F_mixed [some 43, some 44, some 42, some 45, some 46, some 3, some 4] rfl ?_
        simp only [evL_nil, evL_plain, nxS, nxS0, List.nil_append, List.cons_append, true_and, and_true, Gp_none, true_implies, S_const, Sk_const, S_tmp, Sk_tmp, Nat.reduceLT, Nat.reduceLeDiff, look_cons, look_nil, Nat.reduceBEq, cond_true, cond_false, ok_d, bare_d, ok_ref, bare_ref, ok_ptr, bare_ptr, ok_ag, bare_ag, implies_true, evS_move, evS_call, evC_value, evS_extract, exK_tp, bare_tp, ok_tp, List.length_cons, List.length_nil, Nat.reduceAdd, Nat.zero_add, List.getD_cons_zero, List.getD_cons_succ, evS_assign, ints, len_map, grow, aThen_normal, Th_exit, Th_ret, Bl_normal, Bl_ret, Bl_exit, Po_normal, Po_ret, Nat.reduceEqDiff, ↓reduceIte]
        refine call_go F_go24 (fun hG => Sum_ (pre.map PosV.cost) (by simp; omega)) (by simp [AV.ids, AV.idsL]) (by simp) ?_
        simp only [evL_nil, evL_plain, nxS, nxS0, List.nil_append, List.cons_append, true_and, and_true, Gp_none, true_implies, S_const, Sk_const, S_tmp, Sk_tmp, Nat.reduceLT, Nat.reduceLeDiff, look_cons, look_nil, Nat.reduceBEq, cond_true, cond_false, ok_d, bare_d, ok_ref, bare_ref, ok_ptr, bare_ptr, ok_ag, bare_ag, implies_true, evS_move, evS_call, evC_value, evS_extract, exK_tp, bare_tp, ok_tp, List.length_cons, List.length_nil, Nat.reduceAdd, Nat.zero_add, List.getD_cons_zero, List.getD_cons_succ, evS_assign, ints, len_map, grow, aThen_normal, Th_exit, Th_ret, Bl_normal, Bl_ret, Bl_exit, Po_normal, Po_ret, Nat.reduceEqDiff, ↓reduceIte, asDs_cons, asDs_nil, atsL, asD_self, asD_nil, asD_sl, asD_agg, asD_int, asD_bool, asD_func, asD_ag, asD_ref, asG_d, asG_ag, asG_ref, oksG, freeN, AV.ren, AV.renL, addRows, ORow.row, Nat.reduceMul, Nat.reduceAdd, unE_cons, unE_nil, unDs_cons, unDs_nil, unE_map, Option.bind_some, Option.map_some, forall_eq', D.sl.injEq, S_mem, Option.some.injEq, exists_eq_left', exists_eq_left, exists_eq', exists_eq, List.length_nil, List.length_cons, lookR_nil, lookR_cons, S_func, Sk_func]
        refine hK0 _ ?_; try clear hK0 K0
        refine awp_keepL [2, 3, 4] ?_
        simp only [keepL_cons, keepL_nil, look_cons, look_nil, Nat.reduceBEq, cond_true, cond_false]
        refine awp_seq fun K0 hK0 => ?_
        refine awp_seq fun K1 hK1 => ?_
        refine awp_plain F_mixed [some 47, some 48] rfl ?_
        simp only [evL_nil, evL_plain, nxS, nxS0, List.nil_append, List.cons_append, true_and, and_true, Gp_none, true_implies, S_const, Sk_const, S_tmp, Sk_tmp, Nat.reduceLT, Nat.reduceLeDiff, look_cons, look_nil, Nat.reduceBEq, cond_true, cond_false, ok_d, bare_d, ok_ref, bare_ref, ok_ptr, bare_ptr, ok_ag, bare_ag, implies_true, evS_move, evS_binOp, binK_some, gr_v, b_neq, pure_neq, aThen_normal, Th_exit, Th_ret, Bl_normal, Bl_ret, Bl_exit, Po_normal, Po_ret, Nat.reduceEqDiff, ↓reduceIte]
        refine hK1 _ ?_; try clear hK1 K1
        refine awp_keepL [2, 3, 4, 48] ?_
        simp only [keepL_cons, keepL_nil, look_cons, look_nil, Nat.reduceBEq, cond_true, cond_false]
        refine awp_condS _ (by decide) (by simp only [look_cons, Nat.reduceBEq, cond_true, cond_false]; rfl) ?_ ?_
        · intro hb
          refine awp_seq fun K2 hK2 => ?_
          refine awp_plain F_mixed [some 49, some 2, some 3, some 4] rfl ?_
          simp only [evL_nil, evL_plain, nxS, nxS0, List.nil_append, List.cons_append, true_and, and_true, Gp_none, true_implies, S_const, Sk_const, S_tmp, Sk_tmp, Nat.reduceLT, Nat.reduceLeDiff, look_cons, look_nil, Nat.reduceBEq, cond_true, cond_false, ok_d, bare_d, ok_ref, bare_ref, ok_ptr, bare_ptr, ok_ag, bare_ag, implies_true, evS_move, evS_assign, aThen_normal, Th_exit, Th_ret, Bl_normal, Bl_ret, Bl_exit, Po_normal, Po_ret, Nat.reduceEqDiff, ↓reduceIte]
          refine hK2 _ ?_; try clear hK2 K2
          refine awp_keepL [2, 3, 4] ?_
          simp only [keepL_cons, keepL_nil, look_cons, look_nil, Nat.reduceBEq, cond_true, cond_false]
          refine awp_ret ?_
          simp only [aThen_normal, Th_exit, Th_ret, Bl_normal, Bl_ret, Bl_exit, Po_normal, Po_ret, Nat.reduceEqDiff, ↓reduceIte]
          refine done0 (by simp only [resCs, resC]; trivial) ?_ (by simp [flatA, flatAs, flatD]) (by simp [AV.ids, AV.idsL])
          simp only [List.map_cons, List.map_nil, resA, S_getD, Nat.reduceLT, Nat.reduceLeDiff, look_cons, Nat.reduceBEq, cond_true, cond_false, resAll]
          rcases hc : rightN (pre.map PosV.cost).sum <;> simp [hA, hB, hq, hc, sumE, tsQ, tsC, tsE, tsA, tsB] at hb ⊢
        · intro hb
          have hc : rightN (pre.map PosV.cost).sum = true := by
            rcases hc : rightN (pre.map PosV.cost).sum
            · simp [hB, hc, sumE] at hb
            · rfl
          clear hb
          refine awp_skip ?_
          simp only [aThen_normal, Th_exit, Th_ret, Bl_normal, Bl_ret, Bl_exit, Po_normal, Po_ret, Nat.reduceEqDiff, ↓reduceIte]
          refine hK0 _ ?_; try clear hK0 K0
          refine awp_keepL [2, 3] ?_
          simp only [keepL_cons, keepL_nil, look_cons, look_nil, Nat.reduceBEq, cond_true, cond_false]
          refine awp_seq fun K0 hK0 => ?_
          refine awp_plain F_mixed [some 50, some 51, some 2, some 3, some 4] rfl ?_
          simp only [evL_nil, evL_plain, nxS, nxS0, List.nil_append, List.cons_append, true_and, and_true, Gp_none, true_implies, S_const, Sk_const, S_tmp, Sk_tmp, Nat.reduceLT, Nat.reduceLeDiff, look_cons, look_nil, Nat.reduceBEq, cond_true, cond_false, ok_d, bare_d, ok_ref, bare_ref, ok_ptr, bare_ptr, ok_ag, bare_ag, implies_true, evS_move, evS_assign, aThen_normal, Th_exit, Th_ret, Bl_normal, Bl_ret, Bl_exit, Po_normal, Po_ret, Nat.reduceEqDiff, ↓reduceIte]
          refine hK0 _ ?_; try clear hK0 K0
          refine awp_keepL [2, 3, 4] ?_
          simp only [keepL_cons, keepL_nil, look_cons, look_nil, Nat.reduceBEq, cond_true, cond_false]
          refine awp_ret ?_
          simp only [aThen_normal, Th_exit, Th_ret, Bl_normal, Bl_ret, Bl_exit, Po_normal, Po_ret, Nat.reduceEqDiff, ↓reduceIte]
          refine done0 (by simp only [resCs, resC]; trivial) ?_ (by simp [flatA, flatAs, flatD]) (by simp [AV.ids, AV.idsL])
          simp only [List.map_cons, List.map_nil, resA, S_getD, Nat.reduceLT, Nat.reduceLeDiff, look_cons, Nat.reduceBEq, cond_true, cond_false, resAll]
          simp [hA, hB, hq, hc, sumV, tsQ, tsC, tsE, tsA, tsB]
set_option maxRecDepth 100000 in
set_option maxHeartbeats 4000000 in
theorem rSum_ (l : List PosV) (hl : l.length ≤ 1000000) : ACalls Try.prog 9 [poss l] [] (.tp [.d (iv (tsQ l)), .d (iv (tsC l)), .d (iv (tsE l))]) := by
  refine acalls_S (rs := [.tmp 2, .tmp 3, .tmp 4]) Try.func9 rfl rfl 68 [(0, .d (poss l))] rfl (by simp) rfl ?_
  refine awp_seq fun K0 hK0 => ?_
  refine awp_plain F_mixed [some 2, some 3, some 4] rfl ?_
  simp only [evL_nil, evL_plain, nxS, nxS0, List.nil_append, List.cons_append, true_and, and_true, Gp_none, true_implies, S_const, Sk_const, S_tmp, Sk_tmp, Nat.reduceLT, Nat.reduceLeDiff, look_cons, look_nil, Nat.reduceBEq, cond_true, cond_false, ok_d, bare_d, ok_ref, bare_ref, ok_ptr, bare_ptr, ok_ag, bare_ag, implies_true, evS_assign, aThen_normal, Th_exit, Th_ret, Bl_normal, Bl_ret, Bl_exit, Po_normal, Po_ret, Nat.reduceEqDiff, ↓reduceIte]
  refine hK0 _ ?_; try clear hK0 K0
  refine awp_keepL [0] ?_
  simp only [keepL_cons, keepL_nil, look_cons, look_nil, Nat.reduceBEq, cond_true, cond_false]
  refine awp_seq fun K0 hK0 => ?_
  refine awp_plain F_mixed [some 5, some 6] rfl ?_
  simp only [evL_nil, evL_plain, nxS, nxS0, List.nil_append, List.cons_append, true_and, and_true, Gp_none, true_implies, S_const, Sk_const, S_tmp, Sk_tmp, Nat.reduceLT, Nat.reduceLeDiff, look_cons, look_nil, Nat.reduceBEq, cond_true, cond_false, ok_d, bare_d, ok_ref, bare_ref, ok_ptr, bare_ptr, ok_ag, bare_ag, implies_true, evS_assign, aThen_normal, Th_exit, Th_ret, Bl_normal, Bl_ret, Bl_exit, Po_normal, Po_ret, Nat.reduceEqDiff, ↓reduceIte]
  refine hK0 _ ?_; try clear hK0 K0
  refine awp_keepL [0, 5, 6] ?_
  simp only [keepL_cons, keepL_nil, look_cons, look_nil, Nat.reduceBEq, cond_true, cond_false]
  refine awp_seq fun K0 hK0 => ?_
  refine awp_seq fun K1 hK1 => ?_
  refine awp_plain F_mixed [some 7] rfl ?_
  simp only [evL_nil, evL_plain, nxS, nxS0, List.nil_append, List.cons_append, true_and, and_true, Gp_none, true_implies, S_const, Sk_const, S_tmp, Sk_tmp, Nat.reduceLT, Nat.reduceLeDiff, look_cons, look_nil, Nat.reduceBEq, cond_true, cond_false, ok_d, bare_d, ok_ref, bare_ref, ok_ptr, bare_ptr, ok_ag, bare_ag, implies_true, evS_assign, aThen_normal, Th_exit, Th_ret, Bl_normal, Bl_ret, Bl_exit, Po_normal, Po_ret, Nat.reduceEqDiff, ↓reduceIte]
  refine hK1 _ ?_; try clear hK1 K1
  refine awp_keepL [0, 5, 6, 7] ?_
  simp only [keepL_cons, keepL_nil, look_cons, look_nil, Nat.reduceBEq, cond_true, cond_false]
  refine awp_block ?_
  refine awp_loop (fun m s => ∃ pre post : List PosV, l = pre ++ post ∧ (pre.map PosV.qty).all rightN = true ∧ (pre.map PosV.cost).all rightN = true ∧ m = post.length ∧ s = S 68 [(0, .d (poss l)), (5, .ref 5 pre.length), (6, .ref 6 pre.length), (7, .d (iv pre.length))] [(5, grow 3 1 5 ((pre.map PosV.qty).map fun n => [iv n])), (6, grow 3 1 6 ((pre.map PosV.cost).map fun n => [iv n]))]) l.length _ (le_SK id [5, 6] rfl (l' := [(0, .d (poss l)), (5, .ref 5 ([] : List PosV).length), (6, .ref 6 ([] : List PosV).length), (7, .d (iv ([] : List PosV).length))]) (m' := [(5, grow 3 1 5 ((([] : List PosV).map PosV.qty).map fun n => [iv n])), (6, grow 3 1 6 ((([] : List PosV).map PosV.cost).map fun n => [iv n]))]) ?_ ?_ ?_ ?_) ⟨[], l, rfl, rfl, rfl, rfl, rfl⟩ ?_
  · simp only [leV, look_cons, Nat.reduceBEq, cond_true, cond_false]; exact ⟨VLe.data_ _, VLe.nil_ (by decide), VLe.nil_ (by decide), VLe.data_ _, trivial⟩
  · simp [leR, grow]
  · simp [wfV, AV.ids, lookR]
  · simp [wfR, grow]
  rintro m s ⟨pre, post, rfl, hA, hB, rfl, rfl⟩
  refine awp_seq fun K2 hK2 => ?_
  refine awp_seq fun K3 hK3 => ?_
  refine awp_plain F_mixed [some 12, some 13, some 14, some 15] rfl ?_
  simp only [evL_nil, evL_plain, nxS, nxS0, List.nil_append, List.cons_append, true_and, and_true, Gp_none, true_implies, S_const, Sk_const, S_tmp, Sk_tmp, Nat.reduceLT, Nat.reduceLeDiff, look_cons, look_nil, Nat.reduceBEq, cond_true, cond_false, ok_d, bare_d, ok_ref, bare_ref, ok_ptr, bare_ptr, ok_ag, bare_ag, implies_true, evS_move, evS_call, evC_len, F_sl22, Option.isSome_some, lenK_sl, lenK_nil, lenK_ref, evS_binOp, binK_some, gr_v, b_lss, pure_lss, poss, len_map, aThen_normal, Th_exit, Th_ret, Bl_normal, Bl_ret, Bl_exit, Po_normal, Po_ret, Nat.reduceEqDiff, ↓reduceIte]
  refine hK3 _ ?_; try clear hK3 K3
  refine awp_keepL [0, 5, 6, 7, 15] ?_
  simp only [keepL_cons, keepL_nil, look_cons, look_nil, Nat.reduceBEq, cond_true, cond_false]
  refine awp_condS _ (by decide) (by simp only [look_cons, Nat.reduceBEq, cond_true, cond_false]; rfl) ?_ ?_
  · intro hb
    obtain ⟨x, post, rfl⟩ := more_of hb; clear hb
    refine awp_skip ?_
    simp only [aThen_normal, Th_exit, Th_ret, Bl_normal, Bl_ret, Bl_exit, Po_normal, Po_ret, Nat.reduceEqDiff, ↓reduceIte]
    refine hK2 _ ?_; try clear hK2 K2
    refine awp_keepL [0, 5, 6, 7] ?_
    simp only [keepL_cons, keepL_nil, look_cons, look_nil, Nat.reduceBEq, cond_true, cond_false]
    refine awp_seq fun K2 hK2 => ?_
    refine awp_block ?_
    refine awp_seq fun K3 hK3 => ?_
    refine awp_seq fun K4 hK4 => ?_
    refine awp_plain F_mixed [some 18, some 19, some 20, some 21, some 22, some 23, some 24, some 25, some 26, some 27, some 28, some 29, some 30, some 31, some 32, some 33] rfl ?_
    simp only [evL_nil, evL_plain, nxS, nxS0, List.nil_append, List.cons_append, true_and, and_true, Gp_none, true_implies, S_const, Sk_const, S_tmp, Sk_tmp, Nat.reduceLT, Nat.reduceLeDiff, look_cons, look_nil, Nat.reduceBEq, cond_true, cond_false, ok_d, bare_d, ok_ref, bare_ref, ok_ptr, bare_ptr, ok_ag, bare_ag, implies_true, evL_guard, evG_some, evGK_b, evGK_wh, nthD_cons, Nat.reduceSub, S_getD, nxSg, Gp_some, bare_wh, ok_wh, and_imp, imp_and, imp2, imp_self, and_self, evS_move, evS_indexAddr, bare_ep, ok_ep, evIx_sl, evIx_ref, F_sl22, F_sz35, Option.map_some, S_mem, lookR_cons, lookR_nil, Option.some.injEq, exists_eq_left', exists_eq_left, eq_self, reduceCtorEq, evS_fieldAddr, faK_ptr, faK_ep, F_off35_1, List.drop_succ_cons, List.drop_zero, Nat.zero_add, Nat.reduceAdd, evS_load, F_ok3, F_ag3, F_sz3, evLd_ptr, ldR_agg, ldR_one, evLd_ep_agg, evLd_ep_one, List.length_cons, List.length_nil, List.getD_cons_zero, List.getD_cons_succ, List.take_succ_cons, List.take_zero, Nat.le_refl, List.set_cons_zero, List.set_cons_succ, evS_call, evC_value, evS_unOp, unK_some, gr_v, u_not, pure_not, F_off35_2, evS_pick, pickK_bool, bif_tt, bif_ff, poss, posC, getD_mid, len_map, lt_mid, ge_mid, aThen_normal, Th_exit, Th_ret, Bl_normal, Bl_ret, Bl_exit, Po_normal, Po_ret, Nat.reduceEqDiff, ↓reduceIte]
    refine call_go F_go25 (fun hG => rRight_ x.qty) (by simp [AV.ids, AV.idsL]) (by simp) ?_
    simp only [evL_nil, evL_plain, nxS, nxS0, List.nil_append, List.cons_append, true_and, and_true, Gp_none, true_implies, S_const, Sk_const, S_tmp, Sk_tmp, Nat.reduceLT, Nat.reduceLeDiff, look_cons, look_nil, Nat.reduceBEq, cond_true, cond_false, ok_d, bare_d, ok_ref, bare_ref, ok_ptr, bare_ptr, ok_ag, bare_ag, implies_true, evL_guard, evG_some, evGK_b, evGK_wh, nthD_cons, Nat.reduceSub, S_getD, nxSg, Gp_some, bare_wh, ok_wh, and_imp, imp_and, imp2, imp_self, and_self, evS_move, evS_indexAddr, bare_ep, ok_ep, evIx_sl, evIx_ref, F_sl22, F_sz35, Option.map_some, S_mem, lookR_cons, lookR_nil, Option.some.injEq, exists_eq_left', exists_eq_left, eq_self, reduceCtorEq, evS_fieldAddr, faK_ptr, faK_ep, F_off35_1, List.drop_succ_cons, List.drop_zero, Nat.zero_add, Nat.reduceAdd, evS_load, F_ok3, F_ag3, F_sz3, evLd_ptr, ldR_agg, ldR_one, evLd_ep_agg, evLd_ep_one, List.length_cons, List.length_nil, List.getD_cons_zero, List.getD_cons_succ, List.take_succ_cons, List.take_zero, Nat.le_refl, List.set_cons_zero, List.set_cons_succ, evS_call, evC_value, evS_unOp, unK_some, gr_v, u_not, pure_not, F_off35_2, evS_pick, pickK_bool, bif_tt, bif_ff, poss, posC, getD_mid, len_map, lt_mid, ge_mid, aThen_normal, Th_exit, Th_ret, Bl_normal, Bl_ret, Bl_exit, Po_normal, Po_ret, Nat.reduceEqDiff, ↓reduceIte, asDs_cons, asDs_nil, atsL, asD_self, asD_nil, asD_sl, asD_agg, asD_int, asD_bool, asD_func, asD_ag, asD_ref, asG_d, asG_ag, asG_ref, oksG, freeN, AV.ren, AV.renL, addRows, ORow.row, Nat.reduceMul, Nat.reduceAdd, unE_cons, unE_nil, unDs_cons, unDs_nil, unE_map, Option.bind_some, Option.map_some, forall_eq', D.sl.injEq, S_mem, Option.some.injEq, exists_eq_left', exists_eq_left, exists_eq', exists_eq, List.length_nil, List.length_cons, lookR_nil, lookR_cons, S_func, Sk_func]
    refine call_go F_go25 (fun hG => rRight_ x.cost) (by simp [AV.ids, AV.idsL]) (by simp) ?_
    simp only [evL_nil, evL_plain, nxS, nxS0, List.nil_append, List.cons_append, true_and, and_true, Gp_none, true_implies, S_const, Sk_const, S_tmp, Sk_tmp, Nat.reduceLT, Nat.reduceLeDiff, look_cons, look_nil, Nat.reduceBEq, cond_true, cond_false, ok_d, bare_d, ok_ref, bare_ref, ok_ptr, bare_ptr, ok_ag, bare_ag, implies_true, evL_guard, evG_some, evGK_b, evGK_wh, nthD_cons, Nat.reduceSub, S_getD, nxSg, Gp_some, bare_wh, ok_wh, and_imp, imp_and, imp2, imp_self, and_self, evS_move, evS_indexAddr, bare_ep, ok_ep, evIx_sl, evIx_ref, F_sl22, F_sz35, Option.map_some, S_mem, lookR_cons, lookR_nil, Option.some.injEq, exists_eq_left', exists_eq_left, eq_self, reduceCtorEq, evS_fieldAddr, faK_ptr, faK_ep, F_off35_1, List.drop_succ_cons, List.drop_zero, Nat.zero_add, Nat.reduceAdd, evS_load, F_ok3, F_ag3, F_sz3, evLd_ptr, ldR_agg, ldR_one, evLd_ep_agg, evLd_ep_one, List.length_cons, List.length_nil, List.getD_cons_zero, List.getD_cons_succ, List.take_succ_cons, List.take_zero, Nat.le_refl, List.set_cons_zero, List.set_cons_succ, evS_call, evC_value, evS_unOp, unK_some, gr_v, u_not, pure_not, F_off35_2, evS_pick, pickK_bool, bif_tt, bif_ff, poss, posC, getD_mid, len_map, lt_mid, ge_mid, aThen_normal, Th_exit, Th_ret, Bl_normal, Bl_ret, Bl_exit, Po_normal, Po_ret, Nat.reduceEqDiff, ↓reduceIte, asDs_cons, asDs_nil, atsL, asD_self, asD_nil, asD_sl, asD_agg, asD_int, asD_bool, asD_func, asD_ag, asD_ref, asG_d, asG_ag, asG_ref, oksG, freeN, AV.ren, AV.renL, addRows, ORow.row, Nat.reduceMul, Nat.reduceAdd, unE_cons, unE_nil, unDs_cons, unDs_nil, unE_map, Option.bind_some, Option.map_some, forall_eq', D.sl.injEq, S_mem, Option.some.injEq, exists_eq_left', exists_eq_left, exists_eq', exists_eq, List.length_nil, List.length_cons, lookR_nil, lookR_cons, S_func, Sk_func]
    refine hK4 _ ?_; try clear hK4 K4
    refine awp_keepL [0, 5, 6, 7, 33] ?_
    simp only [keepL_cons, keepL_nil, look_cons, look_nil, Nat.reduceBEq, cond_true, cond_false]
    refine awp_condS _ (by decide) (by simp only [look_cons, Nat.reduceBEq, cond_true, cond_false]; rfl) ?_ ?_
    · intro hb
      refine awp_seq fun K5 hK5 => ?_
      refine awp_plain F_mixed [some 2, some 3, some 4] rfl ?_
      simp only [evL_nil, evL_plain, nxS, nxS0, List.nil_append, List.cons_append, true_and, and_true, Gp_none, true_implies, S_const, Sk_const, S_tmp, Sk_tmp, Nat.reduceLT, Nat.reduceLeDiff, look_cons, look_nil, Nat.reduceBEq, cond_true, cond_false, ok_d, bare_d, ok_ref, bare_ref, ok_ptr, bare_ptr, ok_ag, bare_ag, implies_true, evS_assign, aThen_normal, Th_exit, Th_ret, Bl_normal, Bl_ret, Bl_exit, Po_normal, Po_ret, Nat.reduceEqDiff, ↓reduceIte]
      refine hK5 _ ?_; try clear hK5 K5
      refine awp_keepL [2, 3, 4] ?_
      simp only [keepL_cons, keepL_nil, look_cons, look_nil, Nat.reduceBEq, cond_true, cond_false]
      refine awp_ret ?_
      simp only [aThen_normal, Th_exit, Th_ret, Bl_normal, Bl_ret, Bl_exit, Po_normal, Po_ret, Nat.reduceEqDiff, ↓reduceIte]
      refine done0 (by simp only [resCs, resC]; trivial) ?_ (by simp [flatA, flatAs, flatD]) (by simp [AV.ids, AV.idsL])
      simp only [List.map_cons, List.map_nil, resA, S_getD, Nat.reduceLT, Nat.reduceLeDiff, look_cons, Nat.reduceBEq, cond_true, cond_false, resAll]
      rcases hq : rightN x.qty <;> rcases hc : rightN x.cost <;> simp [hq, hc, tsQ, tsC, tsE, tsA, tsB] at hb ⊢
    · intro hb
      have hq : rightN x.qty = true ∧ rightN x.cost = true := by simpa only [Bool.or_eq_false_iff, Bool.not_eq_false'] using hb
      clear hb
      refine awp_skip ?_
      simp only [aThen_normal, Th_exit, Th_ret, Bl_normal, Bl_ret, Bl_exit, Po_normal, Po_ret, Nat.reduceEqDiff, ↓reduceIte]
      refine hK3 _ ?_; try clear hK3 K3
      refine awp_keepL [0, 5, 6, 7] ?_
      simp only [keepL_cons, keepL_nil, look_cons, look_nil, Nat.reduceBEq, cond_true, cond_false]
      refine awp_seq fun K3 hK3 => ?_
      refine awp_plain F_mixed [some 34, some 35, some 36, some 37, some 38, some 39, some 40, some 41, some 5] rfl ?_
      simp only [evL_nil, evL_plain, nxS, nxS0, List.nil_append, List.cons_append, true_and, and_true, Gp_none, true_implies, S_const, Sk_const, S_tmp, Sk_tmp, Nat.reduceLT, Nat.reduceLeDiff, look_cons, look_nil, Nat.reduceBEq, cond_true, cond_false, ok_d, bare_d, ok_ref, bare_ref, ok_ptr, bare_ptr, ok_ag, bare_ag, implies_true, evS_move, evS_indexAddr, bare_ep, ok_ep, evIx_sl, evIx_ref, F_sl22, F_sz35, Option.map_some, S_mem, lookR_cons, lookR_nil, Option.some.injEq, exists_eq_left', exists_eq_left, eq_self, reduceCtorEq, and_self, evS_fieldAddr, faK_ptr, faK_ep, F_off35_1, List.drop_succ_cons, List.drop_zero, Nat.zero_add, Nat.reduceAdd, evS_load, F_ok3, F_ag3, F_sz3, evLd_ptr, ldR_agg, ldR_one, evLd_ep_agg, evLd_ep_one, List.length_cons, List.length_nil, List.getD_cons_zero, List.getD_cons_succ, List.take_succ_cons, List.take_zero, Nat.le_refl, List.set_cons_zero, List.set_cons_succ, evS_buildSlice, F_sl61, F_zero3, bsK_some, bsK2_some, bsParts_nil, bsParts_cons, newRow1, cellsOf_ag, cellsOf_agg, cellsOf_int, cellsOf_bool, cellsOf_slice, cellsOf_func, cellsOf_ref, cellsOf_sl, cell1s_nil, cell1s_cons, cell1_int, cell1_bool, cell1_slice, cell1_func, cell1_ref, cell1_sl, List.map_cons, List.map_nil, rg0, rg1, rg2, rg3, rg4, rg5, rg6, maxLen_le, Nat.reduceMul, evS_call, evC_append, F_by3, apD_some, apZ_some, apV_sl, apV_nil, apV_ref, apY_some, apN_some, apX_nil, apX_ref, apRow_some, apR_some, unE_map, unE_cons, unE_nil, unDs_cons, unDs_nil, Option.bind_some, evS_assign, poss, posC, getD_mid, len_map, lt_mid, ge_mid, grow, aThen_normal, Th_exit, Th_ret, Bl_normal, Bl_ret, Bl_exit, Po_normal, Po_ret, Nat.reduceEqDiff, ↓reduceIte]
      have hm : pre.length + 1 ≤ 1000000 := by simp at hl; omega
      refine ⟨by rw [maxLen_le _ hm]; trivial, by omega, ?_⟩
      clear hm
      refine hK3 _ ?_; try clear hK3 K3
      refine awp_keepL [0, 5, 6, 7] ?_
      simp only [keepL_cons, keepL_nil, look_cons, look_nil, Nat.reduceBEq, cond_true, cond_false]
      refine awp_plain F_mixed [some 42, some 43, some 44, some 45, some 46, some 47, some 48, some 49, some 6] rfl ?_
      simp only [evL_nil, evL_plain, nxS, nxS0, List.nil_append, List.cons_append, true_and, and_true, Gp_none, true_implies, S_const, Sk_const, S_tmp, Sk_tmp, Nat.reduceLT, Nat.reduceLeDiff, look_cons, look_nil, Nat.reduceBEq, cond_true, cond_false, ok_d, bare_d, ok_ref, bare_ref, ok_ptr, bare_ptr, ok_ag, bare_ag, implies_true, evS_move, evS_indexAddr, bare_ep, ok_ep, evIx_sl, evIx_ref, F_sl22, F_sz35, Option.map_some, S_mem, lookR_cons, lookR_nil, Option.some.injEq, exists_eq_left', exists_eq_left, eq_self, reduceCtorEq, and_self, evS_fieldAddr, faK_ptr, faK_ep, F_off35_2, List.drop_succ_cons, List.drop_zero, Nat.zero_add, Nat.reduceAdd, evS_load, F_ok3, F_ag3, F_sz3, evLd_ptr, ldR_agg, ldR_one, evLd_ep_agg, evLd_ep_one, List.length_cons, List.length_nil, List.getD_cons_zero, List.getD_cons_succ, List.take_succ_cons, List.take_zero, Nat.le_refl, List.set_cons_zero, List.set_cons_succ, evS_buildSlice, F_sl61, F_zero3, bsK_some, bsK2_some, bsParts_nil, bsParts_cons, newRow1, cellsOf_ag, cellsOf_agg, cellsOf_int, cellsOf_bool, cellsOf_slice, cellsOf_func, cellsOf_ref, cellsOf_sl, cell1s_nil, cell1s_cons, cell1_int, cell1_bool, cell1_slice, cell1_func, cell1_ref, cell1_sl, List.map_cons, List.map_nil, rg0, rg1, rg2, rg3, rg4, rg5, rg6, maxLen_le, Nat.reduceMul, evS_call, evC_append, F_by3, apD_some, apZ_some, apV_sl, apV_nil, apV_ref, apY_some, apN_some, apX_nil, apX_ref, apRow_some, apR_some, unE_map, unE_cons, unE_nil, unDs_cons, unDs_nil, Option.bind_some, evS_assign, poss, posC, getD_mid, len_map, lt_mid, ge_mid, grow, aThen_normal, Th_exit, Th_ret, Bl_normal, Bl_ret, Bl_exit, Po_normal, Po_ret, Nat.reduceEqDiff, ↓reduceIte]
      have hm : pre.length + 1 ≤ 1000000 := by simp at hl; omega
      refine ⟨by rw [maxLen_le _ hm]; trivial, by omega, ?_⟩
      clear hm
      refine hK2 _ ?_; try clear hK2 K2
      refine awp_keepL [0, 5, 6, 7] ?_
      simp only [keepL_cons, keepL_nil, look_cons, look_nil, Nat.reduceBEq, cond_true, cond_false]
      refine awp_plain F_mixed [some 16, some 17, some 7] rfl ?_
      simp only [evL_nil, evL_plain, nxS, nxS0, List.nil_append, List.cons_append, true_and, and_true, Gp_none, true_implies, S_const, Sk_const, S_tmp, Sk_tmp, Nat.reduceLT, Nat.reduceLeDiff, look_cons, look_nil, Nat.reduceBEq, cond_true, cond_false, ok_d, bare_d, ok_ref, bare_ref, ok_ptr, bare_ptr, ok_ag, bare_ag, implies_true, evS_move, evS_binOp, binK_some, gr_v, b_add, pure_add, evS_assign, aThen_normal, Th_exit, Th_ret, Bl_normal, Bl_ret, Bl_exit, Po_normal, Po_ret, Nat.reduceEqDiff, ↓reduceIte]
      refine ⟨post.length, _, by simp, le_SK (fun r => bif r == 5 then 41 else 49) [] rfl (l' := [(0, .d (poss (pre ++ x :: post))), (5, .ref 5 (pre ++ [x]).length), (6, .ref 6 (pre ++ [x]).length), (7, .d (iv (pre ++ [x]).length))]) (m' := [(5, grow 3 1 5 (((pre ++ [x]).map PosV.qty).map fun n => [iv n])), (6, grow 3 1 6 (((pre ++ [x]).map PosV.cost).map fun n => [iv n]))]) ?_ ?_ ?_ ?_, pre ++ [x], post, by simp, by simp [hA, hq.1], by simp [hB, hq.2], rfl, rfl⟩
      · simp only [leV, look_cons, Nat.reduceBEq, cond_true, cond_false, poss, wrap_len pre x (by simp at hl; omega)]
        refine ⟨VLe.data_ _, ?_, ?_, VLe.data_ _, trivial⟩
        · rw [show pre.length + 1 = (pre ++ [x]).length from by simp]; exact VLe.ref_ (f := fun r => bif r == 5 then 41 else 49) (r := 5) (by simp)
        · rw [show pre.length + 1 = (pre ++ [x]).length from by simp]; exact VLe.ref_ (f := fun r => bif r == 5 then 41 else 49) (r := 6) (by simp)
      · refine ⟨fun _ => ⟨_, rfl, RowLe.data_ (by simp)⟩, fun h => by simp at h, fun _ => ⟨_, rfl, RowLe.data_ (by simp)⟩, fun h => by simp at h, trivial⟩
      · simp [wfV, AV.ids, lookR, grow]
      · exact ⟨wf_data _ _, wf_data _ _, trivial⟩
  · intro hb
    obtain rfl := none_of hb; clear hb
    simp only [List.append_nil] at hl ⊢
    have hba := right_bound hA
    have hbb := right_bound hB
    refine awp_exit ?_
    simp only [aThen_normal, Th_exit, Th_ret, Bl_normal, Bl_ret, Bl_exit, Po_normal, Po_ret, Nat.reduceEqDiff, ↓reduceIte]
    refine hK0 _ ?_; try clear hK0 K0
    refine awp_keepL [5, 6] ?_
    simp only [keepL_cons, keepL_nil, look_cons, look_nil, Nat.reduceBEq, cond_true, cond_false]
    refine awp_seq fun K0 hK0 => ?_
    refine awp_plain F_mixed [some 51, some 52, some 50, some 53, some 54, some 8, some 9] rfl ?_
    simp only [evL_nil, evL_plain, nxS, nxS0, List.nil_append, List.cons_append, true_and, and_true, Gp_none, true_implies, S_const, Sk_const, S_tmp, Sk_tmp, Nat.reduceLT, Nat.reduceLeDiff, look_cons, look_nil, Nat.reduceBEq, cond_true, cond_false, ok_d, bare_d, ok_ref, bare_ref, ok_ptr, bare_ptr, ok_ag, bare_ag, implies_true, evS_move, evS_call, evC_value, evS_extract, exK_tp, bare_tp, ok_tp, List.length_cons, List.length_nil, Nat.reduceAdd, Nat.zero_add, List.getD_cons_zero, List.getD_cons_succ, evS_assign, ints, grow, len_map, aThen_normal, Th_exit, Th_ret, Bl_normal, Bl_ret, Bl_exit, Po_normal, Po_ret, Nat.reduceEqDiff, ↓reduceIte]
    refine call_go F_go26 (fun hG => Add_ (pre.map PosV.qty) (by simpa using hl) hba) (by simp [AV.ids, AV.idsL]) (by simp) ?_
    simp only [evL_nil, evL_plain, nxS, nxS0, List.nil_append, List.cons_append, true_and, and_true, Gp_none, true_implies, S_const, Sk_const, S_tmp, Sk_tmp, Nat.reduceLT, Nat.reduceLeDiff, look_cons, look_nil, Nat.reduceBEq, cond_true, cond_false, ok_d, bare_d, ok_ref, bare_ref, ok_ptr, bare_ptr, ok_ag, bare_ag, implies_true, evS_move, evS_call, evC_value, evS_extract, exK_tp, bare_tp, ok_tp, List.length_cons, List.length_nil, Nat.reduceAdd, Nat.zero_add, List.getD_cons_zero, List.getD_cons_succ, evS_assign, ints, grow, len_map, aThen_normal, Th_exit, Th_ret, Bl_normal, Bl_ret, Bl_exit, Po_normal, Po_ret, Nat.reduceEqDiff, ↓reduceIte, asDs_cons, asDs_nil, atsL, asD_self, asD_nil, asD_sl, asD_agg, asD_int, asD_bool, asD_func, asD_ag, asD_ref, asG_d, asG_ag, asG_ref, oksG, freeN, AV.ren, AV.renL, addRows, ORow.row, Nat.reduceMul, Nat.reduceAdd, unE_cons, unE_nil, unDs_cons, unDs_nil, unE_map, Option.bind_some, Option.map_some, forall_eq', D.sl.injEq, S_mem, Option.some.injEq, exists_eq_left', exists_eq_left, exists_eq', exists_eq, List.length_nil, List.length_cons, lookR_nil, lookR_cons, S_func, Sk_func]
    refine hK0 _ ?_; try clear hK0 K0
    refine awp_keepL [6, 8, 9] ?_
    simp only [keepL_cons, keepL_nil, look_cons, look_nil, Nat.reduceBEq, cond_true, cond_false]
    refine awp_seq fun K0 hK0 => ?_
    refine awp_plain F_mixed [some 56, some 57, some 55, some 58, some 59, some 10, some 11] rfl ?_
    simp only [evL_nil, evL_plain, nxS, nxS0, List.nil_append, List.cons_append, true_and, and_true, Gp_none, true_implies, S_const, Sk_const, S_tmp, Sk_tmp, Nat.reduceLT, Nat.reduceLeDiff, look_cons, look_nil, Nat.reduceBEq, cond_true, cond_false, ok_d, bare_d, ok_ref, bare_ref, ok_ptr, bare_ptr, ok_ag, bare_ag, implies_true, evS_move, evS_call, evC_value, evS_extract, exK_tp, bare_tp, ok_tp, List.length_cons, List.length_nil, Nat.reduceAdd, Nat.zero_add, List.getD_cons_zero, List.getD_cons_succ, evS_assign, ints, grow, len_map, aThen_normal, Th_exit, Th_ret, Bl_normal, Bl_ret, Bl_exit, Po_normal, Po_ret, Nat.reduceEqDiff, ↓reduceIte]
    refine call_go F_go26 (fun hG => Add_ (pre.map PosV.cost) (by simpa using hl) hbb) (by simp [AV.ids, AV.idsL]) (by simp) ?_
    simp only [evL_nil, evL_plain, nxS, nxS0, List.nil_append, List.cons_append, true_and, and_true, Gp_none, true_implies, S_const, Sk_const, S_tmp, Sk_tmp, Nat.reduceLT, Nat.reduceLeDiff, look_cons, look_nil, Nat.reduceBEq, cond_true, cond_false, ok_d, bare_d, ok_ref, bare_ref, ok_ptr, bare_ptr, ok_ag, bare_ag, implies_true, evS_move, evS_call, evC_value, evS_extract, exK_tp, bare_tp, ok_tp, List.length_cons, List.length_nil, Nat.reduceAdd, Nat.zero_add, List.getD_cons_zero, List.getD_cons_succ, evS_assign, ints, grow, len_map, aThen_normal, Th_exit, Th_ret, Bl_normal, Bl_ret, Bl_exit, Po_normal, Po_ret, Nat.reduceEqDiff, ↓reduceIte, asDs_cons, asDs_nil, atsL, asD_self, asD_nil, asD_sl, asD_agg, asD_int, asD_bool, asD_func, asD_ag, asD_ref, asG_d, asG_ag, asG_ref, oksG, freeN, AV.ren, AV.renL, addRows, ORow.row, Nat.reduceMul, Nat.reduceAdd, unE_cons, unE_nil, unDs_cons, unDs_nil, unE_map, Option.bind_some, Option.map_some, forall_eq', D.sl.injEq, S_mem, Option.some.injEq, exists_eq_left', exists_eq_left, exists_eq', exists_eq, List.length_nil, List.length_cons, lookR_nil, lookR_cons, S_func, Sk_func]
    refine hK0 _ ?_; try clear hK0 K0
    refine awp_keepL [8, 9, 10, 11] ?_
    simp only [keepL_cons, keepL_nil, look_cons, look_nil, Nat.reduceBEq, cond_true, cond_false]
    refine awp_seq fun K0 hK0 => ?_
    refine awp_seq fun K1 hK1 => ?_
    refine awp_plain F_mixed [some 60, some 61, some 62, some 63, some 64, some 65] rfl ?_
    simp only [evL_nil, evL_plain, nxS, nxS0, List.nil_append, List.cons_append, true_and, and_true, Gp_none, true_implies, S_const, Sk_const, S_tmp, Sk_tmp, Nat.reduceLT, Nat.reduceLeDiff, look_cons, look_nil, Nat.reduceBEq, cond_true, cond_false, ok_d, bare_d, ok_ref, bare_ref, ok_ptr, bare_ptr, ok_ag, bare_ag, implies_true, evL_guard, evG_some, evGK_b, evGK_wh, nthD_cons, Nat.reduceSub, S_getD, nxSg, Gp_some, bare_wh, ok_wh, and_imp, imp_and, imp2, imp_self, and_self, evS_move, evS_unOp, unK_some, gr_v, u_not, pure_not, evS_pick, pickK_bool, bif_tt, bif_ff, aThen_normal, Th_exit, Th_ret, Bl_normal, Bl_ret, Bl_exit, Po_normal, Po_ret, Nat.reduceEqDiff, ↓reduceIte]
    refine hK1 _ ?_; try clear hK1 K1
    refine awp_keepL [8, 10, 65] ?_
    simp only [keepL_cons, keepL_nil, look_cons, look_nil, Nat.reduceBEq, cond_true, cond_false]
    refine awp_condS _ (by decide) (by simp only [look_cons, Nat.reduceBEq, cond_true, cond_false]; rfl) ?_ ?_
    · intro hb
      refine awp_seq fun K2 hK2 => ?_
      refine awp_plain F_mixed [some 2, some 3, some 4] rfl ?_
      simp only [evL_nil, evL_plain, nxS, nxS0, List.nil_append, List.cons_append, true_and, and_true, Gp_none, true_implies, S_const, Sk_const, S_tmp, Sk_tmp, Nat.reduceLT, Nat.reduceLeDiff, look_cons, look_nil, Nat.reduceBEq, cond_true, cond_false, ok_d, bare_d, ok_ref, bare_ref, ok_ptr, bare_ptr, ok_ag, bare_ag, implies_true, evS_assign, aThen_normal, Th_exit, Th_ret, Bl_normal, Bl_ret, Bl_exit, Po_normal, Po_ret, Nat.reduceEqDiff, ↓reduceIte]
      refine hK2 _ ?_; try clear hK2 K2
      refine awp_keepL [2, 3, 4] ?_
      simp only [keepL_cons, keepL_nil, look_cons, look_nil, Nat.reduceBEq, cond_true, cond_false]
      refine awp_ret ?_
      simp only [aThen_normal, Th_exit, Th_ret, Bl_normal, Bl_ret, Bl_exit, Po_normal, Po_ret, Nat.reduceEqDiff, ↓reduceIte]
      refine done0 (by simp only [resCs, resC]; trivial) ?_ (by simp [flatA, flatAs, flatD]) (by simp [AV.ids, AV.idsL])
      simp only [List.map_cons, List.map_nil, resA, S_getD, Nat.reduceLT, Nat.reduceLeDiff, look_cons, Nat.reduceBEq, cond_true, cond_false, resAll]
      rcases hq : rightN (pre.map PosV.qty).sum <;> rcases hc : rightN (pre.map PosV.cost).sum <;> simp [hA, hB, hq, hc, tsQ, tsC, tsE, tsA, tsB] at hb ⊢
    · intro hb
      refine awp_skip ?_
      simp only [aThen_normal, Th_exit, Th_ret, Bl_normal, Bl_ret, Bl_exit, Po_normal, Po_ret, Nat.reduceEqDiff, ↓reduceIte]
      refine hK0 _ ?_; try clear hK0 K0
      refine awp_keepL [8, 10] ?_
      simp only [keepL_cons, keepL_nil, look_cons, look_nil, Nat.reduceBEq, cond_true, cond_false]
      refine awp_seq fun K0 hK0 => ?_
      refine awp_plain F_mixed [some 66, some 67, some 2, some 3, some 4] rfl ?_
      simp only [evL_nil, evL_plain, nxS, nxS0, List.nil_append, List.cons_append, true_and, and_true, Gp_none, true_implies, S_const, Sk_const, S_tmp, Sk_tmp, Nat.reduceLT, Nat.reduceLeDiff, look_cons, look_nil, Nat.reduceBEq, cond_true, cond_false, ok_d, bare_d, ok_ref, bare_ref, ok_ptr, bare_ptr, ok_ag, bare_ag, implies_true, evS_move, evS_assign, aThen_normal, Th_exit, Th_ret, Bl_normal, Bl_ret, Bl_exit, Po_normal, Po_ret, Nat.reduceEqDiff, ↓reduceIte]
      refine hK0 _ ?_; try clear hK0 K0
      refine awp_keepL [2, 3, 4] ?_
      simp only [keepL_cons, keepL_nil, look_cons, look_nil, Nat.reduceBEq, cond_true, cond_false]
      refine awp_ret ?_
      simp only [aThen_normal, Th_exit, Th_ret, Bl_normal, Bl_ret, Bl_exit, Po_normal, Po_ret, Nat.reduceEqDiff, ↓reduceIte]
      refine done0 (by simp only [resCs, resC]; trivial) ?_ (by simp [flatA, flatAs, flatD]) (by simp [AV.ids, AV.idsL])
      simp only [List.map_cons, List.map_nil, resA, S_getD, Nat.reduceLT, Nat.reduceLeDiff, look_cons, Nat.reduceBEq, cond_true, cond_false, resAll]
      rcases hq : rightN (pre.map PosV.qty).sum <;> rcases hc : rightN (pre.map PosV.cost).sum <;> simp [hA, hB, hq, hc, tsQ, tsC, tsE, tsA, tsB] at hb ⊢
theorem right_ (t : TradeV) : ACalls Try.prog 27 [.agg (tradeC t)] [] (bv (tradeOk t)) := by
  refine acalls_S (rs := [.tmp 2]) Try.func27 rfl rfl 21 [(0, .d (.agg (tradeC t)))] rfl (by simp) rfl ?_
  refine awp_seq fun K0 hK0 => ?_
  refine awp_plain F_mixed [some 1, some 2] rfl ?_
  simp only [evL_nil, evL_plain, nxS, nxS0, List.nil_append, List.cons_append, true_and, and_true, Gp_none, true_implies, S_const, Sk_const, S_tmp, Sk_tmp, Nat.reduceLT, Nat.reduceLeDiff, look_cons, look_nil, Nat.reduceBEq, cond_true, cond_false, ok_d, bare_d, ok_ref, bare_ref, ok_ptr, bare_ptr, ok_ag, bare_ag, implies_true, evS_box, boxK_some, newRow1, cellsOf_ag, cellsOf_agg, cellsOf_int, cellsOf_bool, cellsOf_slice, cellsOf_func, cellsOf_ref, cellsOf_sl, cell1s_nil, cell1s_cons, cell1_int, cell1_bool, cell1_slice, cell1_func, cell1_ref, cell1_sl, List.map_cons, List.map_nil, List.length_cons, List.length_nil, S_mem, lookR_cons, lookR_nil, Option.some.injEq, exists_eq_left', exists_eq_left, Option.map_some, eq_self, reduceCtorEq, and_self, Nat.reduceAdd, Nat.zero_add, List.getD_cons_zero, List.getD_cons_succ, List.drop_zero, List.drop_succ_cons, List.take_succ_cons, List.take_zero, Nat.le_refl, List.set_cons_zero, List.set_cons_succ, evS_assign, tradeC, aThen_normal, Th_exit, Th_ret, Bl_normal, Bl_ret, Bl_exit, Po_normal, Po_ret, Nat.reduceEqDiff, ↓reduceIte]
  refine hK0 _ ?_; try clear hK0 K0
  refine awp_keepL [1] ?_
  simp only [keepL_cons, keepL_nil, look_cons, look_nil, Nat.reduceBEq, cond_true, cond_false]
  refine awp_seq fun K0 hK0 => ?_
  refine awp_plain F_mixed [some 3, some 4, some 5, some 6, some 7, some 8, some 9, some 10, some 11, some 12, some 13, some 14, some 15, some 16, some 17, some 18, some 19, some 20, some 2] rfl ?_
  simp only [evL_nil, evL_plain, nxS, nxS0, List.nil_append, List.cons_append, true_and, and_true, Gp_none, true_implies, S_const, Sk_const, S_tmp, Sk_tmp, Nat.reduceLT, Nat.reduceLeDiff, look_cons, look_nil, Nat.reduceBEq, cond_true, cond_false, ok_d, bare_d, ok_ref, bare_ref, ok_ptr, bare_ptr, ok_ag, bare_ag, implies_true, evL_guard, evG_some, evGK_b, evGK_wh, nthD_cons, Nat.reduceSub, S_getD, nxSg, Gp_some, bare_wh, ok_wh, and_imp, imp_and, imp2, imp_self, and_self, evS_fieldAddr, faK_ptr, faK_ep, bare_ep, ok_ep, F_off30_4, List.drop_succ_cons, List.drop_zero, Nat.zero_add, Nat.reduceAdd, evS_load, F_ok3, F_ag3, F_sz3, evLd_ptr, ldR_agg, ldR_one, evLd_ep_agg, evLd_ep_one, List.length_cons, List.length_nil, List.getD_cons_zero, List.getD_cons_succ, List.take_succ_cons, List.take_zero, Nat.le_refl, List.set_cons_zero, List.set_cons_succ, S_mem, lookR_cons, lookR_nil, Option.some.injEq, exists_eq_left', exists_eq_left, Option.map_some, eq_self, reduceCtorEq, evS_binOp, binK_some, gr_v, b_geq, pure_geq, evS_move, b_leq, pure_leq, evS_pick, pickK_bool, bif_tt, bif_ff, F_off30_5, evS_assign, aThen_normal, Th_exit, Th_ret, Bl_normal, Bl_ret, Bl_exit, Po_normal, Po_ret, Nat.reduceEqDiff, ↓reduceIte]
  refine hK0 _ ?_; try clear hK0 K0
  refine awp_keepL [2] ?_
  simp only [keepL_cons, keepL_nil, look_cons, look_nil, Nat.reduceBEq, cond_true, cond_false]
  refine awp_ret ?_
  simp only [aThen_normal, Th_exit, Th_ret, Bl_normal, Bl_ret, Bl_exit, Po_normal, Po_ret, Nat.reduceEqDiff, ↓reduceIte]
  refine done0 (by simp only [resCs, resC]; trivial) ?_ (by simp [flatA, flatAs, flatD]) (by simp [AV.ids, AV.idsL])
  simp only [List.map_cons, List.map_nil, resA, S_getD, Nat.reduceLT, Nat.reduceLeDiff, look_cons, Nat.reduceBEq, cond_true, cond_false, resAll]
  simp only [tradeOk]
theorem Legs_yes (t : TradeV) (h : tradeOk t = true) : ACalls Try.prog 11 [.agg (tradeC t)] [⟨35, 4, legsC t⟩] (.ref 0 2) := by
  refine acalls_S (rs := [.tmp 2]) Try.func11 rfl rfl 33 [(0, .d (.agg (tradeC t)))] rfl (by simp) rfl ?_
  refine awp_seq fun K0 hK0 => ?_
  refine awp_plain F_mixed [some 1, some 2] rfl ?_
  simp only [evL_nil, evL_plain, nxS, nxS0, List.nil_append, List.cons_append, true_and, and_true, Gp_none, true_implies, S_const, Sk_const, S_tmp, Sk_tmp, Nat.reduceLT, Nat.reduceLeDiff, look_cons, look_nil, Nat.reduceBEq, cond_true, cond_false, ok_d, bare_d, ok_ref, bare_ref, ok_ptr, bare_ptr, ok_ag, bare_ag, implies_true, evS_box, boxK_some, newRow1, cellsOf_ag, cellsOf_agg, cellsOf_int, cellsOf_bool, cellsOf_slice, cellsOf_func, cellsOf_ref, cellsOf_sl, cell1s_nil, cell1s_cons, cell1_int, cell1_bool, cell1_slice, cell1_func, cell1_ref, cell1_sl, List.map_cons, List.map_nil, List.length_cons, List.length_nil, S_mem, lookR_cons, lookR_nil, Option.some.injEq, exists_eq_left', exists_eq_left, Option.map_some, eq_self, reduceCtorEq, and_self, Nat.reduceAdd, Nat.zero_add, List.getD_cons_zero, List.getD_cons_succ, List.drop_zero, List.drop_succ_cons, List.take_succ_cons, List.take_zero, Nat.le_refl, List.set_cons_zero, List.set_cons_succ, evS_assign, tradeC, aThen_normal, Th_exit, Th_ret, Bl_normal, Bl_ret, Bl_exit, Po_normal, Po_ret, Nat.reduceEqDiff, ↓reduceIte]
  refine hK0 _ ?_; try clear hK0 K0
  refine awp_keepL [1] ?_
  simp only [keepL_cons, keepL_nil, look_cons, look_nil, Nat.reduceBEq, cond_true, cond_false]
  refine awp_seq fun K0 hK0 => ?_
  refine awp_seq fun K1 hK1 => ?_
  refine awp_plain F_mixed [some 4, some 5, some 6] rfl ?_
  simp only [evL_nil, evL_plain, nxS, nxS0, List.nil_append, List.cons_append, true_and, and_true, Gp_none, true_implies, S_const, Sk_const, S_tmp, Sk_tmp, Nat.reduceLT, Nat.reduceLeDiff, look_cons, look_nil, Nat.reduceBEq, cond_true, cond_false, ok_d, bare_d, ok_ref, bare_ref, ok_ptr, bare_ptr, ok_ag, bare_ag, implies_true, evS_load, F_ok30, F_ag30, F_sz30, evLd_ptr, ldR_agg, ldR_one, evLd_ep_agg, evLd_ep_one, bare_ep, ok_ep, List.length_cons, List.length_nil, Nat.reduceAdd, Nat.zero_add, List.getD_cons_zero, List.getD_cons_succ, List.drop_zero, List.drop_succ_cons, List.take_succ_cons, List.take_zero, Nat.le_refl, List.set_cons_zero, List.set_cons_succ, S_mem, lookR_cons, lookR_nil, Option.some.injEq, exists_eq_left', exists_eq_left, Option.map_some, eq_self, reduceCtorEq, and_self, evS_call, evC_value, evS_unOp, unK_some, gr_v, u_not, pure_not, tradeC, D.agg.injEq, aThen_normal, Th_exit, Th_ret, Bl_normal, Bl_ret, Bl_exit, Po_normal, Po_ret, Nat.reduceEqDiff, ↓reduceIte]
  refine call_go F_go27 (fun hG => right_ t) (by simp [AV.ids, AV.idsL]) (by simp) ?_
  simp only [evL_nil, evL_plain, nxS, nxS0, List.nil_append, List.cons_append, true_and, and_true, Gp_none, true_implies, S_const, Sk_const, S_tmp, Sk_tmp, Nat.reduceLT, Nat.reduceLeDiff, look_cons, look_nil, Nat.reduceBEq, cond_true, cond_false, ok_d, bare_d, ok_ref, bare_ref, ok_ptr, bare_ptr, ok_ag, bare_ag, implies_true, evS_load, F_ok30, F_ag30, F_sz30, evLd_ptr, ldR_agg, ldR_one, evLd_ep_agg, evLd_ep_one, bare_ep, ok_ep, List.length_cons, List.length_nil, Nat.reduceAdd, Nat.zero_add, List.getD_cons_zero, List.getD_cons_succ, List.drop_zero, List.drop_succ_cons, List.take_succ_cons, List.take_zero, Nat.le_refl, List.set_cons_zero, List.set_cons_succ, S_mem, lookR_cons, lookR_nil, Option.some.injEq, exists_eq_left', exists_eq_left, Option.map_some, eq_self, reduceCtorEq, and_self, evS_call, evC_value, evS_unOp, unK_some, gr_v, u_not, pure_not, tradeC, D.agg.injEq, aThen_normal, Th_exit, Th_ret, Bl_normal, Bl_ret, Bl_exit, Po_normal, Po_ret, Nat.reduceEqDiff, ↓reduceIte, asDs_cons, asDs_nil, atsL, asD_self, asD_nil, asD_sl, asD_agg, asD_int, asD_bool, asD_func, asD_ag, asD_ref, asG_d, asG_ag, asG_ref, oksG, freeN, AV.ren, AV.renL, addRows, ORow.row, Nat.reduceMul, Nat.reduceAdd, unE_cons, unE_nil, unDs_cons, unDs_nil, unE_map, Option.bind_some, Option.map_some, forall_eq', D.sl.injEq, S_mem, Option.some.injEq, exists_eq_left', exists_eq_left, exists_eq', exists_eq, List.length_nil, List.length_cons, lookR_nil, lookR_cons, S_func, Sk_func]
  refine hK1 _ ?_; try clear hK1 K1
  refine awp_keepL [1, 6] ?_
  simp only [keepL_cons, keepL_nil, look_cons, look_nil, Nat.reduceBEq, cond_true, cond_false]
  refine awp_condS _ (by decide) (by simp only [look_cons, Nat.reduceBEq, cond_true, cond_false]; rfl) ?_ ?_
  · intro hb
    simp only [h] at hb; cases hb
  · intro hb
    clear hb
    refine awp_skip ?_
    simp only [aThen_normal, Th_exit, Th_ret, Bl_normal, Bl_ret, Bl_exit, Po_normal, Po_ret, Nat.reduceEqDiff, ↓reduceIte]
    refine hK0 _ ?_; try clear hK0 K0
    refine awp_keepL [1] ?_
    simp only [keepL_cons, keepL_nil, look_cons, look_nil, Nat.reduceBEq, cond_true, cond_false]
    refine awp_seq fun K0 hK0 => ?_
    refine awp_plain F_mixed [some 7, some 8, some 9, some 10, some 11, some 3] rfl ?_
    simp only [evL_nil, evL_plain, nxS, nxS0, List.nil_append, List.cons_append, true_and, and_true, Gp_none, true_implies, S_const, Sk_const, S_tmp, Sk_tmp, Nat.reduceLT, Nat.reduceLeDiff, look_cons, look_nil, Nat.reduceBEq, cond_true, cond_false, ok_d, bare_d, ok_ref, bare_ref, ok_ptr, bare_ptr, ok_ag, bare_ag, implies_true, evS_fieldAddr, faK_ptr, faK_ep, bare_ep, ok_ep, F_off30_4, List.drop_succ_cons, List.drop_zero, Nat.zero_add, Nat.reduceAdd, evS_load, F_ok3, F_ag3, F_sz3, evLd_ptr, ldR_agg, ldR_one, evLd_ep_agg, evLd_ep_one, List.length_cons, List.length_nil, List.getD_cons_zero, List.getD_cons_succ, List.take_succ_cons, List.take_zero, Nat.le_refl, List.set_cons_zero, List.set_cons_succ, S_mem, lookR_cons, lookR_nil, Option.some.injEq, exists_eq_left', exists_eq_left, Option.map_some, eq_self, reduceCtorEq, and_self, F_off30_5, evS_binOp, binK_some, gr_v, b_mul, pure_mul, evS_assign, aThen_normal, Th_exit, Th_ret, Bl_normal, Bl_ret, Bl_exit, Po_normal, Po_ret, Nat.reduceEqDiff, ↓reduceIte]
    refine hK0 _ ?_; try clear hK0 K0
    refine awp_keepL [1, 3] ?_
    simp only [keepL_cons, keepL_nil, look_cons, look_nil, Nat.reduceBEq, cond_true, cond_false]
    refine awp_seq fun K0 hK0 => ?_
    refine awp_plain F_mixed [some 12, some 13, some 14, some 15, some 16, some 17, some 18, some 19, some 20, some 21, some 22, some 23, some 24, some 25, some 26, some 27, some 28, some 29, some 30, some 31, some 32, some 2] rfl ?_
    simp only [evL_nil, evL_plain, nxS, nxS0, List.nil_append, List.cons_append, true_and, and_true, Gp_none, true_implies, S_const, Sk_const, S_tmp, Sk_tmp, Nat.reduceLT, Nat.reduceLeDiff, look_cons, look_nil, Nat.reduceBEq, cond_true, cond_false, ok_d, bare_d, ok_ref, bare_ref, ok_ptr, bare_ptr, ok_ag, bare_ag, implies_true, evS_fieldAddr, faK_ptr, faK_ep, bare_ep, ok_ep, F_off30_1, List.drop_succ_cons, List.drop_zero, Nat.zero_add, Nat.reduceAdd, evS_load, F_ok3, F_ag3, F_sz3, evLd_ptr, ldR_agg, ldR_one, evLd_ep_agg, evLd_ep_one, List.length_cons, List.length_nil, List.getD_cons_zero, List.getD_cons_succ, List.take_succ_cons, List.take_zero, Nat.le_refl, List.set_cons_zero, List.set_cons_succ, S_mem, lookR_cons, lookR_nil, Option.some.injEq, exists_eq_left', exists_eq_left, Option.map_some, eq_self, reduceCtorEq, and_self, F_off30_3, evS_build, F_zero33, F_bld33, buildK_some, bldPs_nil, bldPs_cons, fldK_some, bldCells_nil, bldCells_cons, splice, Option.getD_some, List.append_nil, cellsOf_ag, cellsOf_agg, cellsOf_int, cellsOf_bool, cellsOf_slice, cellsOf_func, cellsOf_ref, cellsOf_sl, cell1s_nil, cell1s_cons, cell1_int, cell1_bool, cell1_slice, cell1_func, cell1_ref, cell1_sl, List.map_cons, List.map_nil, allO_nil, allO_cons, oc_int, oc_bool, oc_slice, F_fld33_0, F_fld33_1, F_off30_4, evS_move, F_zero35, F_bld35, F_fld35_0, F_fld35_1, F_fld35_2, F_off30_2, evS_unOp, unK_some, gr_v, u_neg, pure_neg, evS_buildSlice, F_sl22, F_sz35, bsK_some, bsK2_some, bsParts_nil, bsParts_cons, newRow1, rg0, rg1, rg2, rg3, rg4, rg5, rg6, maxLen_le, Nat.reduceMul, evS_assign, aThen_normal, Th_exit, Th_ret, Bl_normal, Bl_ret, Bl_exit, Po_normal, Po_ret, Nat.reduceEqDiff, ↓reduceIte]
    refine hK0 _ ?_; try clear hK0 K0
    refine awp_keepL [2] ?_
    simp only [keepL_cons, keepL_nil, look_cons, look_nil, Nat.reduceBEq, cond_true, cond_false]
    refine awp_ret ?_
    simp only [aThen_normal, Th_exit, Th_ret, Bl_normal, Bl_ret, Bl_exit, Po_normal, Po_ret, Nat.reduceEqDiff, ↓reduceIte]
    refine done1 32 (by simp only [resCs, resC]; trivial) ?_ (by simp [flatA, flatAs, flatD, legsC, posC]) (by simp [AV.ids, AV.idsL, legsC, posC]) (by rfl) trivial rfl rfl ?_ (by simp [flatDs, flatD, legsC, posC])
    · simp only [List.map_cons, List.map_nil, resA, S_getD, Nat.reduceLT, Nat.reduceLeDiff, look_cons, Nat.reduceBEq, cond_true, cond_false, resAll]; rfl
    · simp only [List.map_cons, List.map_nil, legsC, posC, legA, legB]
theorem Legs_no (t : TradeV) (h : tradeOk t = false) : ACalls Try.prog 11 [.agg (tradeC t)] [] (.d (.v (.slice none 0 0))) := by
  refine acalls_S (rs := [.tmp 2]) Try.func11 rfl rfl 33 [(0, .d (.agg (tradeC t)))] rfl (by simp) rfl ?_
  refine awp_seq fun K0 hK0 => ?_
  refine awp_plain F_mixed [some 1, some 2] rfl ?_
  simp only [evL_nil, evL_plain, nxS, nxS0, List.nil_append, List.cons_append, true_and, and_true, Gp_none, true_implies, S_const, Sk_const, S_tmp, Sk_tmp, Nat.reduceLT, Nat.reduceLeDiff, look_cons, look_nil, Nat.reduceBEq, cond_true, cond_false, ok_d, bare_d, ok_ref, bare_ref, ok_ptr, bare_ptr, ok_ag, bare_ag, implies_true, evS_box, boxK_some, newRow1, cellsOf_ag, cellsOf_agg, cellsOf_int, cellsOf_bool, cellsOf_slice, cellsOf_func, cellsOf_ref, cellsOf_sl, cell1s_nil, cell1s_cons, cell1_int, cell1_bool, cell1_slice, cell1_func, cell1_ref, cell1_sl, List.map_cons, List.map_nil, List.length_cons, List.length_nil, S_mem, lookR_cons, lookR_nil, Option.some.injEq, exists_eq_left', exists_eq_left, Option.map_some, eq_self, reduceCtorEq, and_self, Nat.reduceAdd, Nat.zero_add, List.getD_cons_zero, List.getD_cons_succ, List.drop_zero, List.drop_succ_cons, List.take_succ_cons, List.take_zero, Nat.le_refl, List.set_cons_zero, List.set_cons_succ, evS_assign, tradeC, aThen_normal, Th_exit, Th_ret, Bl_normal, Bl_ret, Bl_exit, Po_normal, Po_ret, Nat.reduceEqDiff, ↓reduceIte]
  refine hK0 _ ?_; try clear hK0 K0
  refine awp_keepL [1] ?_
  simp only [keepL_cons, keepL_nil, look_cons, look_nil, Nat.reduceBEq, cond_true, cond_false]
  refine awp_seq fun K0 hK0 => ?_
  refine awp_seq fun K1 hK1 => ?_
  refine awp_plain F_mixed [some 4, some 5, some 6] rfl ?_
  simp only [evL_nil, evL_plain, nxS, nxS0, List.nil_append, List.cons_append, true_and, and_true, Gp_none, true_implies, S_const, Sk_const, S_tmp, Sk_tmp, Nat.reduceLT, Nat.reduceLeDiff, look_cons, look_nil, Nat.reduceBEq, cond_true, cond_false, ok_d, bare_d, ok_ref, bare_ref, ok_ptr, bare_ptr, ok_ag, bare_ag, implies_true, evS_load, F_ok30, F_ag30, F_sz30, evLd_ptr, ldR_agg, ldR_one, evLd_ep_agg, evLd_ep_one, bare_ep, ok_ep, List.length_cons, List.length_nil, Nat.reduceAdd, Nat.zero_add, List.getD_cons_zero, List.getD_cons_succ, List.drop_zero, List.drop_succ_cons, List.take_succ_cons, List.take_zero, Nat.le_refl, List.set_cons_zero, List.set_cons_succ, S_mem, lookR_cons, lookR_nil, Option.some.injEq, exists_eq_left', exists_eq_left, Option.map_some, eq_self, reduceCtorEq, and_self, evS_call, evC_value, evS_unOp, unK_some, gr_v, u_not, pure_not, tradeC, D.agg.injEq, aThen_normal, Th_exit, Th_ret, Bl_normal, Bl_ret, Bl_exit, Po_normal, Po_ret, Nat.reduceEqDiff, ↓reduceIte]
  refine call_go F_go27 (fun hG => right_ t) (by simp [AV.ids, AV.idsL]) (by simp) ?_
  simp only [evL_nil, evL_plain, nxS, nxS0, List.nil_append, List.cons_append, true_and, and_true, Gp_none, true_implies, S_const, Sk_const, S_tmp, Sk_tmp, Nat.reduceLT, Nat.reduceLeDiff, look_cons, look_nil, Nat.reduceBEq, cond_true, cond_false, ok_d, bare_d, ok_ref, bare_ref, ok_ptr, bare_ptr, ok_ag, bare_ag, implies_true, evS_load, F_ok30, F_ag30, F_sz30, evLd_ptr, ldR_agg, ldR_one, evLd_ep_agg, evLd_ep_one, bare_ep, ok_ep, List.length_cons, List.length_nil, Nat.reduceAdd, Nat.zero_add, List.getD_cons_zero, List.getD_cons_succ, List.drop_zero, List.drop_succ_cons, List.take_succ_cons, List.take_zero, Nat.le_refl, List.set_cons_zero, List.set_cons_succ, S_mem, lookR_cons, lookR_nil, Option.some.injEq, exists_eq_left', exists_eq_left, Option.map_some, eq_self, reduceCtorEq, and_self, evS_call, evC_value, evS_unOp, unK_some, gr_v, u_not, pure_not, tradeC, D.agg.injEq, aThen_normal, Th_exit, Th_ret, Bl_normal, Bl_ret, Bl_exit, Po_normal, Po_ret, Nat.reduceEqDiff, ↓reduceIte, asDs_cons, asDs_nil, atsL, asD_self, asD_nil, asD_sl, asD_agg, asD_int, asD_bool, asD_func, asD_ag, asD_ref, asG_d, asG_ag, asG_ref, oksG, freeN, AV.ren, AV.renL, addRows, ORow.row, Nat.reduceMul, Nat.reduceAdd, unE_cons, unE_nil, unDs_cons, unDs_nil, unE_map, Option.bind_some, Option.map_some, forall_eq', D.sl.injEq, S_mem, Option.some.injEq, exists_eq_left', exists_eq_left, exists_eq', exists_eq, List.length_nil, List.length_cons, lookR_nil, lookR_cons, S_func, Sk_func]
  refine hK1 _ ?_; try clear hK1 K1
  refine awp_keepL [1, 6] ?_
  simp only [keepL_cons, keepL_nil, look_cons, look_nil, Nat.reduceBEq, cond_true, cond_false]
  refine awp_condS _ (by decide) (by simp only [look_cons, Nat.reduceBEq, cond_true, cond_false]; rfl) ?_ ?_
  · intro hb
    clear hb
    refine awp_seq fun K2 hK2 => ?_
    refine awp_plain F_mixed [some 2] rfl ?_
    simp only [evL_nil, evL_plain, nxS, nxS0, List.nil_append, List.cons_append, true_and, and_true, Gp_none, true_implies, S_const, Sk_const, S_tmp, Sk_tmp, Nat.reduceLT, Nat.reduceLeDiff, look_cons, look_nil, Nat.reduceBEq, cond_true, cond_false, ok_d, bare_d, ok_ref, bare_ref, ok_ptr, bare_ptr, ok_ag, bare_ag, implies_true, evS_assign, aThen_normal, Th_exit, Th_ret, Bl_normal, Bl_ret, Bl_exit, Po_normal, Po_ret, Nat.reduceEqDiff, ↓reduceIte]
    refine hK2 _ ?_; try clear hK2 K2
    refine awp_keepL [2] ?_
    simp only [keepL_cons, keepL_nil, look_cons, look_nil, Nat.reduceBEq, cond_true, cond_false]
    refine awp_ret ?_
    simp only [aThen_normal, Th_exit, Th_ret, Bl_normal, Bl_ret, Bl_exit, Po_normal, Po_ret, Nat.reduceEqDiff, ↓reduceIte]
    refine done0 (by simp only [resCs, resC]; trivial) ?_ (by simp [flatA, flatAs, flatD]) (by simp [AV.ids, AV.idsL])
    simp only [List.map_cons, List.map_nil, resA, S_getD, Nat.reduceLT, Nat.reduceLeDiff, look_cons, Nat.reduceBEq, cond_true, cond_false, resAll]
    
  · intro hb
    simp only [h] at hb; cases hb
theorem Undo_yes (t : TradeV) (h : tradeOk t = true) : ACalls Try.prog 12 [.agg (tradeC t)] [⟨35, 4, undoC t⟩] (.ref 0 2) := by
  refine acalls_S (rs := [.tmp 2]) Try.func12 rfl rfl 34 [(0, .d (.agg (tradeC t)))] rfl (by simp) rfl ?_
  refine awp_seq fun K0 hK0 => ?_
  refine awp_plain F_mixed [some 1, some 2] rfl ?_
  simp only [evL_nil, evL_plain, nxS, nxS0, List.nil_append, List.cons_append, true_and, and_true, Gp_none, true_implies, S_const, Sk_const, S_tmp, Sk_tmp, Nat.reduceLT, Nat.reduceLeDiff, look_cons, look_nil, Nat.reduceBEq, cond_true, cond_false, ok_d, bare_d, ok_ref, bare_ref, ok_ptr, bare_ptr, ok_ag, bare_ag, implies_true, evS_box, boxK_some, newRow1, cellsOf_ag, cellsOf_agg, cellsOf_int, cellsOf_bool, cellsOf_slice, cellsOf_func, cellsOf_ref, cellsOf_sl, cell1s_nil, cell1s_cons, cell1_int, cell1_bool, cell1_slice, cell1_func, cell1_ref, cell1_sl, List.map_cons, List.map_nil, List.length_cons, List.length_nil, S_mem, lookR_cons, lookR_nil, Option.some.injEq, exists_eq_left', exists_eq_left, Option.map_some, eq_self, reduceCtorEq, and_self, Nat.reduceAdd, Nat.zero_add, List.getD_cons_zero, List.getD_cons_succ, List.drop_zero, List.drop_succ_cons, List.take_succ_cons, List.take_zero, Nat.le_refl, List.set_cons_zero, List.set_cons_succ, evS_assign, tradeC, aThen_normal, Th_exit, Th_ret, Bl_normal, Bl_ret, Bl_exit, Po_normal, Po_ret, Nat.reduceEqDiff, ↓reduceIte]
  refine hK0 _ ?_; try clear hK0 K0
  refine awp_keepL [1] ?_
  simp only [keepL_cons, keepL_nil, look_cons, look_nil, Nat.reduceBEq, cond_true, cond_false]
  refine awp_seq fun K0 hK0 => ?_
  refine awp_plain F_mixed [some 5, some 6, some 3] rfl ?_
  simp only [evL_nil, evL_plain, nxS, nxS0, List.nil_append, List.cons_append, true_and, and_true, Gp_none, true_implies, S_const, Sk_const, S_tmp, Sk_tmp, Nat.reduceLT, Nat.reduceLeDiff, look_cons, look_nil, Nat.reduceBEq, cond_true, cond_false, ok_d, bare_d, ok_ref, bare_ref, ok_ptr, bare_ptr, ok_ag, bare_ag, implies_true, evS_load, F_ok30, F_ag30, F_sz30, evLd_ptr, ldR_agg, ldR_one, evLd_ep_agg, evLd_ep_one, bare_ep, ok_ep, List.length_cons, List.length_nil, Nat.reduceAdd, Nat.zero_add, List.getD_cons_zero, List.getD_cons_succ, List.drop_zero, List.drop_succ_cons, List.take_succ_cons, List.take_zero, Nat.le_refl, List.set_cons_zero, List.set_cons_succ, S_mem, lookR_cons, lookR_nil, Option.some.injEq, exists_eq_left', exists_eq_left, Option.map_some, eq_self, reduceCtorEq, and_self, evS_call, evC_value, evS_assign, tradeC, D.agg.injEq, legsC, posC, aThen_normal, Th_exit, Th_ret, Bl_normal, Bl_ret, Bl_exit, Po_normal, Po_ret, Nat.reduceEqDiff, ↓reduceIte]
  refine call_go F_go11 (fun hG => Legs_yes t h) (by simp [AV.ids, AV.idsL]) (by simp) ?_
  simp only [evL_nil, evL_plain, nxS, nxS0, List.nil_append, List.cons_append, true_and, and_true, Gp_none, true_implies, S_const, Sk_const, S_tmp, Sk_tmp, Nat.reduceLT, Nat.reduceLeDiff, look_cons, look_nil, Nat.reduceBEq, cond_true, cond_false, ok_d, bare_d, ok_ref, bare_ref, ok_ptr, bare_ptr, ok_ag, bare_ag, implies_true, evS_load, F_ok30, F_ag30, F_sz30, evLd_ptr, ldR_agg, ldR_one, evLd_ep_agg, evLd_ep_one, bare_ep, ok_ep, List.length_cons, List.length_nil, Nat.reduceAdd, Nat.zero_add, List.getD_cons_zero, List.getD_cons_succ, List.drop_zero, List.drop_succ_cons, List.take_succ_cons, List.take_zero, Nat.le_refl, List.set_cons_zero, List.set_cons_succ, S_mem, lookR_cons, lookR_nil, Option.some.injEq, exists_eq_left', exists_eq_left, Option.map_some, eq_self, reduceCtorEq, and_self, evS_call, evC_value, evS_assign, tradeC, D.agg.injEq, legsC, posC, aThen_normal, Th_exit, Th_ret, Bl_normal, Bl_ret, Bl_exit, Po_normal, Po_ret, Nat.reduceEqDiff, ↓reduceIte, asDs_cons, asDs_nil, atsL, asD_self, asD_nil, asD_sl, asD_agg, asD_int, asD_bool, asD_func, asD_ag, asD_ref, asG_d, asG_ag, asG_ref, oksG, freeN, AV.ren, AV.renL, addRows, ORow.row, Nat.reduceMul, Nat.reduceAdd, unE_cons, unE_nil, unDs_cons, unDs_nil, unE_map, Option.bind_some, Option.map_some, forall_eq', D.sl.injEq, S_mem, Option.some.injEq, exists_eq_left', exists_eq_left, exists_eq', exists_eq, List.length_nil, List.length_cons, lookR_nil, lookR_cons, S_func, Sk_func]
  refine hK0 _ ?_; try clear hK0 K0
  refine awp_keepL [3] ?_
  simp only [keepL_cons, keepL_nil, look_cons, look_nil, Nat.reduceBEq, cond_true, cond_false]
  refine awp_seq fun K0 hK0 => ?_
  refine awp_seq fun K1 hK1 => ?_
  refine awp_plain F_mixed [some 7, some 8, some 9] rfl ?_
  simp only [evL_nil, evL_plain, nxS, nxS0, List.nil_append, List.cons_append, true_and, and_true, Gp_none, true_implies, S_const, Sk_const, S_tmp, Sk_tmp, Nat.reduceLT, Nat.reduceLeDiff, look_cons, look_nil, Nat.reduceBEq, cond_true, cond_false, ok_d, bare_d, ok_ref, bare_ref, ok_ptr, bare_ptr, ok_ag, bare_ag, implies_true, evS_move, evS_call, evC_len, F_sl22, Option.isSome_some, lenK_sl, lenK_nil, lenK_ref, cast2, aThen_normal, Th_exit, Th_ret, Bl_normal, Bl_ret, Bl_exit, Po_normal, Po_ret, Nat.reduceEqDiff, ↓reduceIte]
  refine hK1 _ ?_; try clear hK1 K1
  refine awp_keepL [3, 8, 9] ?_
  simp only [keepL_cons, keepL_nil, look_cons, look_nil, Nat.reduceBEq, cond_true, cond_false]
  refine awp_block ?_
  refine awp_loop (fun m s => (m = 2 ∧ s = S 34 [(3, .ref 7000 2), (8, .d (iv 2)), (9, .d (iv 0))] [(7000, (⟨True, 35, 4, true, true, 7000, [[.d (iv (legA t).who), .d (iv (legA t).inst), .d (iv (legA t).qty), .d (iv (legA t).cost)], [.d (iv (legB t).who), .d (iv (legB t).inst), .d (iv (legB t).qty), .d (iv (legB t).cost)]]⟩ : ARow))]) ∨ (m = 1 ∧ s = S 34 [(3, .ref 7000 2), (8, .d (iv 2)), (9, .d (iv 1))] [(7000, (⟨True, 35, 4, true, true, 7000, [[.d (iv (legA t).who), .d (iv (legA t).inst), .d (iv (IntKind.wrap .i64 (0 - (legA t).qty))), .d (iv (IntKind.wrap .i64 (0 - (legA t).cost)))], [.d (iv (legB t).who), .d (iv (legB t).inst), .d (iv (legB t).qty), .d (iv (legB t).cost)]]⟩ : ARow))]) ∨ (m = 0 ∧ s = S 34 [(3, .ref 7000 2), (8, .d (iv 2)), (9, .d (iv 2))] [(7000, (⟨True, 35, 4, true, true, 7000, [[.d (iv (legA t).who), .d (iv (legA t).inst), .d (iv (IntKind.wrap .i64 (0 - (legA t).qty))), .d (iv (IntKind.wrap .i64 (0 - (legA t).cost)))], [.d (iv (legB t).who), .d (iv (legB t).inst), .d (iv (IntKind.wrap .i64 (0 - (legB t).qty))), .d (iv (IntKind.wrap .i64 (0 - (legB t).cost)))]]⟩ : ARow))])) 2 _ (le_SK id [] rfl (l' := [(3, .ref 7000 2), (8, .d (iv 2)), (9, .d (iv 0))]) (m' := [(7000, (⟨True, 35, 4, true, true, 7000, [[.d (iv (legA t).who), .d (iv (legA t).inst), .d (iv (legA t).qty), .d (iv (legA t).cost)], [.d (iv (legB t).who), .d (iv (legB t).inst), .d (iv (legB t).qty), .d (iv (legB t).cost)]]⟩ : ARow))]) ?_ ?_ ?_ ?_) (.inl ⟨rfl, rfl⟩) ?_
  · simp only [leV, look_cons, Nat.reduceBEq, cond_true, cond_false]; exact ⟨VLe.refl _, VLe.refl _, VLe.refl _, trivial⟩
  · exact ⟨fun _ => ⟨_, rfl, ⟨id, rfl, rfl, rfl, id, .inl, VLess.refl _⟩⟩, fun h => by simp at h, trivial⟩
  · simp [wfV, AV.ids, lookR]
  · simp [wfR, AV.idsL, AV.ids]
  rintro m s (⟨rfl, rfl⟩ | ⟨rfl, rfl⟩ | ⟨rfl, rfl⟩)
  · skip
    refine awp_seq fun K2 hK2 => ?_
    refine awp_plain F_mixed [some 10] rfl ?_
    simp only [evL_nil, evL_plain, nxS, nxS0, List.nil_append, List.cons_append, true_and, and_true, Gp_none, true_implies, S_const, Sk_const, S_tmp, Sk_tmp, Nat.reduceLT, Nat.reduceLeDiff, look_cons, look_nil, Nat.reduceBEq, cond_true, cond_false, ok_d, bare_d, ok_ref, bare_ref, ok_ptr, bare_ptr, ok_ag, bare_ag, implies_true, evS_binOp, binK_some, gr_v, b_lss, pure_lss, aThen_normal, Th_exit, Th_ret, Bl_normal, Bl_ret, Bl_exit, Po_normal, Po_ret, Nat.reduceEqDiff, ↓reduceIte]
    refine hK2 _ ?_; try clear hK2 K2
    refine awp_keepL [3, 8, 9, 10] ?_
    simp only [keepL_cons, keepL_nil, look_cons, look_nil, Nat.reduceBEq, cond_true, cond_false]
    refine awp_seq fun K2 hK2 => ?_
    refine awp_condS _ (by decide) (by simp only [look_cons, Nat.reduceBEq, cond_true, cond_false]; rfl) ?_ ?_
    · intro hb
      clear hb
      refine awp_skip ?_
      simp only [aThen_normal, Th_exit, Th_ret, Bl_normal, Bl_ret, Bl_exit, Po_normal, Po_ret, Nat.reduceEqDiff, ↓reduceIte]
      refine hK2 _ ?_; try clear hK2 K2
      refine awp_keepL [3, 8, 9] ?_
      simp only [keepL_cons, keepL_nil, look_cons, look_nil, Nat.reduceBEq, cond_true, cond_false]
      refine awp_seq fun K2 hK2 => ?_
      refine awp_block ?_
      refine awp_seq fun K3 hK3 => ?_
      refine awp_plain F_mixed [some 11, some 4] rfl ?_
      simp only [evL_nil, evL_plain, nxS, nxS0, List.nil_append, List.cons_append, true_and, and_true, Gp_none, true_implies, S_const, Sk_const, S_tmp, Sk_tmp, Nat.reduceLT, Nat.reduceLeDiff, look_cons, look_nil, Nat.reduceBEq, cond_true, cond_false, ok_d, bare_d, ok_ref, bare_ref, ok_ptr, bare_ptr, ok_ag, bare_ag, implies_true, evS_move, evS_assign, aThen_normal, Th_exit, Th_ret, Bl_normal, Bl_ret, Bl_exit, Po_normal, Po_ret, Nat.reduceEqDiff, ↓reduceIte]
      refine hK3 _ ?_; try clear hK3 K3
      refine awp_keepL [3, 4, 8, 9] ?_
      simp only [keepL_cons, keepL_nil, look_cons, look_nil, Nat.reduceBEq, cond_true, cond_false]
      refine awp_draw F_mixed [some 12, some 13, some 14, some 15, some 16, some 17, some 18, some 19, some 20, some 21, some 22, some 23, some 24, some 25, some 26, some 27, some 28, some 29, none, some 30, some 31, none] rfl (by kernel_rfl) ?_
      simp only [evL_nil, evL_plain, nxS, nxS0, List.nil_append, List.cons_append, true_and, and_true, Gp_none, true_implies, S_const, Sk_const, S_tmp, Sk_tmp, Nat.reduceLT, Nat.reduceLeDiff, look_cons, look_nil, Nat.reduceBEq, cond_true, cond_false, ok_d, bare_d, ok_ref, bare_ref, ok_ptr, bare_ptr, ok_ag, bare_ag, implies_true, evS_move, evS_indexAddr, bare_ep, ok_ep, evIx_sl, evIx_ref, F_sl22, F_sz35, Option.map_some, S_mem, lookR_cons, lookR_nil, Option.some.injEq, exists_eq_left', exists_eq_left, eq_self, reduceCtorEq, and_self, evS_fieldAddr, faK_ptr, faK_ep, F_off35_1, List.drop_succ_cons, List.drop_zero, Nat.zero_add, Nat.reduceAdd, evS_load, F_ok3, F_ag3, F_sz3, evLd_ptr, ldR_agg, ldR_one, evLd_ep_agg, evLd_ep_one, List.length_cons, List.length_nil, List.getD_cons_zero, List.getD_cons_succ, List.take_succ_cons, List.take_zero, Nat.le_refl, List.set_cons_zero, List.set_cons_succ, evS_unOp, unK_some, gr_v, u_neg, pure_neg, F_off35_2, evS_store, evSo_ptr, soR_some, splice, List.append_nil, cellsOf_ag, cellsOf_agg, cellsOf_int, cellsOf_bool, cellsOf_slice, cellsOf_func, cellsOf_ref, cellsOf_sl, cell1s_nil, cell1s_cons, cell1_int, cell1_bool, cell1_slice, cell1_func, cell1_ref, cell1_sl, List.map_cons, List.map_nil, Int.reduceToNat, cast2, Int.reduceLT, Int.reduceLE, aThen_normal, Th_exit, Th_ret, Bl_normal, Bl_ret, Bl_exit, Po_normal, Po_ret, Nat.reduceEqDiff, ↓reduceIte]
      refine hK2 _ ?_; try clear hK2 K2
      refine awp_keepL [3, 8, 9] ?_
      simp only [keepL_cons, keepL_nil, look_cons, look_nil, Nat.reduceBEq, cond_true, cond_false]
      refine awp_plain F_mixed [some 32, some 9] rfl ?_
      simp only [evL_nil, evL_plain, nxS, nxS0, List.nil_append, List.cons_append, true_and, and_true, Gp_none, true_implies, S_const, Sk_const, S_tmp, Sk_tmp, Nat.reduceLT, Nat.reduceLeDiff, look_cons, look_nil, Nat.reduceBEq, cond_true, cond_false, ok_d, bare_d, ok_ref, bare_ref, ok_ptr, bare_ptr, ok_ag, bare_ag, implies_true, evS_binOp, binK_some, gr_v, b_add, pure_add, evS_move, Int.reduceAdd, aThen_normal, Th_exit, Th_ret, Bl_normal, Bl_ret, Bl_exit, Po_normal, Po_ret, Nat.reduceEqDiff, ↓reduceIte]
      refine ⟨1, _, by decide, le_SK id [] rfl (l' := [(3, .ref 7000 2), (8, .d (iv 2)), (9, .d (iv 1))]) (m' := [(7000, (⟨True, 35, 4, true, true, 7000, [[.d (iv (legA t).who), .d (iv (legA t).inst), .d (iv (IntKind.wrap .i64 (0 - (legA t).qty))), .d (iv (IntKind.wrap .i64 (0 - (legA t).cost)))], [.d (iv (legB t).who), .d (iv (legB t).inst), .d (iv (legB t).qty), .d (iv (legB t).cost)]]⟩ : ARow))]) ?_ ?_ ?_ ?_, .inr (.inl ⟨rfl, rfl⟩)⟩
      · simp only [leV, look_cons, Nat.reduceBEq, cond_true, cond_false]; exact ⟨VLe.refl _, VLe.refl _, VLe.refl _, trivial⟩
      · exact ⟨fun _ => ⟨_, rfl, ⟨id, rfl, rfl, rfl, id, .inl, VLess.refl _⟩⟩, fun h => by simp at h, trivial⟩
      · simp [wfV, AV.ids, lookR]
      · simp [wfR, AV.idsL, AV.ids]
    · intro hb
      simp at hb
  · skip
    refine awp_seq fun K2 hK2 => ?_
    refine awp_plain F_mixed [some 10] rfl ?_
    simp only [evL_nil, evL_plain, nxS, nxS0, List.nil_append, List.cons_append, true_and, and_true, Gp_none, true_implies, S_const, Sk_const, S_tmp, Sk_tmp, Nat.reduceLT, Nat.reduceLeDiff, look_cons, look_nil, Nat.reduceBEq, cond_true, cond_false, ok_d, bare_d, ok_ref, bare_ref, ok_ptr, bare_ptr, ok_ag, bare_ag, implies_true, evS_binOp, binK_some, gr_v, b_lss, pure_lss, aThen_normal, Th_exit, Th_ret, Bl_normal, Bl_ret, Bl_exit, Po_normal, Po_ret, Nat.reduceEqDiff, ↓reduceIte]
    refine hK2 _ ?_; try clear hK2 K2
    refine awp_keepL [3, 8, 9, 10] ?_
    simp only [keepL_cons, keepL_nil, look_cons, look_nil, Nat.reduceBEq, cond_true, cond_false]
    refine awp_seq fun K2 hK2 => ?_
    refine awp_condS _ (by decide) (by simp only [look_cons, Nat.reduceBEq, cond_true, cond_false]; rfl) ?_ ?_
    · intro hb
      clear hb
      refine awp_skip ?_
      simp only [aThen_normal, Th_exit, Th_ret, Bl_normal, Bl_ret, Bl_exit, Po_normal, Po_ret, Nat.reduceEqDiff, ↓reduceIte]
      refine hK2 _ ?_; try clear hK2 K2
      refine awp_keepL [3, 8, 9] ?_
      simp only [keepL_cons, keepL_nil, look_cons, look_nil, Nat.reduceBEq, cond_true, cond_false]
      refine awp_seq fun K2 hK2 => ?_
      refine awp_block ?_
      refine awp_seq fun K3 hK3 => ?_
      refine awp_plain F_mixed [some 11, some 4] rfl ?_
      simp only [evL_nil, evL_plain, nxS, nxS0, List.nil_append, List.cons_append, true_and, and_true, Gp_none, true_implies, S_const, Sk_const, S_tmp, Sk_tmp, Nat.reduceLT, Nat.reduceLeDiff, look_cons, look_nil, Nat.reduceBEq, cond_true, cond_false, ok_d, bare_d, ok_ref, bare_ref, ok_ptr, bare_ptr, ok_ag, bare_ag, implies_true, evS_move, evS_assign, aThen_normal, Th_exit, Th_ret, Bl_normal, Bl_ret, Bl_exit, Po_normal, Po_ret, Nat.reduceEqDiff, ↓reduceIte]
      refine hK3 _ ?_; try clear hK3 K3
      refine awp_keepL [3, 4, 8, 9] ?_
      simp only [keepL_cons, keepL_nil, look_cons, look_nil, Nat.reduceBEq, cond_true, cond_false]
      refine awp_draw F_mixed [some 12, some 13, some 14, some 15, some 16, some 17, some 18, some 19, some 20, some 21, some 22, some 23, some 24, some 25, some 26, some 27, some 28, some 29, none, some 30, some 31, none] rfl (by kernel_rfl) ?_
      simp only [evL_nil, evL_plain, nxS, nxS0, List.nil_append, List.cons_append, true_and, and_true, Gp_none, true_implies, S_const, Sk_const, S_tmp, Sk_tmp, Nat.reduceLT, Nat.reduceLeDiff, look_cons, look_nil, Nat.reduceBEq, cond_true, cond_false, ok_d, bare_d, ok_ref, bare_ref, ok_ptr, bare_ptr, ok_ag, bare_ag, implies_true, evS_move, evS_indexAddr, bare_ep, ok_ep, evIx_sl, evIx_ref, F_sl22, F_sz35, Option.map_some, S_mem, lookR_cons, lookR_nil, Option.some.injEq, exists_eq_left', exists_eq_left, eq_self, reduceCtorEq, and_self, evS_fieldAddr, faK_ptr, faK_ep, F_off35_1, List.drop_succ_cons, List.drop_zero, Nat.zero_add, Nat.reduceAdd, evS_load, F_ok3, F_ag3, F_sz3, evLd_ptr, ldR_agg, ldR_one, evLd_ep_agg, evLd_ep_one, List.length_cons, List.length_nil, List.getD_cons_zero, List.getD_cons_succ, List.take_succ_cons, List.take_zero, Nat.le_refl, List.set_cons_zero, List.set_cons_succ, evS_unOp, unK_some, gr_v, u_neg, pure_neg, F_off35_2, evS_store, evSo_ptr, soR_some, splice, List.append_nil, cellsOf_ag, cellsOf_agg, cellsOf_int, cellsOf_bool, cellsOf_slice, cellsOf_func, cellsOf_ref, cellsOf_sl, cell1s_nil, cell1s_cons, cell1_int, cell1_bool, cell1_slice, cell1_func, cell1_ref, cell1_sl, List.map_cons, List.map_nil, Int.reduceToNat, cast2, Int.reduceLT, Int.reduceLE, aThen_normal, Th_exit, Th_ret, Bl_normal, Bl_ret, Bl_exit, Po_normal, Po_ret, Nat.reduceEqDiff, ↓reduceIte]
      refine hK2 _ ?_; try clear hK2 K2
      refine awp_keepL [3, 8, 9] ?_
      simp only [keepL_cons, keepL_nil, look_cons, look_nil, Nat.reduceBEq, cond_true, cond_false]
      refine awp_plain F_mixed [some 32, some 9] rfl ?_
      simp only [evL_nil, evL_plain, nxS, nxS0, List.nil_append, List.cons_append, true_and, and_true, Gp_none, true_implies, S_const, Sk_const, S_tmp, Sk_tmp, Nat.reduceLT, Nat.reduceLeDiff, look_cons, look_nil, Nat.reduceBEq, cond_true, cond_false, ok_d, bare_d, ok_ref, bare_ref, ok_ptr, bare_ptr, ok_ag, bare_ag, implies_true, evS_binOp, binK_some, gr_v, b_add, pure_add, evS_move, Int.reduceAdd, aThen_normal, Th_exit, Th_ret, Bl_normal, Bl_ret, Bl_exit, Po_normal, Po_ret, Nat.reduceEqDiff, ↓reduceIte]
      refine ⟨0, _, by decide, le_SK id [] rfl (l' := [(3, .ref 7000 2), (8, .d (iv 2)), (9, .d (iv 2))]) (m' := [(7000, (⟨True, 35, 4, true, true, 7000, [[.d (iv (legA t).who), .d (iv (legA t).inst), .d (iv (IntKind.wrap .i64 (0 - (legA t).qty))), .d (iv (IntKind.wrap .i64 (0 - (legA t).cost)))], [.d (iv (legB t).who), .d (iv (legB t).inst), .d (iv (IntKind.wrap .i64 (0 - (legB t).qty))), .d (iv (IntKind.wrap .i64 (0 - (legB t).cost)))]]⟩ : ARow))]) ?_ ?_ ?_ ?_, .inr (.inr ⟨rfl, rfl⟩)⟩
      · simp only [leV, look_cons, Nat.reduceBEq, cond_true, cond_false]; exact ⟨VLe.refl _, VLe.refl _, VLe.refl _, trivial⟩
      · exact ⟨fun _ => ⟨_, rfl, ⟨id, rfl, rfl, rfl, id, .inl, VLess.refl _⟩⟩, fun h => by simp at h, trivial⟩
      · simp [wfV, AV.ids, lookR]
      · simp [wfR, AV.idsL, AV.ids]
    · intro hb
      simp at hb
  · skip
    refine awp_seq fun K2 hK2 => ?_
    refine awp_plain F_mixed [some 10] rfl ?_
    simp only [evL_nil, evL_plain, nxS, nxS0, List.nil_append, List.cons_append, true_and, and_true, Gp_none, true_implies, S_const, Sk_const, S_tmp, Sk_tmp, Nat.reduceLT, Nat.reduceLeDiff, look_cons, look_nil, Nat.reduceBEq, cond_true, cond_false, ok_d, bare_d, ok_ref, bare_ref, ok_ptr, bare_ptr, ok_ag, bare_ag, implies_true, evS_binOp, binK_some, gr_v, b_lss, pure_lss, aThen_normal, Th_exit, Th_ret, Bl_normal, Bl_ret, Bl_exit, Po_normal, Po_ret, Nat.reduceEqDiff, ↓reduceIte]
    refine hK2 _ ?_; try clear hK2 K2
    refine awp_keepL [3, 8, 9, 10] ?_
    simp only [keepL_cons, keepL_nil, look_cons, look_nil, Nat.reduceBEq, cond_true, cond_false]
    refine awp_seq fun K2 hK2 => ?_
    refine awp_condS _ (by decide) (by simp only [look_cons, Nat.reduceBEq, cond_true, cond_false]; rfl) ?_ ?_
    · intro hb
      simp at hb
    · intro hb
      clear hb
      refine awp_exit ?_
      simp only [aThen_normal, Th_exit, Th_ret, Bl_normal, Bl_ret, Bl_exit, Po_normal, Po_ret, Nat.reduceEqDiff, ↓reduceIte]
      refine hK0 _ ?_; try clear hK0 K0
      refine awp_keepL [3] ?_
      simp only [keepL_cons, keepL_nil, look_cons, look_nil, Nat.reduceBEq, cond_true, cond_false]
      refine awp_seq fun K0 hK0 => ?_
      refine awp_plain F_mixed [some 33, some 2] rfl ?_
      simp only [evL_nil, evL_plain, nxS, nxS0, List.nil_append, List.cons_append, true_and, and_true, Gp_none, true_implies, S_const, Sk_const, S_tmp, Sk_tmp, Nat.reduceLT, Nat.reduceLeDiff, look_cons, look_nil, Nat.reduceBEq, cond_true, cond_false, ok_d, bare_d, ok_ref, bare_ref, ok_ptr, bare_ptr, ok_ag, bare_ag, implies_true, evS_move, evS_assign, aThen_normal, Th_exit, Th_ret, Bl_normal, Bl_ret, Bl_exit, Po_normal, Po_ret, Nat.reduceEqDiff, ↓reduceIte]
      refine hK0 _ ?_; try clear hK0 K0
      refine awp_keepL [2] ?_
      simp only [keepL_cons, keepL_nil, look_cons, look_nil, Nat.reduceBEq, cond_true, cond_false]
      refine awp_ret ?_
      simp only [aThen_normal, Th_exit, Th_ret, Bl_normal, Bl_ret, Bl_exit, Po_normal, Po_ret, Nat.reduceEqDiff, ↓reduceIte]
      refine done1 7000 (by simp only [resCs, resC]; trivial) ?_ (by simp [flatA, flatAs, flatD, undoC, posC]) (by simp [AV.ids, AV.idsL, undoC, posC]) (by rfl) trivial rfl rfl ?_ (by simp [flatDs, flatD, undoC, posC])
      · simp only [List.map_cons, List.map_nil, resA, S_getD, Nat.reduceLT, Nat.reduceLeDiff, look_cons, Nat.reduceBEq, cond_true, cond_false, resAll]; rfl
      · simp only [List.map_cons, List.map_nil, undoC, posC, unLeg]
theorem Undo_no (t : TradeV) (h : tradeOk t = false) : ACalls Try.prog 12 [.agg (tradeC t)] [] (.d (.v (.slice none 0 0))) := by
  refine acalls_S (rs := [.tmp 2]) Try.func12 rfl rfl 34 [(0, .d (.agg (tradeC t)))] rfl (by simp) rfl ?_
  refine awp_seq fun K0 hK0 => ?_
  refine awp_plain F_mixed [some 1, some 2] rfl ?_
  simp only [evL_nil, evL_plain, nxS, nxS0, List.nil_append, List.cons_append, true_and, and_true, Gp_none, true_implies, S_const, Sk_const, S_tmp, Sk_tmp, Nat.reduceLT, Nat.reduceLeDiff, look_cons, look_nil, Nat.reduceBEq, cond_true, cond_false, ok_d, bare_d, ok_ref, bare_ref, ok_ptr, bare_ptr, ok_ag, bare_ag, implies_true, evS_box, boxK_some, newRow1, cellsOf_ag, cellsOf_agg, cellsOf_int, cellsOf_bool, cellsOf_slice, cellsOf_func, cellsOf_ref, cellsOf_sl, cell1s_nil, cell1s_cons, cell1_int, cell1_bool, cell1_slice, cell1_func, cell1_ref, cell1_sl, List.map_cons, List.map_nil, List.length_cons, List.length_nil, S_mem, lookR_cons, lookR_nil, Option.some.injEq, exists_eq_left', exists_eq_left, Option.map_some, eq_self, reduceCtorEq, and_self, Nat.reduceAdd, Nat.zero_add, List.getD_cons_zero, List.getD_cons_succ, List.drop_zero, List.drop_succ_cons, List.take_succ_cons, List.take_zero, Nat.le_refl, List.set_cons_zero, List.set_cons_succ, evS_assign, tradeC, aThen_normal, Th_exit, Th_ret, Bl_normal, Bl_ret, Bl_exit, Po_normal, Po_ret, Nat.reduceEqDiff, ↓reduceIte]
  refine hK0 _ ?_; try clear hK0 K0
  refine awp_keepL [1] ?_
  simp only [keepL_cons, keepL_nil, look_cons, look_nil, Nat.reduceBEq, cond_true, cond_false]
  refine awp_seq fun K0 hK0 => ?_
  refine awp_plain F_mixed [some 5, some 6, some 3] rfl ?_
  simp only [evL_nil, evL_plain, nxS, nxS0, List.nil_append, List.cons_append, true_and, and_true, Gp_none, true_implies, S_const, Sk_const, S_tmp, Sk_tmp, Nat.reduceLT, Nat.reduceLeDiff, look_cons, look_nil, Nat.reduceBEq, cond_true, cond_false, ok_d, bare_d, ok_ref, bare_ref, ok_ptr, bare_ptr, ok_ag, bare_ag, implies_true, evS_load, F_ok30, F_ag30, F_sz30, evLd_ptr, ldR_agg, ldR_one, evLd_ep_agg, evLd_ep_one, bare_ep, ok_ep, List.length_cons, List.length_nil, Nat.reduceAdd, Nat.zero_add, List.getD_cons_zero, List.getD_cons_succ, List.drop_zero, List.drop_succ_cons, List.take_succ_cons, List.take_zero, Nat.le_refl, List.set_cons_zero, List.set_cons_succ, S_mem, lookR_cons, lookR_nil, Option.some.injEq, exists_eq_left', exists_eq_left, Option.map_some, eq_self, reduceCtorEq, and_self, evS_call, evC_value, evS_assign, tradeC, D.agg.injEq, aThen_normal, Th_exit, Th_ret, Bl_normal, Bl_ret, Bl_exit, Po_normal, Po_ret, Nat.reduceEqDiff, ↓reduceIte]
  refine call_go F_go11 (fun hG => Legs_no t h) (by simp [AV.ids, AV.idsL]) (by simp) ?_
  simp only [evL_nil, evL_plain, nxS, nxS0, List.nil_append, List.cons_append, true_and, and_true, Gp_none, true_implies, S_const, Sk_const, S_tmp, Sk_tmp, Nat.reduceLT, Nat.reduceLeDiff, look_cons, look_nil, Nat.reduceBEq, cond_true, cond_false, ok_d, bare_d, ok_ref, bare_ref, ok_ptr, bare_ptr, ok_ag, bare_ag, implies_true, evS_load, F_ok30, F_ag30, F_sz30, evLd_ptr, ldR_agg, ldR_one, evLd_ep_agg, evLd_ep_one, bare_ep, ok_ep, List.length_cons, List.length_nil, Nat.reduceAdd, Nat.zero_add, List.getD_cons_zero, List.getD_cons_succ, List.drop_zero, List.drop_succ_cons, List.take_succ_cons, List.take_zero, Nat.le_refl, List.set_cons_zero, List.set_cons_succ, S_mem, lookR_cons, lookR_nil, Option.some.injEq, exists_eq_left', exists_eq_left, Option.map_some, eq_self, reduceCtorEq, and_self, evS_call, evC_value, evS_assign, tradeC, D.agg.injEq, aThen_normal, Th_exit, Th_ret, Bl_normal, Bl_ret, Bl_exit, Po_normal, Po_ret, Nat.reduceEqDiff, ↓reduceIte, asDs_cons, asDs_nil, atsL, asD_self, asD_nil, asD_sl, asD_agg, asD_int, asD_bool, asD_func, asD_ag, asD_ref, asG_d, asG_ag, asG_ref, oksG, freeN, AV.ren, AV.renL, addRows, ORow.row, Nat.reduceMul, Nat.reduceAdd, unE_cons, unE_nil, unDs_cons, unDs_nil, unE_map, Option.bind_some, Option.map_some, forall_eq', D.sl.injEq, S_mem, Option.some.injEq, exists_eq_left', exists_eq_left, exists_eq', exists_eq, List.length_nil, List.length_cons, lookR_nil, lookR_cons, S_func, Sk_func]
  refine hK0 _ ?_; try clear hK0 K0
  refine awp_keepL [3] ?_
  simp only [keepL_cons, keepL_nil, look_cons, look_nil, Nat.reduceBEq, cond_true, cond_false]
  refine awp_seq fun K0 hK0 => ?_
  refine awp_seq fun K1 hK1 => ?_
  refine awp_plain F_mixed [some 7, some 8, some 9] rfl ?_
  simp only [evL_nil, evL_plain, nxS, nxS0, List.nil_append, List.cons_append, true_and, and_true, Gp_none, true_implies, S_const, Sk_const, S_tmp, Sk_tmp, Nat.reduceLT, Nat.reduceLeDiff, look_cons, look_nil, Nat.reduceBEq, cond_true, cond_false, ok_d, bare_d, ok_ref, bare_ref, ok_ptr, bare_ptr, ok_ag, bare_ag, implies_true, evS_move, evS_call, evC_len, F_sl22, Option.isSome_some, lenK_sl, lenK_nil, lenK_ref, aThen_normal, Th_exit, Th_ret, Bl_normal, Bl_ret, Bl_exit, Po_normal, Po_ret, Nat.reduceEqDiff, ↓reduceIte]
  refine hK1 _ ?_; try clear hK1 K1
  refine awp_keepL [3, 8, 9] ?_
  simp only [keepL_cons, keepL_nil, look_cons, look_nil, Nat.reduceBEq, cond_true, cond_false]
  refine awp_block ?_
  refine awp_loop (fun m s => s = S 34 [(3, .d (.v (.slice none 0 0))), (8, .d (iv 0)), (9, .d (iv 0))] []) 0 _ (le_S0 (l' := [(3, .d (.v (.slice none 0 0))), (8, .d (iv 0)), (9, .d (iv 0))]) ?_ ?_) rfl ?_
  · simp only [leL, look_cons, Nat.reduceBEq, cond_true, cond_false]; trivial
  · simp [wfV, AV.ids]
  rintro m s rfl
  refine awp_seq fun K2 hK2 => ?_
  refine awp_plain F_mixed [some 10] rfl ?_
  simp only [evL_nil, evL_plain, nxS, nxS0, List.nil_append, List.cons_append, true_and, and_true, Gp_none, true_implies, S_const, Sk_const, S_tmp, Sk_tmp, Nat.reduceLT, Nat.reduceLeDiff, look_cons, look_nil, Nat.reduceBEq, cond_true, cond_false, ok_d, bare_d, ok_ref, bare_ref, ok_ptr, bare_ptr, ok_ag, bare_ag, implies_true, evS_binOp, binK_some, gr_v, b_lss, pure_lss, aThen_normal, Th_exit, Th_ret, Bl_normal, Bl_ret, Bl_exit, Po_normal, Po_ret, Nat.reduceEqDiff, ↓reduceIte]
  refine hK2 _ ?_; try clear hK2 K2
  refine awp_keepL [3, 8, 9, 10] ?_
  simp only [keepL_cons, keepL_nil, look_cons, look_nil, Nat.reduceBEq, cond_true, cond_false]
  refine awp_seq fun K2 hK2 => ?_
  refine awp_condS _ (by decide) (by simp only [look_cons, Nat.reduceBEq, cond_true, cond_false]; rfl) ?_ ?_
  · intro hb
    simp at hb
  · intro hb
    clear hb
    refine awp_exit ?_
    simp only [aThen_normal, Th_exit, Th_ret, Bl_normal, Bl_ret, Bl_exit, Po_normal, Po_ret, Nat.reduceEqDiff, ↓reduceIte]
    refine hK0 _ ?_; try clear hK0 K0
    refine awp_keepL [3] ?_
    simp only [keepL_cons, keepL_nil, look_cons, look_nil, Nat.reduceBEq, cond_true, cond_false]
    refine awp_seq fun K0 hK0 => ?_
    refine awp_plain F_mixed [some 33, some 2] rfl ?_
    simp only [evL_nil, evL_plain, nxS, nxS0, List.nil_append, List.cons_append, true_and, and_true, Gp_none, true_implies, S_const, Sk_const, S_tmp, Sk_tmp, Nat.reduceLT, Nat.reduceLeDiff, look_cons, look_nil, Nat.reduceBEq, cond_true, cond_false, ok_d, bare_d, ok_ref, bare_ref, ok_ptr, bare_ptr, ok_ag, bare_ag, implies_true, evS_move, evS_assign, aThen_normal, Th_exit, Th_ret, Bl_normal, Bl_ret, Bl_exit, Po_normal, Po_ret, Nat.reduceEqDiff, ↓reduceIte]
    refine hK0 _ ?_; try clear hK0 K0
    refine awp_keepL [2] ?_
    simp only [keepL_cons, keepL_nil, look_cons, look_nil, Nat.reduceBEq, cond_true, cond_false]
    refine awp_ret ?_
    simp only [aThen_normal, Th_exit, Th_ret, Bl_normal, Bl_ret, Bl_exit, Po_normal, Po_ret, Nat.reduceEqDiff, ↓reduceIte]
    refine done0 (by simp only [resCs, resC]; trivial) ?_ (by simp [flatA, flatAs, flatD]) (by simp [AV.ids, AV.idsL])
    simp only [List.map_cons, List.map_nil, resA, S_getD, Nat.reduceLT, Nat.reduceLeDiff, look_cons, Nat.reduceBEq, cond_true, cond_false, resAll]
    
end Go.Proofs.Ytbagefpamkhndaa
