import Derived.Test.YtbagefpamkhndaaWpC
namespace Go.Proofs.Ytbagefpamkhndaa
open Go.RowKit
set_option linter.unusedVariables false
set_option linter.unusedSimpArgs false
theorem F_go12 : goFn Try.prog 12 := ⟨_, Try.func12, rfl, rfl⟩
theorem F_bool4 : Try.prog.underlying 4 = some .bool := by kernel_rfl
theorem F_off35_0 : offT Try.prog 35 0 = some 0 := by kernel_rfl
theorem F_off33_0 : offT Try.prog 33 0 = some 0 := by kernel_rfl
theorem F_off33_1 : offT Try.prog 33 1 = some 1 := by kernel_rfl
set_option maxRecDepth 100000 in
set_option maxHeartbeats 4000000 in
theorem Flat_no (t : TradeV) (h : tradeOk t = false) : ACalls Try.prog 4 [.agg (tradeC t)] [] (bv true) := by
  refine acalls_S (rs := [.tmp 2]) Try.func4 rfl rfl 142 [(0, .d (.agg (tradeC t)))] rfl (by simp) rfl ?_
  refine awp_seq fun K0 hK0 => ?_
  refine awp_plain F_mixed [some 1, some 2] rfl ?_
  simp only [evL_nil, evL_plain, nxS, nxS0, List.nil_append, List.cons_append, true_and, and_true, Gp_none, true_implies, S_const, Sk_const, S_tmp, Sk_tmp, Nat.reduceLT, Nat.reduceLeDiff, look_cons, look_nil, Nat.reduceBEq, cond_true, cond_false, ok_d, bare_d, ok_ref, bare_ref, ok_ptr, bare_ptr, ok_ag, bare_ag, implies_true, evS_box, boxK_some, newRow1, cellsOf_ag, cellsOf_agg, cellsOf_int, cellsOf_bool, cellsOf_slice, cellsOf_func, cellsOf_ref, cellsOf_sl, cell1s_nil, cell1s_cons, cell1_int, cell1_bool, cell1_slice, cell1_func, cell1_ref, cell1_sl, List.map_cons, List.map_nil, List.length_cons, List.length_nil, S_mem, lookR_cons, lookR_nil, Option.some.injEq, exists_eq_left', exists_eq_left, Option.map_some, eq_self, reduceCtorEq, and_self, Nat.reduceAdd, Nat.zero_add, List.getD_cons_zero, List.getD_cons_succ, List.drop_zero, List.drop_succ_cons, List.take_succ_cons, List.take_zero, Nat.le_refl, List.set_cons_zero, List.set_cons_succ, evS_assign, tradeC, aThen_normal, Th_exit, Th_ret, Bl_normal, Bl_ret, Bl_exit, Po_normal, Po_ret, Nat.reduceEqDiff, ↓reduceIte]
  refine hK0 _ ?_; try clear hK0 K0
  refine awp_keepL [1] ?_
  simp only [keepL_cons, keepL_nil, look_cons, look_nil, Nat.reduceBEq, cond_true, cond_false]
  refine awp_seq fun K0 hK0 => ?_
  refine awp_draw F_mixed [some 10, some 11, some 12, some 13, some 3, some 4] rfl (by kernel_rfl) ?_
  simp only [evL_nil, evL_plain, nxS, nxS0, List.nil_append, List.cons_append, true_and, and_true, Gp_none, true_implies, S_const, Sk_const, S_tmp, Sk_tmp, Nat.reduceLT, Nat.reduceLeDiff, look_cons, look_nil, Nat.reduceBEq, cond_true, cond_false, ok_d, bare_d, ok_ref, bare_ref, ok_ptr, bare_ptr, ok_ag, bare_ag, implies_true, evS_load, F_ok30, F_ag30, F_sz30, evLd_ptr, ldR_agg, ldR_one, evLd_ep_agg, evLd_ep_one, bare_ep, ok_ep, List.length_cons, List.length_nil, Nat.reduceAdd, Nat.zero_add, List.getD_cons_zero, List.getD_cons_succ, List.drop_zero, List.drop_succ_cons, List.take_succ_cons, List.take_zero, Nat.le_refl, List.set_cons_zero, List.set_cons_succ, S_mem, lookR_cons, lookR_nil, Option.some.injEq, exists_eq_left', exists_eq_left, Option.map_some, eq_self, reduceCtorEq, and_self, evS_call, evC_value, evS_assign, tradeC, D.agg.injEq, aThen_normal, Th_exit, Th_ret, Bl_normal, Bl_ret, Bl_exit, Po_normal, Po_ret, Nat.reduceEqDiff, ↓reduceIte]
  refine call_go F_go11 (fun hG => Legs_no t h) (by simp [AV.ids, AV.idsL]) (by simp) ?_
  simp only [evL_nil, evL_plain, nxS, nxS0, List.nil_append, List.cons_append, true_and, and_true, Gp_none, true_implies, S_const, Sk_const, S_tmp, Sk_tmp, Nat.reduceLT, Nat.reduceLeDiff, look_cons, look_nil, Nat.reduceBEq, cond_true, cond_false, ok_d, bare_d, ok_ref, bare_ref, ok_ptr, bare_ptr, ok_ag, bare_ag, implies_true, evS_load, F_ok30, F_ag30, F_sz30, evLd_ptr, ldR_agg, ldR_one, evLd_ep_agg, evLd_ep_one, bare_ep, ok_ep, List.length_cons, List.length_nil, Nat.reduceAdd, Nat.zero_add, List.getD_cons_zero, List.getD_cons_succ, List.drop_zero, List.drop_succ_cons, List.take_succ_cons, List.take_zero, Nat.le_refl, List.set_cons_zero, List.set_cons_succ, S_mem, lookR_cons, lookR_nil, Option.some.injEq, exists_eq_left', exists_eq_left, Option.map_some, eq_self, reduceCtorEq, and_self, evS_call, evC_value, evS_assign, tradeC, D.agg.injEq, aThen_normal, Th_exit, Th_ret, Bl_normal, Bl_ret, Bl_exit, Po_normal, Po_ret, Nat.reduceEqDiff, ↓reduceIte, asDs_cons, asDs_nil, atsL, asD_self, asD_nil, asD_sl, asD_agg, asD_int, asD_bool, asD_func, asD_ag, asD_ref, asG_d, asG_ag, asG_ref, oksG, freeN, AV.ren, AV.renL, addRows, ORow.row, Nat.reduceMul, Nat.reduceAdd, unE_cons, unE_nil, unDs_cons, unDs_nil, unE_map, Option.bind_some, Option.map_some, forall_eq', D.sl.injEq, S_mem, Option.some.injEq, exists_eq_left', exists_eq_left, exists_eq', exists_eq, List.length_nil, List.length_cons, lookR_nil, lookR_cons, S_func, Sk_func]
  refine call_go F_go12 (fun hG => Undo_no t h) (by simp [AV.ids, AV.idsL]) (by simp) ?_
  simp only [evL_nil, evL_plain, nxS, nxS0, List.nil_append, List.cons_append, true_and, and_true, Gp_none, true_implies, S_const, Sk_const, S_tmp, Sk_tmp, Nat.reduceLT, Nat.reduceLeDiff, look_cons, look_nil, Nat.reduceBEq, cond_true, cond_false, ok_d, bare_d, ok_ref, bare_ref, ok_ptr, bare_ptr, ok_ag, bare_ag, implies_true, evS_load, F_ok30, F_ag30, F_sz30, evLd_ptr, ldR_agg, ldR_one, evLd_ep_agg, evLd_ep_one, bare_ep, ok_ep, List.length_cons, List.length_nil, Nat.reduceAdd, Nat.zero_add, List.getD_cons_zero, List.getD_cons_succ, List.drop_zero, List.drop_succ_cons, List.take_succ_cons, List.take_zero, Nat.le_refl, List.set_cons_zero, List.set_cons_succ, S_mem, lookR_cons, lookR_nil, Option.some.injEq, exists_eq_left', exists_eq_left, Option.map_some, eq_self, reduceCtorEq, and_self, evS_call, evC_value, evS_assign, tradeC, D.agg.injEq, aThen_normal, Th_exit, Th_ret, Bl_normal, Bl_ret, Bl_exit, Po_normal, Po_ret, Nat.reduceEqDiff, ↓reduceIte, asDs_cons, asDs_nil, atsL, asD_self, asD_nil, asD_sl, asD_agg, asD_int, asD_bool, asD_func, asD_ag, asD_ref, asG_d, asG_ag, asG_ref, oksG, freeN, AV.ren, AV.renL, addRows, ORow.row, Nat.reduceMul, Nat.reduceAdd, unE_cons, unE_nil, unDs_cons, unDs_nil, unE_map, Option.bind_some, Option.map_some, forall_eq', D.sl.injEq, S_mem, Option.some.injEq, exists_eq_left', exists_eq_left, exists_eq', exists_eq, List.length_nil, List.length_cons, lookR_nil, lookR_cons, S_func, Sk_func]
  refine hK0 _ ?_; try clear hK0 K0
  refine awp_keepL [1, 3, 4] ?_
  simp only [keepL_cons, keepL_nil, look_cons, look_nil, Nat.reduceBEq, cond_true, cond_false]
  refine awp_seq fun K0 hK0 => ?_
  refine awp_plain F_mixed [some 15, some 16, some 14, some 17, some 18, some 19, some 5, some 6, some 7] rfl ?_
  simp only [evL_nil, evL_plain, nxS, nxS0, List.nil_append, List.cons_append, true_and, and_true, Gp_none, true_implies, S_const, Sk_const, S_tmp, Sk_tmp, Nat.reduceLT, Nat.reduceLeDiff, look_cons, look_nil, Nat.reduceBEq, cond_true, cond_false, ok_d, bare_d, ok_ref, bare_ref, ok_ptr, bare_ptr, ok_ag, bare_ag, implies_true, evS_move, evS_call, evC_value, evS_extract, exK_tp, bare_tp, ok_tp, List.length_cons, List.length_nil, Nat.reduceAdd, Nat.zero_add, List.getD_cons_zero, List.getD_cons_succ, evS_assign, poss, List.map_nil, tsQ_nil, tsC_nil, tsE_nil, aThen_normal, Th_exit, Th_ret, Bl_normal, Bl_ret, Bl_exit, Po_normal, Po_ret, Nat.reduceEqDiff, ↓reduceIte]
  refine call_go F_go8 (fun hG => tSum_ [] (by simp)) (by simp [AV.ids, AV.idsL]) (by simp) ?_
  simp only [evL_nil, evL_plain, nxS, nxS0, List.nil_append, List.cons_append, true_and, and_true, Gp_none, true_implies, S_const, Sk_const, S_tmp, Sk_tmp, Nat.reduceLT, Nat.reduceLeDiff, look_cons, look_nil, Nat.reduceBEq, cond_true, cond_false, ok_d, bare_d, ok_ref, bare_ref, ok_ptr, bare_ptr, ok_ag, bare_ag, implies_true, evS_move, evS_call, evC_value, evS_extract, exK_tp, bare_tp, ok_tp, List.length_cons, List.length_nil, Nat.reduceAdd, Nat.zero_add, List.getD_cons_zero, List.getD_cons_succ, evS_assign, poss, List.map_nil, tsQ_nil, tsC_nil, tsE_nil, aThen_normal, Th_exit, Th_ret, Bl_normal, Bl_ret, Bl_exit, Po_normal, Po_ret, Nat.reduceEqDiff, ↓reduceIte, asDs_cons, asDs_nil, atsL, asD_self, asD_nil, asD_sl, asD_agg, asD_int, asD_bool, asD_func, asD_ag, asD_ref, asG_d, asG_ag, asG_ref, oksG, freeN, AV.ren, AV.renL, addRows, ORow.row, Nat.reduceMul, Nat.reduceAdd, unE_cons, unE_nil, unDs_cons, unDs_nil, unE_map, Option.bind_some, Option.map_some, forall_eq', D.sl.injEq, S_mem, Option.some.injEq, exists_eq_left', exists_eq_left, exists_eq', exists_eq, List.length_nil, List.length_cons, lookR_nil, lookR_cons, S_func, Sk_func]
  refine hK0 _ ?_; try clear hK0 K0
  refine awp_keepL [1, 3, 4, 5, 6, 7] ?_
  simp only [keepL_cons, keepL_nil, look_cons, look_nil, Nat.reduceBEq, cond_true, cond_false]
  refine awp_seq fun K0 hK0 => ?_
  refine awp_seq fun K1 hK1 => ?_
  refine awp_plain F_mixed [some 20, some 21, some 22, some 23, some 24, some 25, some 26, some 27, some 28, some 29, some 30, some 31, some 32, some 33, some 34, some 35, some 36, some 37, some 38, some 39, some 40, some 41, some 42, some 43, some 44, some 45, some 46] rfl ?_
  simp only [evL_nil, evL_plain, nxS, nxS0, List.nil_append, List.cons_append, true_and, and_true, Gp_none, true_implies, S_const, Sk_const, S_tmp, Sk_tmp, Nat.reduceLT, Nat.reduceLeDiff, look_cons, look_nil, Nat.reduceBEq, cond_true, cond_false, ok_d, bare_d, ok_ref, bare_ref, ok_ptr, bare_ptr, ok_ag, bare_ag, implies_true, evL_guard, evG_some, evGK_b, evGK_wh, nthD_cons, Nat.reduceSub, S_getD, nxSg, Gp_some, bare_wh, ok_wh, and_imp, imp_and, imp2, imp_self, and_self, evS_move, evS_binOp, binK_some, gr_v, b_neq, pure_neq, evS_pick, pickK_bool, bif_tt, bif_ff, evS_call, evC_len, F_sl22, Option.isSome_some, lenK_sl, lenK_nil, lenK_ref, Bool.or_false, Bool.false_or, Bool.or_true, Bool.true_or, Bool.and_true, Bool.true_and, Bool.and_false, Bool.false_and, bne_self_eq_false, beq_self_eq_true, Bool.not_true, Bool.not_false, Int.reduceBEq, Int.reduceBNe, Int.reduceLT, Int.reduceLE, Int.reduceToNat, eq_self, reduceCtorEq, Bool.true_eq_false, Bool.false_eq_true, decide_true, decide_false, false_implies, aThen_normal, Th_exit, Th_ret, Bl_normal, Bl_ret, Bl_exit, Po_normal, Po_ret, Nat.reduceEqDiff, ↓reduceIte]
  refine hK1 _ ?_; try clear hK1 K1
  refine awp_keepL [1, 3, 4, 46] ?_
  simp only [keepL_cons, keepL_nil, look_cons, look_nil, Nat.reduceBEq, cond_true, cond_false]
  refine awp_condS _ (by decide) (by simp only [look_cons, Nat.reduceBEq, cond_true, cond_false]; rfl) ?_ ?_
  · intro hb
    simp at hb
  · intro hb
    clear hb
    refine awp_skip ?_
    simp only [aThen_normal, Th_exit, Th_ret, Bl_normal, Bl_ret, Bl_exit, Po_normal, Po_ret, Nat.reduceEqDiff, ↓reduceIte]
    refine hK0 _ ?_; try clear hK0 K0
    refine awp_keepL [1, 3, 4] ?_
    simp only [keepL_cons, keepL_nil, look_cons, look_nil, Nat.reduceBEq, cond_true, cond_false]
    refine awp_seq fun K0 hK0 => ?_
    refine awp_seq fun K1 hK1 => ?_
    refine awp_plain F_mixed [some 8] rfl ?_
    simp only [evL_nil, evL_plain, nxS, nxS0, List.nil_append, List.cons_append, true_and, and_true, Gp_none, true_implies, S_const, Sk_const, S_tmp, Sk_tmp, Nat.reduceLT, Nat.reduceLeDiff, look_cons, look_nil, Nat.reduceBEq, cond_true, cond_false, ok_d, bare_d, ok_ref, bare_ref, ok_ptr, bare_ptr, ok_ag, bare_ag, implies_true, evS_assign, aThen_normal, Th_exit, Th_ret, Bl_normal, Bl_ret, Bl_exit, Po_normal, Po_ret, Nat.reduceEqDiff, ↓reduceIte]
    refine hK1 _ ?_; try clear hK1 K1
    refine awp_keepL [1, 3, 4, 8] ?_
    simp only [keepL_cons, keepL_nil, look_cons, look_nil, Nat.reduceBEq, cond_true, cond_false]
    refine awp_block ?_
    refine awp_loop (fun m s => s = S 142 [(1, .ptr 1 0 0), (3, .d (.v (.slice none 0 0))), (4, .d (.v (.slice none 0 0))), (8, .d (iv 0))] [(1, (⟨True, 30, 7, true, false, 1, [[.d (iv t.no), .d (iv t.buyer), .d (iv t.seller), .d (iv t.inst), .d (iv t.qty), .d (iv t.price), .d (.v (.bool t.gone))]]⟩ : ARow))]) 0 _ (le_SK id [] rfl (l' := [(1, .ptr 1 0 0), (3, .d (.v (.slice none 0 0))), (4, .d (.v (.slice none 0 0))), (8, .d (iv 0))]) (m' := [(1, (⟨True, 30, 7, true, false, 1, [[.d (iv t.no), .d (iv t.buyer), .d (iv t.seller), .d (iv t.inst), .d (iv t.qty), .d (iv t.price), .d (.v (.bool t.gone))]]⟩ : ARow))]) ?_ ?_ ?_ ?_) rfl ?_
    · simp only [leV, look_cons, Nat.reduceBEq, cond_true, cond_false]; exact ⟨VLe.refl _, VLe.refl _, VLe.refl _, VLe.refl _, trivial⟩
    · exact ⟨fun _ => ⟨_, rfl, ⟨id, rfl, rfl, rfl, id, .inl, VLess.refl _⟩⟩, fun h => by simp at h, trivial⟩
    · simp [wfV, AV.ids, AV.idsL, lookR]
    · simp [wfR, AV.idsL, AV.ids]
    rintro m s rfl
    refine awp_seq fun K2 hK2 => ?_
    refine awp_seq fun K3 hK3 => ?_
    refine awp_plain F_mixed [some 47, some 48, some 49, some 50] rfl ?_
    simp only [evL_nil, evL_plain, nxS, nxS0, List.nil_append, List.cons_append, true_and, and_true, Gp_none, true_implies, S_const, Sk_const, S_tmp, Sk_tmp, Nat.reduceLT, Nat.reduceLeDiff, look_cons, look_nil, Nat.reduceBEq, cond_true, cond_false, ok_d, bare_d, ok_ref, bare_ref, ok_ptr, bare_ptr, ok_ag, bare_ag, implies_true, evS_move, evS_call, evC_len, F_sl22, Option.isSome_some, lenK_sl, lenK_nil, lenK_ref, evS_binOp, binK_some, gr_v, b_lss, pure_lss, aThen_normal, Th_exit, Th_ret, Bl_normal, Bl_ret, Bl_exit, Po_normal, Po_ret, Nat.reduceEqDiff, ↓reduceIte]
    refine hK3 _ ?_; try clear hK3 K3
    refine awp_keepL [1, 3, 4, 8, 50] ?_
    simp only [keepL_cons, keepL_nil, look_cons, look_nil, Nat.reduceBEq, cond_true, cond_false]
    refine awp_condS _ (by decide) (by simp only [look_cons, Nat.reduceBEq, cond_true, cond_false]; rfl) ?_ ?_
    · intro hb
      simp at hb
    · intro hb
      clear hb
      refine awp_exit ?_
      simp only [aThen_normal, Th_exit, Th_ret, Bl_normal, Bl_ret, Bl_exit, Po_normal, Po_ret, Nat.reduceEqDiff, ↓reduceIte]
      refine hK0 _ ?_; try clear hK0 K0
      refine awp_keepL [1, 3] ?_
      simp only [keepL_cons, keepL_nil, look_cons, look_nil, Nat.reduceBEq, cond_true, cond_false]
      refine awp_seq fun K0 hK0 => ?_
      refine awp_plain F_mixed [some 116, some 117, some 118, some 119, some 120, some 121, some 122, some 123, some 124, some 125, some 126, some 127, some 128, some 129, some 130, some 131, some 132, some 133, some 9] rfl ?_
      simp only [evL_nil, evL_plain, nxS, nxS0, List.nil_append, List.cons_append, true_and, and_true, Gp_none, true_implies, S_const, Sk_const, S_tmp, Sk_tmp, Nat.reduceLT, Nat.reduceLeDiff, look_cons, look_nil, Nat.reduceBEq, cond_true, cond_false, ok_d, bare_d, ok_ref, bare_ref, ok_ptr, bare_ptr, ok_ag, bare_ag, implies_true, evL_guard, evG_some, evGK_b, evGK_wh, nthD_cons, Nat.reduceSub, S_getD, nxSg, Gp_some, bare_wh, ok_wh, and_imp, imp_and, imp2, imp_self, and_self, evS_fieldAddr, faK_ptr, faK_ep, bare_ep, ok_ep, F_off30_4, List.drop_succ_cons, List.drop_zero, Nat.zero_add, Nat.reduceAdd, evS_load, F_ok3, F_ag3, F_sz3, evLd_ptr, ldR_agg, ldR_one, evLd_ep_agg, evLd_ep_one, List.length_cons, List.length_nil, List.getD_cons_zero, List.getD_cons_succ, List.take_succ_cons, List.take_zero, Nat.le_refl, List.set_cons_zero, List.set_cons_succ, S_mem, lookR_cons, lookR_nil, Option.some.injEq, exists_eq_left', exists_eq_left, Option.map_some, eq_self, reduceCtorEq, evS_binOp, binK_some, gr_v, b_geq, pure_geq, evS_move, b_leq, pure_leq, evS_pick, pickK_bool, bif_tt, bif_ff, F_off30_5, evS_assign, aThen_normal, Th_exit, Th_ret, Bl_normal, Bl_ret, Bl_exit, Po_normal, Po_ret, Nat.reduceEqDiff, ↓reduceIte]
      refine hK0 _ ?_; try clear hK0 K0
      refine awp_keepL [3, 9] ?_
      simp only [keepL_cons, keepL_nil, look_cons, look_nil, Nat.reduceBEq, cond_true, cond_false]
      refine awp_seq fun K0 hK0 => ?_
      refine awp_plain F_mixed [some 134, some 135, some 136, some 137, some 138, some 139, some 140, some 141, some 2] rfl ?_
      simp only [evL_nil, evL_plain, nxS, nxS0, List.nil_append, List.cons_append, true_and, and_true, Gp_none, true_implies, S_const, Sk_const, S_tmp, Sk_tmp, Nat.reduceLT, Nat.reduceLeDiff, look_cons, look_nil, Nat.reduceBEq, cond_true, cond_false, ok_d, bare_d, ok_ref, bare_ref, ok_ptr, bare_ptr, ok_ag, bare_ag, implies_true, evL_guard, evG_some, evGK_b, evGK_wh, nthD_cons, Nat.reduceSub, S_getD, nxSg, Gp_some, bare_wh, ok_wh, and_imp, imp_and, imp2, imp_self, and_self, evS_move, evS_call, evC_len, F_sl22, Option.isSome_some, lenK_sl, lenK_nil, lenK_ref, evS_binOp, binK_some, gr_v, b_eql, pure_eql, b_eqlb, pure_eqlb F_bool4, evC_value, evS_pick, pickK_bool, bif_tt, bif_ff, evS_assign, Bool.or_false, Bool.false_or, Bool.or_true, Bool.true_or, Bool.and_true, Bool.true_and, Bool.and_false, Bool.false_and, bne_self_eq_false, beq_self_eq_true, Bool.not_true, Bool.not_false, Int.reduceBEq, Int.reduceBNe, Int.reduceLT, Int.reduceLE, Int.reduceToNat, eq_self, reduceCtorEq, Bool.true_eq_false, Bool.false_eq_true, decide_true, decide_false, false_implies, aThen_normal, Th_exit, Th_ret, Bl_normal, Bl_ret, Bl_exit, Po_normal, Po_ret, Nat.reduceEqDiff, ↓reduceIte]
      refine call_go F_go10 (fun hG => wakes_) (by simp [AV.ids, AV.idsL]) (by simp) ?_
      simp only [evL_nil, evL_plain, nxS, nxS0, List.nil_append, List.cons_append, true_and, and_true, Gp_none, true_implies, S_const, Sk_const, S_tmp, Sk_tmp, Nat.reduceLT, Nat.reduceLeDiff, look_cons, look_nil, Nat.reduceBEq, cond_true, cond_false, ok_d, bare_d, ok_ref, bare_ref, ok_ptr, bare_ptr, ok_ag, bare_ag, implies_true, evL_guard, evG_some, evGK_b, evGK_wh, nthD_cons, Nat.reduceSub, S_getD, nxSg, Gp_some, bare_wh, ok_wh, and_imp, imp_and, imp2, imp_self, and_self, evS_move, evS_call, evC_len, F_sl22, Option.isSome_some, lenK_sl, lenK_nil, lenK_ref, evS_binOp, binK_some, gr_v, b_eql, pure_eql, b_eqlb, pure_eqlb F_bool4, evC_value, evS_pick, pickK_bool, bif_tt, bif_ff, evS_assign, Bool.or_false, Bool.false_or, Bool.or_true, Bool.true_or, Bool.and_true, Bool.true_and, Bool.and_false, Bool.false_and, bne_self_eq_false, beq_self_eq_true, Bool.not_true, Bool.not_false, Int.reduceBEq, Int.reduceBNe, Int.reduceLT, Int.reduceLE, Int.reduceToNat, eq_self, reduceCtorEq, Bool.true_eq_false, Bool.false_eq_true, decide_true, decide_false, false_implies, aThen_normal, Th_exit, Th_ret, Bl_normal, Bl_ret, Bl_exit, Po_normal, Po_ret, Nat.reduceEqDiff, ↓reduceIte, asDs_cons, asDs_nil, atsL, asD_self, asD_nil, asD_sl, asD_agg, asD_int, asD_bool, asD_func, asD_ag, asD_ref, asG_d, asG_ag, asG_ref, oksG, freeN, AV.ren, AV.renL, addRows, ORow.row, Nat.reduceMul, Nat.reduceAdd, unE_cons, unE_nil, unDs_cons, unDs_nil, unE_map, Option.bind_some, Option.map_some, forall_eq', D.sl.injEq, S_mem, Option.some.injEq, exists_eq_left', exists_eq_left, exists_eq', exists_eq, List.length_nil, List.length_cons, lookR_nil, lookR_cons, S_func, Sk_func]
      refine hK0 _ ?_; try clear hK0 K0
      refine awp_keepL [2] ?_
      simp only [keepL_cons, keepL_nil, look_cons, look_nil, Nat.reduceBEq, cond_true, cond_false]
      refine awp_ret ?_
      simp only [aThen_normal, Th_exit, Th_ret, Bl_normal, Bl_ret, Bl_exit, Po_normal, Po_ret, Nat.reduceEqDiff, ↓reduceIte]
      refine done0 (by simp only [resCs, resC]; trivial) ?_ (by simp [flatA, flatAs, flatD]) (by simp [AV.ids, AV.idsL])
      simp only [List.map_cons, List.map_nil, resA, S_getD, Nat.reduceLT, Nat.reduceLeDiff, look_cons, Nat.reduceBEq, cond_true, cond_false, resAll]
      simp only [tradeOk] at h; simp [h]
set_option maxRecDepth 100000 in
set_option maxHeartbeats 4000000 in
theorem Flat_yes (t : TradeV) (h : tradeOk t = true) : ACalls Try.prog 4 [.agg (tradeC t)] [] (bv true) := by
  refine acalls_S (rs := [.tmp 2]) Try.func4 rfl rfl 142 [(0, .d (.agg (tradeC t)))] rfl (by simp) rfl ?_
  have eQ := tsQ_legs h
  have eC := tsC_legs h
  have eE := tsE_legs h
  have z1 := un_add (legA_bound h).1
  have z2 := un_add (legA_bound h).2
  have z3 := un_add (legB_bound h).1
  have z4 := un_add (legB_bound h).2
  refine awp_seq fun K0 hK0 => ?_
  refine awp_plain F_mixed [some 1, some 2] rfl ?_
  simp only [evL_nil, evL_plain, nxS, nxS0, List.nil_append, List.cons_append, true_and, and_true, Gp_none, true_implies, S_const, Sk_const, S_tmp, Sk_tmp, Nat.reduceLT, Nat.reduceLeDiff, look_cons, look_nil, Nat.reduceBEq, cond_true, cond_false, ok_d, bare_d, ok_ref, bare_ref, ok_ptr, bare_ptr, ok_ag, bare_ag, implies_true, evS_box, boxK_some, newRow1, cellsOf_ag, cellsOf_agg, cellsOf_int, cellsOf_bool, cellsOf_slice, cellsOf_func, cellsOf_ref, cellsOf_sl, cell1s_nil, cell1s_cons, cell1_int, cell1_bool, cell1_slice, cell1_func, cell1_ref, cell1_sl, List.map_cons, List.map_nil, List.length_cons, List.length_nil, S_mem, lookR_cons, lookR_nil, Option.some.injEq, exists_eq_left', exists_eq_left, Option.map_some, eq_self, reduceCtorEq, and_self, Nat.reduceAdd, Nat.zero_add, List.getD_cons_zero, List.getD_cons_succ, List.drop_zero, List.drop_succ_cons, List.take_succ_cons, List.take_zero, Nat.le_refl, List.set_cons_zero, List.set_cons_succ, evS_assign, tradeC, aThen_normal, Th_exit, Th_ret, Bl_normal, Bl_ret, Bl_exit, Po_normal, Po_ret, Nat.reduceEqDiff, ↓reduceIte]
  refine hK0 _ ?_; try clear hK0 K0
  refine awp_keepL [1] ?_
  simp only [keepL_cons, keepL_nil, look_cons, look_nil, Nat.reduceBEq, cond_true, cond_false]
  refine awp_seq fun K0 hK0 => ?_
  refine awp_draw F_mixed [some 10, some 11, some 12, some 13, some 3, some 4] rfl (by kernel_rfl) ?_
  simp only [evL_nil, evL_plain, nxS, nxS0, List.nil_append, List.cons_append, true_and, and_true, Gp_none, true_implies, S_const, Sk_const, S_tmp, Sk_tmp, Nat.reduceLT, Nat.reduceLeDiff, look_cons, look_nil, Nat.reduceBEq, cond_true, cond_false, ok_d, bare_d, ok_ref, bare_ref, ok_ptr, bare_ptr, ok_ag, bare_ag, implies_true, evS_load, F_ok30, F_ag30, F_sz30, evLd_ptr, ldR_agg, ldR_one, evLd_ep_agg, evLd_ep_one, bare_ep, ok_ep, List.length_cons, List.length_nil, Nat.reduceAdd, Nat.zero_add, List.getD_cons_zero, List.getD_cons_succ, List.drop_zero, List.drop_succ_cons, List.take_succ_cons, List.take_zero, Nat.le_refl, List.set_cons_zero, List.set_cons_succ, S_mem, lookR_cons, lookR_nil, Option.some.injEq, exists_eq_left', exists_eq_left, Option.map_some, eq_self, reduceCtorEq, and_self, evS_call, evC_value, evS_assign, tradeC, D.agg.injEq, legsC, undoC, posC, unLeg, aThen_normal, Th_exit, Th_ret, Bl_normal, Bl_ret, Bl_exit, Po_normal, Po_ret, Nat.reduceEqDiff, ↓reduceIte]
  refine call_go F_go11 (fun hG => Legs_yes t h) (by simp [AV.ids, AV.idsL]) (by simp) ?_
  simp only [evL_nil, evL_plain, nxS, nxS0, List.nil_append, List.cons_append, true_and, and_true, Gp_none, true_implies, S_const, Sk_const, S_tmp, Sk_tmp, Nat.reduceLT, Nat.reduceLeDiff, look_cons, look_nil, Nat.reduceBEq, cond_true, cond_false, ok_d, bare_d, ok_ref, bare_ref, ok_ptr, bare_ptr, ok_ag, bare_ag, implies_true, evS_load, F_ok30, F_ag30, F_sz30, evLd_ptr, ldR_agg, ldR_one, evLd_ep_agg, evLd_ep_one, bare_ep, ok_ep, List.length_cons, List.length_nil, Nat.reduceAdd, Nat.zero_add, List.getD_cons_zero, List.getD_cons_succ, List.drop_zero, List.drop_succ_cons, List.take_succ_cons, List.take_zero, Nat.le_refl, List.set_cons_zero, List.set_cons_succ, S_mem, lookR_cons, lookR_nil, Option.some.injEq, exists_eq_left', exists_eq_left, Option.map_some, eq_self, reduceCtorEq, and_self, evS_call, evC_value, evS_assign, tradeC, D.agg.injEq, legsC, undoC, posC, unLeg, aThen_normal, Th_exit, Th_ret, Bl_normal, Bl_ret, Bl_exit, Po_normal, Po_ret, Nat.reduceEqDiff, ↓reduceIte, asDs_cons, asDs_nil, atsL, asD_self, asD_nil, asD_sl, asD_agg, asD_int, asD_bool, asD_func, asD_ag, asD_ref, asG_d, asG_ag, asG_ref, oksG, freeN, AV.ren, AV.renL, addRows, ORow.row, Nat.reduceMul, Nat.reduceAdd, unE_cons, unE_nil, unDs_cons, unDs_nil, unE_map, Option.bind_some, Option.map_some, forall_eq', D.sl.injEq, S_mem, Option.some.injEq, exists_eq_left', exists_eq_left, exists_eq', exists_eq, List.length_nil, List.length_cons, lookR_nil, lookR_cons, S_func, Sk_func]
  refine call_go F_go12 (fun hG => Undo_yes t h) (by simp [AV.ids, AV.idsL]) (by simp) ?_
  simp only [evL_nil, evL_plain, nxS, nxS0, List.nil_append, List.cons_append, true_and, and_true, Gp_none, true_implies, S_const, Sk_const, S_tmp, Sk_tmp, Nat.reduceLT, Nat.reduceLeDiff, look_cons, look_nil, Nat.reduceBEq, cond_true, cond_false, ok_d, bare_d, ok_ref, bare_ref, ok_ptr, bare_ptr, ok_ag, bare_ag, implies_true, evS_load, F_ok30, F_ag30, F_sz30, evLd_ptr, ldR_agg, ldR_one, evLd_ep_agg, evLd_ep_one, bare_ep, ok_ep, List.length_cons, List.length_nil, Nat.reduceAdd, Nat.zero_add, List.getD_cons_zero, List.getD_cons_succ, List.drop_zero, List.drop_succ_cons, List.take_succ_cons, List.take_zero, Nat.le_refl, List.set_cons_zero, List.set_cons_succ, S_mem, lookR_cons, lookR_nil, Option.some.injEq, exists_eq_left', exists_eq_left, Option.map_some, eq_self, reduceCtorEq, and_self, evS_call, evC_value, evS_assign, tradeC, D.agg.injEq, legsC, undoC, posC, unLeg, aThen_normal, Th_exit, Th_ret, Bl_normal, Bl_ret, Bl_exit, Po_normal, Po_ret, Nat.reduceEqDiff, ↓reduceIte, asDs_cons, asDs_nil, atsL, asD_self, asD_nil, asD_sl, asD_agg, asD_int, asD_bool, asD_func, asD_ag, asD_ref, asG_d, asG_ag, asG_ref, oksG, freeN, AV.ren, AV.renL, addRows, ORow.row, Nat.reduceMul, Nat.reduceAdd, unE_cons, unE_nil, unDs_cons, unDs_nil, unE_map, Option.bind_some, Option.map_some, forall_eq', D.sl.injEq, S_mem, Option.some.injEq, exists_eq_left', exists_eq_left, exists_eq', exists_eq, List.length_nil, List.length_cons, lookR_nil, lookR_cons, S_func, Sk_func]
  refine hK0 _ ?_; try clear hK0 K0
  refine awp_keepL [1, 3, 4] ?_
  simp only [keepL_cons, keepL_nil, look_cons, look_nil, Nat.reduceBEq, cond_true, cond_false]
  refine awp_seq fun K0 hK0 => ?_
  refine awp_plain F_mixed [some 15, some 16, some 14, some 17, some 18, some 19, some 5, some 6, some 7] rfl ?_
  simp only [evL_nil, evL_plain, nxS, nxS0, List.nil_append, List.cons_append, true_and, and_true, Gp_none, true_implies, S_const, Sk_const, S_tmp, Sk_tmp, Nat.reduceLT, Nat.reduceLeDiff, look_cons, look_nil, Nat.reduceBEq, cond_true, cond_false, ok_d, bare_d, ok_ref, bare_ref, ok_ptr, bare_ptr, ok_ag, bare_ag, implies_true, evS_move, evS_call, evC_value, evS_extract, exK_tp, bare_tp, ok_tp, List.length_cons, List.length_nil, Nat.reduceAdd, Nat.zero_add, List.getD_cons_zero, List.getD_cons_succ, evS_assign, poss, posC, List.map_cons, List.map_nil, eQ, eC, eE, aThen_normal, Th_exit, Th_ret, Bl_normal, Bl_ret, Bl_exit, Po_normal, Po_ret, Nat.reduceEqDiff, ↓reduceIte]
  refine call_go F_go8 (fun hG => tSum_ [legA t, legB t] (by simp)) (by simp [AV.ids, AV.idsL]) (by simp) ?_
  simp only [evL_nil, evL_plain, nxS, nxS0, List.nil_append, List.cons_append, true_and, and_true, Gp_none, true_implies, S_const, Sk_const, S_tmp, Sk_tmp, Nat.reduceLT, Nat.reduceLeDiff, look_cons, look_nil, Nat.reduceBEq, cond_true, cond_false, ok_d, bare_d, ok_ref, bare_ref, ok_ptr, bare_ptr, ok_ag, bare_ag, implies_true, evS_move, evS_call, evC_value, evS_extract, exK_tp, bare_tp, ok_tp, List.length_cons, List.length_nil, Nat.reduceAdd, Nat.zero_add, List.getD_cons_zero, List.getD_cons_succ, evS_assign, poss, posC, List.map_cons, List.map_nil, eQ, eC, eE, aThen_normal, Th_exit, Th_ret, Bl_normal, Bl_ret, Bl_exit, Po_normal, Po_ret, Nat.reduceEqDiff, ↓reduceIte, asDs_cons, asDs_nil, atsL, asD_self, asD_nil, asD_sl, asD_agg, asD_int, asD_bool, asD_func, asD_ag, asD_ref, asG_d, asG_ag, asG_ref, oksG, freeN, AV.ren, AV.renL, addRows, ORow.row, Nat.reduceMul, Nat.reduceAdd, unE_cons, unE_nil, unDs_cons, unDs_nil, unE_map, Option.bind_some, Option.map_some, forall_eq', D.sl.injEq, S_mem, Option.some.injEq, exists_eq_left', exists_eq_left, exists_eq', exists_eq, List.length_nil, List.length_cons, lookR_nil, lookR_cons, S_func, Sk_func]
  refine hK0 _ ?_; try clear hK0 K0
  refine awp_keepL [1, 3, 4, 5, 6, 7] ?_
  simp only [keepL_cons, keepL_nil, look_cons, look_nil, Nat.reduceBEq, cond_true, cond_false]
  refine awp_seq fun K0 hK0 => ?_
  refine awp_seq fun K1 hK1 => ?_
  refine awp_plain F_mixed [some 20, some 21, some 22, some 23, some 24, some 25, some 26, some 27, some 28, some 29, some 30, some 31, some 32, some 33, some 34, some 35, some 36, some 37, some 38, some 39, some 40, some 41, some 42, some 43, some 44, some 45, some 46] rfl ?_
  simp only [evL_nil, evL_plain, nxS, nxS0, List.nil_append, List.cons_append, true_and, and_true, Gp_none, true_implies, S_const, Sk_const, S_tmp, Sk_tmp, Nat.reduceLT, Nat.reduceLeDiff, look_cons, look_nil, Nat.reduceBEq, cond_true, cond_false, ok_d, bare_d, ok_ref, bare_ref, ok_ptr, bare_ptr, ok_ag, bare_ag, implies_true, evL_guard, evG_some, evGK_b, evGK_wh, nthD_cons, Nat.reduceSub, S_getD, nxSg, Gp_some, bare_wh, ok_wh, and_imp, imp_and, imp2, imp_self, and_self, evS_move, evS_binOp, binK_some, gr_v, b_neq, pure_neq, evS_pick, pickK_bool, bif_tt, bif_ff, evS_call, evC_len, F_sl22, Option.isSome_some, lenK_sl, lenK_nil, lenK_ref, Bool.or_false, Bool.false_or, Bool.or_true, Bool.true_or, Bool.and_true, Bool.true_and, Bool.and_false, Bool.false_and, bne_self_eq_false, beq_self_eq_true, Bool.not_true, Bool.not_false, Int.reduceBEq, Int.reduceBNe, Int.reduceLT, Int.reduceLE, Int.reduceToNat, eq_self, reduceCtorEq, Bool.true_eq_false, Bool.false_eq_true, decide_true, decide_false, false_implies, cast2, aThen_normal, Th_exit, Th_ret, Bl_normal, Bl_ret, Bl_exit, Po_normal, Po_ret, Nat.reduceEqDiff, ↓reduceIte]
  refine hK1 _ ?_; try clear hK1 K1
  refine awp_keepL [1, 3, 4, 46] ?_
  simp only [keepL_cons, keepL_nil, look_cons, look_nil, Nat.reduceBEq, cond_true, cond_false]
  refine awp_condS _ (by decide) (by simp only [look_cons, Nat.reduceBEq, cond_true, cond_false]; rfl) ?_ ?_
  · intro hb
    simp at hb
  · intro hb
    clear hb
    refine awp_skip ?_
    simp only [aThen_normal, Th_exit, Th_ret, Bl_normal, Bl_ret, Bl_exit, Po_normal, Po_ret, Nat.reduceEqDiff, ↓reduceIte]
    refine hK0 _ ?_; try clear hK0 K0
    refine awp_keepL [1, 3, 4] ?_
    simp only [keepL_cons, keepL_nil, look_cons, look_nil, Nat.reduceBEq, cond_true, cond_false]
    refine awp_seq fun K0 hK0 => ?_
    refine awp_seq fun K1 hK1 => ?_
    refine awp_plain F_mixed [some 8] rfl ?_
    simp only [evL_nil, evL_plain, nxS, nxS0, List.nil_append, List.cons_append, true_and, and_true, Gp_none, true_implies, S_const, Sk_const, S_tmp, Sk_tmp, Nat.reduceLT, Nat.reduceLeDiff, look_cons, look_nil, Nat.reduceBEq, cond_true, cond_false, ok_d, bare_d, ok_ref, bare_ref, ok_ptr, bare_ptr, ok_ag, bare_ag, implies_true, evS_assign, aThen_normal, Th_exit, Th_ret, Bl_normal, Bl_ret, Bl_exit, Po_normal, Po_ret, Nat.reduceEqDiff, ↓reduceIte]
    refine hK1 _ ?_; try clear hK1 K1
    refine awp_keepL [1, 3, 4, 8] ?_
    simp only [keepL_cons, keepL_nil, look_cons, look_nil, Nat.reduceBEq, cond_true, cond_false]
    refine awp_block ?_
    refine awp_loop (fun m s => (m = 2 ∧ s = S 142 [(1, .ptr 1 0 0), (3, .ref 12000 2), (4, .ref 14000 2), (8, .d (iv 0))] [(1, (⟨True, 30, 7, true, false, 1, [[.d (iv t.no), .d (iv t.buyer), .d (iv t.seller), .d (iv t.inst), .d (iv t.qty), .d (iv t.price), .d (.v (.bool t.gone))]]⟩ : ARow)), (12000, (⟨True, 35, 4, true, true, 12000, [[.d (iv (legA t).who), .d (iv (legA t).inst), .d (iv (legA t).qty), .d (iv (legA t).cost)], [.d (iv (legB t).who), .d (iv (legB t).inst), .d (iv (legB t).qty), .d (iv (legB t).cost)]]⟩ : ARow)), (14000, (⟨True, 35, 4, true, true, 14000, [[.d (iv (legA t).who), .d (iv (legA t).inst), .d (iv (IntKind.wrap .i64 (0 - (legA t).qty))), .d (iv (IntKind.wrap .i64 (0 - (legA t).cost)))], [.d (iv (legB t).who), .d (iv (legB t).inst), .d (iv (IntKind.wrap .i64 (0 - (legB t).qty))), .d (iv (IntKind.wrap .i64 (0 - (legB t).cost)))]]⟩ : ARow))]) ∨ (m = 1 ∧ s = S 142 [(1, .ptr 1 0 0), (3, .ref 12000 2), (4, .ref 14000 2), (8, .d (iv 1))] [(1, (⟨True, 30, 7, true, false, 1, [[.d (iv t.no), .d (iv t.buyer), .d (iv t.seller), .d (iv t.inst), .d (iv t.qty), .d (iv t.price), .d (.v (.bool t.gone))]]⟩ : ARow)), (12000, (⟨True, 35, 4, true, true, 12000, [[.d (iv (legA t).who), .d (iv (legA t).inst), .d (iv (legA t).qty), .d (iv (legA t).cost)], [.d (iv (legB t).who), .d (iv (legB t).inst), .d (iv (legB t).qty), .d (iv (legB t).cost)]]⟩ : ARow)), (14000, (⟨True, 35, 4, true, true, 14000, [[.d (iv (legA t).who), .d (iv (legA t).inst), .d (iv (IntKind.wrap .i64 (0 - (legA t).qty))), .d (iv (IntKind.wrap .i64 (0 - (legA t).cost)))], [.d (iv (legB t).who), .d (iv (legB t).inst), .d (iv (IntKind.wrap .i64 (0 - (legB t).qty))), .d (iv (IntKind.wrap .i64 (0 - (legB t).cost)))]]⟩ : ARow))]) ∨ (m = 0 ∧ s = S 142 [(1, .ptr 1 0 0), (3, .ref 12000 2), (4, .ref 14000 2), (8, .d (iv 2))] [(1, (⟨True, 30, 7, true, false, 1, [[.d (iv t.no), .d (iv t.buyer), .d (iv t.seller), .d (iv t.inst), .d (iv t.qty), .d (iv t.price), .d (.v (.bool t.gone))]]⟩ : ARow)), (12000, (⟨True, 35, 4, true, true, 12000, [[.d (iv (legA t).who), .d (iv (legA t).inst), .d (iv (legA t).qty), .d (iv (legA t).cost)], [.d (iv (legB t).who), .d (iv (legB t).inst), .d (iv (legB t).qty), .d (iv (legB t).cost)]]⟩ : ARow)), (14000, (⟨True, 35, 4, true, true, 14000, [[.d (iv (legA t).who), .d (iv (legA t).inst), .d (iv (IntKind.wrap .i64 (0 - (legA t).qty))), .d (iv (IntKind.wrap .i64 (0 - (legA t).cost)))], [.d (iv (legB t).who), .d (iv (legB t).inst), .d (iv (IntKind.wrap .i64 (0 - (legB t).qty))), .d (iv (IntKind.wrap .i64 (0 - (legB t).cost)))]]⟩ : ARow))])) 2 _ (le_SK id [] rfl (l' := [(1, .ptr 1 0 0), (3, .ref 12000 2), (4, .ref 14000 2), (8, .d (iv 0))]) (m' := [(1, (⟨True, 30, 7, true, false, 1, [[.d (iv t.no), .d (iv t.buyer), .d (iv t.seller), .d (iv t.inst), .d (iv t.qty), .d (iv t.price), .d (.v (.bool t.gone))]]⟩ : ARow)), (12000, (⟨True, 35, 4, true, true, 12000, [[.d (iv (legA t).who), .d (iv (legA t).inst), .d (iv (legA t).qty), .d (iv (legA t).cost)], [.d (iv (legB t).who), .d (iv (legB t).inst), .d (iv (legB t).qty), .d (iv (legB t).cost)]]⟩ : ARow)), (14000, (⟨True, 35, 4, true, true, 14000, [[.d (iv (legA t).who), .d (iv (legA t).inst), .d (iv (IntKind.wrap .i64 (0 - (legA t).qty))), .d (iv (IntKind.wrap .i64 (0 - (legA t).cost)))], [.d (iv (legB t).who), .d (iv (legB t).inst), .d (iv (IntKind.wrap .i64 (0 - (legB t).qty))), .d (iv (IntKind.wrap .i64 (0 - (legB t).cost)))]]⟩ : ARow))]) ?_ ?_ ?_ ?_) (.inl ⟨rfl, rfl⟩) ?_
    · simp only [leV, look_cons, Nat.reduceBEq, cond_true, cond_false]; exact ⟨VLe.refl _, VLe.refl _, VLe.refl _, VLe.refl _, trivial⟩
    · exact ⟨fun _ => ⟨_, rfl, ⟨id, rfl, rfl, rfl, id, .inl, VLess.refl _⟩⟩, fun h => by simp at h, fun _ => ⟨_, rfl, ⟨id, rfl, rfl, rfl, id, .inl, VLess.refl _⟩⟩, fun h => by simp at h, fun _ => ⟨_, rfl, ⟨id, rfl, rfl, rfl, id, .inl, VLess.refl _⟩⟩, fun h => by simp at h, trivial⟩
    · simp [wfV, AV.ids, AV.idsL, lookR]
    · simp [wfR, AV.idsL, AV.ids]
    rintro m s (⟨rfl, rfl⟩ | ⟨rfl, rfl⟩ | ⟨rfl, rfl⟩)
    · skip
      refine awp_seq fun K2 hK2 => ?_
      refine awp_seq fun K3 hK3 => ?_
      refine awp_plain F_mixed [some 47, some 48, some 49, some 50] rfl ?_
      simp only [evL_nil, evL_plain, nxS, nxS0, List.nil_append, List.cons_append, true_and, and_true, Gp_none, true_implies, S_const, Sk_const, S_tmp, Sk_tmp, Nat.reduceLT, Nat.reduceLeDiff, look_cons, look_nil, Nat.reduceBEq, cond_true, cond_false, ok_d, bare_d, ok_ref, bare_ref, ok_ptr, bare_ptr, ok_ag, bare_ag, implies_true, evS_move, evS_call, evC_len, F_sl22, Option.isSome_some, lenK_sl, lenK_nil, lenK_ref, evS_binOp, binK_some, gr_v, b_lss, pure_lss, cast2, aThen_normal, Th_exit, Th_ret, Bl_normal, Bl_ret, Bl_exit, Po_normal, Po_ret, Nat.reduceEqDiff, ↓reduceIte]
      refine hK3 _ ?_; try clear hK3 K3
      refine awp_keepL [1, 3, 4, 8, 50] ?_
      simp only [keepL_cons, keepL_nil, look_cons, look_nil, Nat.reduceBEq, cond_true, cond_false]
      refine awp_condS _ (by decide) (by simp only [look_cons, Nat.reduceBEq, cond_true, cond_false]; rfl) ?_ ?_
      · intro hb
        clear hb
        refine awp_skip ?_
        simp only [aThen_normal, Th_exit, Th_ret, Bl_normal, Bl_ret, Bl_exit, Po_normal, Po_ret, Nat.reduceEqDiff, ↓reduceIte]
        refine hK2 _ ?_; try clear hK2 K2
        refine awp_keepL [1, 3, 4, 8] ?_
        simp only [keepL_cons, keepL_nil, look_cons, look_nil, Nat.reduceBEq, cond_true, cond_false]
        refine awp_seq fun K2 hK2 => ?_
        refine awp_block ?_
        refine awp_seq fun K3 hK3 => ?_
        refine awp_draw F_mixed [some 53, some 54, some 55, some 56, some 57, some 58, some 59, some 60, some 61, some 62, some 63, some 64, some 65, some 66, some 67, some 68, some 69, some 70, some 71, some 72, some 73, some 74, some 75, some 76, some 77, some 78, some 79, some 80, some 81, some 82, some 83, some 84, some 85, some 86, some 87, some 88, some 89, some 90, some 91, some 92, some 93, some 94, some 95, some 96, some 97, some 98, some 99, some 100, some 101, some 102, some 103, some 104, some 105, some 106, some 107, some 108, some 109, some 110, some 111, some 112, some 113, some 114, some 115] rfl (by kernel_rfl) ?_
        simp only [evL_nil, evL_plain, nxS, nxS0, List.nil_append, List.cons_append, true_and, and_true, Gp_none, true_implies, S_const, Sk_const, S_tmp, Sk_tmp, Nat.reduceLT, Nat.reduceLeDiff, look_cons, look_nil, Nat.reduceBEq, cond_true, cond_false, ok_d, bare_d, ok_ref, bare_ref, ok_ptr, bare_ptr, ok_ag, bare_ag, implies_true, evL_guard, evG_some, evGK_b, evGK_wh, nthD_cons, Nat.reduceSub, S_getD, nxSg, Gp_some, bare_wh, ok_wh, and_imp, imp_and, imp2, imp_self, and_self, evS_move, evS_indexAddr, bare_ep, ok_ep, evIx_sl, evIx_ref, F_sl22, F_sz35, Option.map_some, S_mem, lookR_cons, lookR_nil, Option.some.injEq, exists_eq_left', exists_eq_left, eq_self, reduceCtorEq, evS_fieldAddr, faK_ptr, faK_ep, F_off35_0, List.drop_succ_cons, List.drop_zero, Nat.zero_add, Nat.reduceAdd, F_off33_0, evS_load, F_ok3, F_ag3, F_sz3, evLd_ptr, ldR_agg, ldR_one, evLd_ep_agg, evLd_ep_one, List.length_cons, List.length_nil, List.getD_cons_zero, List.getD_cons_succ, List.take_succ_cons, List.take_zero, Nat.le_refl, List.set_cons_zero, List.set_cons_succ, evS_binOp, binK_some, gr_v, b_neq, pure_neq, F_off33_1, F_off30_3, evS_pick, pickK_bool, bif_tt, bif_ff, F_off35_1, b_add, pure_add, F_off35_2, Bool.or_false, Bool.false_or, Bool.or_true, Bool.true_or, Bool.and_true, Bool.true_and, Bool.and_false, Bool.false_and, bne_self_eq_false, beq_self_eq_true, Bool.not_true, Bool.not_false, Int.reduceBEq, Int.reduceBNe, Int.reduceLT, Int.reduceLE, Int.reduceToNat, eq_self, reduceCtorEq, Bool.true_eq_false, Bool.false_eq_true, decide_true, decide_false, false_implies, cast2, z1, z2, z3, z4, legA_inst, legB_inst, aThen_normal, Th_exit, Th_ret, Bl_normal, Bl_ret, Bl_exit, Po_normal, Po_ret, Nat.reduceEqDiff, ↓reduceIte]
        refine hK3 _ ?_; try clear hK3 K3
        refine awp_keepL [1, 3, 4, 8, 115] ?_
        simp only [keepL_cons, keepL_nil, look_cons, look_nil, Nat.reduceBEq, cond_true, cond_false]
        refine awp_condS _ (by decide) (by simp only [look_cons, Nat.reduceBEq, cond_true, cond_false]; rfl) ?_ ?_
        · intro hb
          simp at hb
        · intro hb
          clear hb
          refine awp_skip ?_
          simp only [aThen_normal, Th_exit, Th_ret, Bl_normal, Bl_ret, Bl_exit, Po_normal, Po_ret, Nat.reduceEqDiff, ↓reduceIte]
          refine hK2 _ ?_; try clear hK2 K2
          refine awp_keepL [1, 3, 4, 8] ?_
          simp only [keepL_cons, keepL_nil, look_cons, look_nil, Nat.reduceBEq, cond_true, cond_false]
          refine awp_plain F_mixed [some 51, some 52, some 8] rfl ?_
          simp only [evL_nil, evL_plain, nxS, nxS0, List.nil_append, List.cons_append, true_and, and_true, Gp_none, true_implies, S_const, Sk_const, S_tmp, Sk_tmp, Nat.reduceLT, Nat.reduceLeDiff, look_cons, look_nil, Nat.reduceBEq, cond_true, cond_false, ok_d, bare_d, ok_ref, bare_ref, ok_ptr, bare_ptr, ok_ag, bare_ag, implies_true, evS_move, evS_binOp, binK_some, gr_v, b_add, pure_add, evS_assign, aThen_normal, Th_exit, Th_ret, Bl_normal, Bl_ret, Bl_exit, Po_normal, Po_ret, Nat.reduceEqDiff, ↓reduceIte]
          refine ⟨1, _, by decide, le_SK id [] rfl (l' := [(1, .ptr 1 0 0), (3, .ref 12000 2), (4, .ref 14000 2), (8, .d (iv 1))]) (m' := [(1, (⟨True, 30, 7, true, false, 1, [[.d (iv t.no), .d (iv t.buyer), .d (iv t.seller), .d (iv t.inst), .d (iv t.qty), .d (iv t.price), .d (.v (.bool t.gone))]]⟩ : ARow)), (12000, (⟨True, 35, 4, true, true, 12000, [[.d (iv (legA t).who), .d (iv (legA t).inst), .d (iv (legA t).qty), .d (iv (legA t).cost)], [.d (iv (legB t).who), .d (iv (legB t).inst), .d (iv (legB t).qty), .d (iv (legB t).cost)]]⟩ : ARow)), (14000, (⟨True, 35, 4, true, true, 14000, [[.d (iv (legA t).who), .d (iv (legA t).inst), .d (iv (IntKind.wrap .i64 (0 - (legA t).qty))), .d (iv (IntKind.wrap .i64 (0 - (legA t).cost)))], [.d (iv (legB t).who), .d (iv (legB t).inst), .d (iv (IntKind.wrap .i64 (0 - (legB t).qty))), .d (iv (IntKind.wrap .i64 (0 - (legB t).cost)))]]⟩ : ARow))]) ?_ ?_ ?_ ?_, .inr (.inl ⟨rfl, rfl⟩)⟩
          · simp only [leV, look_cons, Nat.reduceBEq, cond_true, cond_false]; exact ⟨VLe.refl _, VLe.refl _, VLe.refl _, VLe.refl _, trivial⟩
          · exact ⟨fun _ => ⟨_, rfl, ⟨id, rfl, rfl, rfl, id, .inl, VLess.refl _⟩⟩, fun h => by simp at h, fun _ => ⟨_, rfl, ⟨id, rfl, rfl, rfl, id, .inl, VLess.refl _⟩⟩, fun h => by simp at h, fun _ => ⟨_, rfl, ⟨id, rfl, rfl, rfl, id, .inl, VLess.refl _⟩⟩, fun h => by simp at h, trivial⟩
          · simp [wfV, AV.ids, AV.idsL, lookR]
          · simp [wfR, AV.idsL, AV.ids]
      · intro hb
        simp at hb
    · skip
      refine awp_seq fun K2 hK2 => ?_
      refine awp_seq fun K3 hK3 => ?_
      refine awp_plain F_mixed [some 47, some 48, some 49, some 50] rfl ?_
      simp only [evL_nil, evL_plain, nxS, nxS0, List.nil_append, List.cons_append, true_and, and_true, Gp_none, true_implies, S_const, Sk_const, S_tmp, Sk_tmp, Nat.reduceLT, Nat.reduceLeDiff, look_cons, look_nil, Nat.reduceBEq, cond_true, cond_false, ok_d, bare_d, ok_ref, bare_ref, ok_ptr, bare_ptr, ok_ag, bare_ag, implies_true, evS_move, evS_call, evC_len, F_sl22, Option.isSome_some, lenK_sl, lenK_nil, lenK_ref, evS_binOp, binK_some, gr_v, b_lss, pure_lss, cast2, aThen_normal, Th_exit, Th_ret, Bl_normal, Bl_ret, Bl_exit, Po_normal, Po_ret, Nat.reduceEqDiff, ↓reduceIte]
      refine hK3 _ ?_; try clear hK3 K3
      refine awp_keepL [1, 3, 4, 8, 50] ?_
      simp only [keepL_cons, keepL_nil, look_cons, look_nil, Nat.reduceBEq, cond_true, cond_false]
      refine awp_condS _ (by decide) (by simp only [look_cons, Nat.reduceBEq, cond_true, cond_false]; rfl) ?_ ?_
      · intro hb
        clear hb
        refine awp_skip ?_
        simp only [aThen_normal, Th_exit, Th_ret, Bl_normal, Bl_ret, Bl_exit, Po_normal, Po_ret, Nat.reduceEqDiff, ↓reduceIte]
        refine hK2 _ ?_; try clear hK2 K2
        refine awp_keepL [1, 3, 4, 8] ?_
        simp only [keepL_cons, keepL_nil, look_cons, look_nil, Nat.reduceBEq, cond_true, cond_false]
        refine awp_seq fun K2 hK2 => ?_
        refine awp_block ?_
        refine awp_seq fun K3 hK3 => ?_
        refine awp_draw F_mixed [some 53, some 54, some 55, some 56, some 57, some 58, some 59, some 60, some 61, some 62, some 63, some 64, some 65, some 66, some 67, some 68, some 69, some 70, some 71, some 72, some 73, some 74, some 75, some 76, some 77, some 78, some 79, some 80, some 81, some 82, some 83, some 84, some 85, some 86, some 87, some 88, some 89, some 90, some 91, some 92, some 93, some 94, some 95, some 96, some 97, some 98, some 99, some 100, some 101, some 102, some 103, some 104, some 105, some 106, some 107, some 108, some 109, some 110, some 111, some 112, some 113, some 114, some 115] rfl (by kernel_rfl) ?_
        simp only [evL_nil, evL_plain, nxS, nxS0, List.nil_append, List.cons_append, true_and, and_true, Gp_none, true_implies, S_const, Sk_const, S_tmp, Sk_tmp, Nat.reduceLT, Nat.reduceLeDiff, look_cons, look_nil, Nat.reduceBEq, cond_true, cond_false, ok_d, bare_d, ok_ref, bare_ref, ok_ptr, bare_ptr, ok_ag, bare_ag, implies_true, evL_guard, evG_some, evGK_b, evGK_wh, nthD_cons, Nat.reduceSub, S_getD, nxSg, Gp_some, bare_wh, ok_wh, and_imp, imp_and, imp2, imp_self, and_self, evS_move, evS_indexAddr, bare_ep, ok_ep, evIx_sl, evIx_ref, F_sl22, F_sz35, Option.map_some, S_mem, lookR_cons, lookR_nil, Option.some.injEq, exists_eq_left', exists_eq_left, eq_self, reduceCtorEq, evS_fieldAddr, faK_ptr, faK_ep, F_off35_0, List.drop_succ_cons, List.drop_zero, Nat.zero_add, Nat.reduceAdd, F_off33_0, evS_load, F_ok3, F_ag3, F_sz3, evLd_ptr, ldR_agg, ldR_one, evLd_ep_agg, evLd_ep_one, List.length_cons, List.length_nil, List.getD_cons_zero, List.getD_cons_succ, List.take_succ_cons, List.take_zero, Nat.le_refl, List.set_cons_zero, List.set_cons_succ, evS_binOp, binK_some, gr_v, b_neq, pure_neq, F_off33_1, F_off30_3, evS_pick, pickK_bool, bif_tt, bif_ff, F_off35_1, b_add, pure_add, F_off35_2, Bool.or_false, Bool.false_or, Bool.or_true, Bool.true_or, Bool.and_true, Bool.true_and, Bool.and_false, Bool.false_and, bne_self_eq_false, beq_self_eq_true, Bool.not_true, Bool.not_false, Int.reduceBEq, Int.reduceBNe, Int.reduceLT, Int.reduceLE, Int.reduceToNat, eq_self, reduceCtorEq, Bool.true_eq_false, Bool.false_eq_true, decide_true, decide_false, false_implies, cast2, z1, z2, z3, z4, legA_inst, legB_inst, aThen_normal, Th_exit, Th_ret, Bl_normal, Bl_ret, Bl_exit, Po_normal, Po_ret, Nat.reduceEqDiff, ↓reduceIte]
        refine hK3 _ ?_; try clear hK3 K3
        refine awp_keepL [1, 3, 4, 8, 115] ?_
        simp only [keepL_cons, keepL_nil, look_cons, look_nil, Nat.reduceBEq, cond_true, cond_false]
        refine awp_condS _ (by decide) (by simp only [look_cons, Nat.reduceBEq, cond_true, cond_false]; rfl) ?_ ?_
        · intro hb
          simp at hb
        · intro hb
          clear hb
          refine awp_skip ?_
          simp only [aThen_normal, Th_exit, Th_ret, Bl_normal, Bl_ret, Bl_exit, Po_normal, Po_ret, Nat.reduceEqDiff, ↓reduceIte]
          refine hK2 _ ?_; try clear hK2 K2
          refine awp_keepL [1, 3, 4, 8] ?_
          simp only [keepL_cons, keepL_nil, look_cons, look_nil, Nat.reduceBEq, cond_true, cond_false]
          refine awp_plain F_mixed [some 51, some 52, some 8] rfl ?_
          simp only [evL_nil, evL_plain, nxS, nxS0, List.nil_append, List.cons_append, true_and, and_true, Gp_none, true_implies, S_const, Sk_const, S_tmp, Sk_tmp, Nat.reduceLT, Nat.reduceLeDiff, look_cons, look_nil, Nat.reduceBEq, cond_true, cond_false, ok_d, bare_d, ok_ref, bare_ref, ok_ptr, bare_ptr, ok_ag, bare_ag, implies_true, evS_move, evS_binOp, binK_some, gr_v, b_add, pure_add, evS_assign, aThen_normal, Th_exit, Th_ret, Bl_normal, Bl_ret, Bl_exit, Po_normal, Po_ret, Nat.reduceEqDiff, ↓reduceIte]
          refine ⟨0, _, by decide, le_SK id [] rfl (l' := [(1, .ptr 1 0 0), (3, .ref 12000 2), (4, .ref 14000 2), (8, .d (iv 2))]) (m' := [(1, (⟨True, 30, 7, true, false, 1, [[.d (iv t.no), .d (iv t.buyer), .d (iv t.seller), .d (iv t.inst), .d (iv t.qty), .d (iv t.price), .d (.v (.bool t.gone))]]⟩ : ARow)), (12000, (⟨True, 35, 4, true, true, 12000, [[.d (iv (legA t).who), .d (iv (legA t).inst), .d (iv (legA t).qty), .d (iv (legA t).cost)], [.d (iv (legB t).who), .d (iv (legB t).inst), .d (iv (legB t).qty), .d (iv (legB t).cost)]]⟩ : ARow)), (14000, (⟨True, 35, 4, true, true, 14000, [[.d (iv (legA t).who), .d (iv (legA t).inst), .d (iv (IntKind.wrap .i64 (0 - (legA t).qty))), .d (iv (IntKind.wrap .i64 (0 - (legA t).cost)))], [.d (iv (legB t).who), .d (iv (legB t).inst), .d (iv (IntKind.wrap .i64 (0 - (legB t).qty))), .d (iv (IntKind.wrap .i64 (0 - (legB t).cost)))]]⟩ : ARow))]) ?_ ?_ ?_ ?_, .inr (.inr ⟨rfl, rfl⟩)⟩
          · simp only [leV, look_cons, Nat.reduceBEq, cond_true, cond_false]; exact ⟨VLe.refl _, VLe.refl _, VLe.refl _, VLe.refl _, trivial⟩
          · exact ⟨fun _ => ⟨_, rfl, ⟨id, rfl, rfl, rfl, id, .inl, VLess.refl _⟩⟩, fun h => by simp at h, fun _ => ⟨_, rfl, ⟨id, rfl, rfl, rfl, id, .inl, VLess.refl _⟩⟩, fun h => by simp at h, fun _ => ⟨_, rfl, ⟨id, rfl, rfl, rfl, id, .inl, VLess.refl _⟩⟩, fun h => by simp at h, trivial⟩
          · simp [wfV, AV.ids, AV.idsL, lookR]
          · simp [wfR, AV.idsL, AV.ids]
      · intro hb
        simp at hb
    · skip
      refine awp_seq fun K2 hK2 => ?_
      refine awp_seq fun K3 hK3 => ?_
      refine awp_plain F_mixed [some 47, some 48, some 49, some 50] rfl ?_
      simp only [evL_nil, evL_plain, nxS, nxS0, List.nil_append, List.cons_append, true_and, and_true, Gp_none, true_implies, S_const, Sk_const, S_tmp, Sk_tmp, Nat.reduceLT, Nat.reduceLeDiff, look_cons, look_nil, Nat.reduceBEq, cond_true, cond_false, ok_d, bare_d, ok_ref, bare_ref, ok_ptr, bare_ptr, ok_ag, bare_ag, implies_true, evS_move, evS_call, evC_len, F_sl22, Option.isSome_some, lenK_sl, lenK_nil, lenK_ref, evS_binOp, binK_some, gr_v, b_lss, pure_lss, cast2, aThen_normal, Th_exit, Th_ret, Bl_normal, Bl_ret, Bl_exit, Po_normal, Po_ret, Nat.reduceEqDiff, ↓reduceIte]
      refine hK3 _ ?_; try clear hK3 K3
      refine awp_keepL [1, 3, 4, 8, 50] ?_
      simp only [keepL_cons, keepL_nil, look_cons, look_nil, Nat.reduceBEq, cond_true, cond_false]
      refine awp_condS _ (by decide) (by simp only [look_cons, Nat.reduceBEq, cond_true, cond_false]; rfl) ?_ ?_
      · intro hb
        simp at hb
      · intro hb
        clear hb
        refine awp_exit ?_
        simp only [aThen_normal, Th_exit, Th_ret, Bl_normal, Bl_ret, Bl_exit, Po_normal, Po_ret, Nat.reduceEqDiff, ↓reduceIte]
        refine hK0 _ ?_; try clear hK0 K0
        refine awp_keepL [1, 3] ?_
        simp only [keepL_cons, keepL_nil, look_cons, look_nil, Nat.reduceBEq, cond_true, cond_false]
        refine awp_seq fun K0 hK0 => ?_
        refine awp_plain F_mixed [some 116, some 117, some 118, some 119, some 120, some 121, some 122, some 123, some 124, some 125, some 126, some 127, some 128, some 129, some 130, some 131, some 132, some 133, some 9] rfl ?_
        simp only [evL_nil, evL_plain, nxS, nxS0, List.nil_append, List.cons_append, true_and, and_true, Gp_none, true_implies, S_const, Sk_const, S_tmp, Sk_tmp, Nat.reduceLT, Nat.reduceLeDiff, look_cons, look_nil, Nat.reduceBEq, cond_true, cond_false, ok_d, bare_d, ok_ref, bare_ref, ok_ptr, bare_ptr, ok_ag, bare_ag, implies_true, evL_guard, evG_some, evGK_b, evGK_wh, nthD_cons, Nat.reduceSub, S_getD, nxSg, Gp_some, bare_wh, ok_wh, and_imp, imp_and, imp2, imp_self, and_self, evS_fieldAddr, faK_ptr, faK_ep, bare_ep, ok_ep, F_off30_4, List.drop_succ_cons, List.drop_zero, Nat.zero_add, Nat.reduceAdd, evS_load, F_ok3, F_ag3, F_sz3, evLd_ptr, ldR_agg, ldR_one, evLd_ep_agg, evLd_ep_one, List.length_cons, List.length_nil, List.getD_cons_zero, List.getD_cons_succ, List.take_succ_cons, List.take_zero, Nat.le_refl, List.set_cons_zero, List.set_cons_succ, S_mem, lookR_cons, lookR_nil, Option.some.injEq, exists_eq_left', exists_eq_left, Option.map_some, eq_self, reduceCtorEq, evS_binOp, binK_some, gr_v, b_geq, pure_geq, evS_move, b_leq, pure_leq, evS_pick, pickK_bool, bif_tt, bif_ff, F_off30_5, evS_assign, aThen_normal, Th_exit, Th_ret, Bl_normal, Bl_ret, Bl_exit, Po_normal, Po_ret, Nat.reduceEqDiff, ↓reduceIte]
        refine hK0 _ ?_; try clear hK0 K0
        refine awp_keepL [3, 9] ?_
        simp only [keepL_cons, keepL_nil, look_cons, look_nil, Nat.reduceBEq, cond_true, cond_false]
        refine awp_seq fun K0 hK0 => ?_
        refine awp_plain F_mixed [some 134, some 135, some 136, some 137, some 138, some 139, some 140, some 141, some 2] rfl ?_
        simp only [evL_nil, evL_plain, nxS, nxS0, List.nil_append, List.cons_append, true_and, and_true, Gp_none, true_implies, S_const, Sk_const, S_tmp, Sk_tmp, Nat.reduceLT, Nat.reduceLeDiff, look_cons, look_nil, Nat.reduceBEq, cond_true, cond_false, ok_d, bare_d, ok_ref, bare_ref, ok_ptr, bare_ptr, ok_ag, bare_ag, implies_true, evL_guard, evG_some, evGK_b, evGK_wh, nthD_cons, Nat.reduceSub, S_getD, nxSg, Gp_some, bare_wh, ok_wh, and_imp, imp_and, imp2, imp_self, and_self, evS_move, evS_call, evC_len, F_sl22, Option.isSome_some, lenK_sl, lenK_nil, lenK_ref, evS_binOp, binK_some, gr_v, b_eql, pure_eql, b_eqlb, pure_eqlb F_bool4, evC_value, evS_pick, pickK_bool, bif_tt, bif_ff, evS_assign, Bool.or_false, Bool.false_or, Bool.or_true, Bool.true_or, Bool.and_true, Bool.true_and, Bool.and_false, Bool.false_and, bne_self_eq_false, beq_self_eq_true, Bool.not_true, Bool.not_false, Int.reduceBEq, Int.reduceBNe, Int.reduceLT, Int.reduceLE, Int.reduceToNat, eq_self, reduceCtorEq, Bool.true_eq_false, Bool.false_eq_true, decide_true, decide_false, false_implies, cast2, aThen_normal, Th_exit, Th_ret, Bl_normal, Bl_ret, Bl_exit, Po_normal, Po_ret, Nat.reduceEqDiff, ↓reduceIte]
        refine call_go F_go10 (fun hG => wakes_) (by simp [AV.ids, AV.idsL]) (by simp) ?_
        simp only [evL_nil, evL_plain, nxS, nxS0, List.nil_append, List.cons_append, true_and, and_true, Gp_none, true_implies, S_const, Sk_const, S_tmp, Sk_tmp, Nat.reduceLT, Nat.reduceLeDiff, look_cons, look_nil, Nat.reduceBEq, cond_true, cond_false, ok_d, bare_d, ok_ref, bare_ref, ok_ptr, bare_ptr, ok_ag, bare_ag, implies_true, evL_guard, evG_some, evGK_b, evGK_wh, nthD_cons, Nat.reduceSub, S_getD, nxSg, Gp_some, bare_wh, ok_wh, and_imp, imp_and, imp2, imp_self, and_self, evS_move, evS_call, evC_len, F_sl22, Option.isSome_some, lenK_sl, lenK_nil, lenK_ref, evS_binOp, binK_some, gr_v, b_eql, pure_eql, b_eqlb, pure_eqlb F_bool4, evC_value, evS_pick, pickK_bool, bif_tt, bif_ff, evS_assign, Bool.or_false, Bool.false_or, Bool.or_true, Bool.true_or, Bool.and_true, Bool.true_and, Bool.and_false, Bool.false_and, bne_self_eq_false, beq_self_eq_true, Bool.not_true, Bool.not_false, Int.reduceBEq, Int.reduceBNe, Int.reduceLT, Int.reduceLE, Int.reduceToNat, eq_self, reduceCtorEq, Bool.true_eq_false, Bool.false_eq_true, decide_true, decide_false, false_implies, cast2, aThen_normal, Th_exit, Th_ret, Bl_normal, Bl_ret, Bl_exit, Po_normal, Po_ret, Nat.reduceEqDiff, ↓reduceIte, asDs_cons, asDs_nil, atsL, asD_self, asD_nil, asD_sl, asD_agg, asD_int, asD_bool, asD_func, asD_ag, asD_ref, asG_d, asG_ag, asG_ref, oksG, freeN, AV.ren, AV.renL, addRows, ORow.row, Nat.reduceMul, Nat.reduceAdd, unE_cons, unE_nil, unDs_cons, unDs_nil, unE_map, Option.bind_some, Option.map_some, forall_eq', D.sl.injEq, S_mem, Option.some.injEq, exists_eq_left', exists_eq_left, exists_eq', exists_eq, List.length_nil, List.length_cons, lookR_nil, lookR_cons, S_func, Sk_func]
        refine hK0 _ ?_; try clear hK0 K0
        refine awp_keepL [2] ?_
        simp only [keepL_cons, keepL_nil, look_cons, look_nil, Nat.reduceBEq, cond_true, cond_false]
        refine awp_ret ?_
        simp only [aThen_normal, Th_exit, Th_ret, Bl_normal, Bl_ret, Bl_exit, Po_normal, Po_ret, Nat.reduceEqDiff, ↓reduceIte]
        refine done0 (by simp only [resCs, resC]; trivial) ?_ (by simp [flatA, flatAs, flatD]) (by simp [AV.ids, AV.idsL])
        simp only [List.map_cons, List.map_nil, resA, S_getD, Nat.reduceLT, Nat.reduceLeDiff, look_cons, Nat.reduceBEq, cond_true, cond_false, resAll]
        simp only [tradeOk] at h; simp [h]
theorem Flat_ (t : TradeV) : ACalls Try.prog 4 [.agg (tradeC t)] [] (bv true) := by
  cases h : tradeOk t
  · exact Flat_no t h
  · exact Flat_yes t h
end Go.Proofs.Ytbagefpamkhndaa
