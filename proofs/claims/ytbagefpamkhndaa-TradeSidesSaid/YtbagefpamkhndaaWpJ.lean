import Derived.Test.YtbagefpamkhndaaSpecT
import Derived.Test.YtbagefpamkhndaaWpI
namespace Go.Proofs.Ytbagefpamkhndaa
open Go.RowKit
set_option linter.unusedVariables false
set_option linter.unusedSimpArgs false
theorem F_ok43 : tyOk Try.prog 43 = true := by kernel_rfl
theorem F_ag43 : aggT Try.prog 43 = true := by kernel_rfl
theorem F_sz43 : szT Try.prog 43 = 3 := by kernel_rfl
theorem F_go28 : goFn Try.prog 28 := ⟨_, Try.func28, rfl, rfl⟩
theorem F_go29 : goFn Try.prog 29 := ⟨_, Try.func29, rfl, rfl⟩
theorem F_go30 : goFn Try.prog 30 := ⟨_, Try.func30, rfl, rfl⟩
set_option maxRecDepth 100000 in
set_option maxHeartbeats 4000000 in
theorem tCheck_ (r : RollV) (t : TradeV) (h : r.Small) : ACalls Try.prog 14 [.agg (rollC r), .agg (tradeC t)] [] (.d (iv (tradeCheck r t))) := by
  refine acalls_S (rs := [.tmp 4]) Try.func14 rfl rfl 69 [(0, .d (.agg (rollC r))), (1, .d (.agg (tradeC t)))] rfl (by simp) rfl ?_
  refine awp_seq fun K0 hK0 => ?_
  refine awp_plain F_mixed [some 2, some 3, some 4] rfl ?_
  simp only [evL_nil, evL_plain, nxS, nxS0, List.nil_append, List.cons_append, true_and, and_true, Gp_none, true_implies, S_const, Sk_const, S_tmp, Sk_tmp, Nat.reduceLT, Nat.reduceLeDiff, look_cons, look_nil, Nat.reduceBEq, cond_true, cond_false, ok_d, bare_d, ok_ref, bare_ref, ok_ptr, bare_ptr, ok_ag, bare_ag, implies_true, evS_box, boxK_some, newRow1, cellsOf_ag, cellsOf_agg, cellsOf_int, cellsOf_bool, cellsOf_slice, cellsOf_func, cellsOf_ref, cellsOf_sl, cell1s_nil, cell1s_cons, cell1_int, cell1_bool, cell1_slice, cell1_func, cell1_ref, cell1_sl, List.map_cons, List.map_nil, List.length_cons, List.length_nil, S_mem, lookR_cons, lookR_nil, Option.some.injEq, exists_eq_left', exists_eq_left, Option.map_some, eq_self, reduceCtorEq, and_self, Nat.reduceAdd, Nat.zero_add, List.getD_cons_zero, List.getD_cons_succ, List.drop_zero, List.drop_succ_cons, List.take_succ_cons, List.take_zero, Nat.le_refl, List.set_cons_zero, List.set_cons_succ, evS_assign, rollC, memsD, instsD, assetsD, tradeC, aThen_normal, Th_exit, Th_ret, Bl_normal, Bl_ret, Bl_exit, Po_normal, Po_ret, Nat.reduceEqDiff, ↓reduceIte]
  refine hK0 _ ?_; try clear hK0 K0
  refine awp_keepL [2, 3] ?_
  simp only [keepL_cons, keepL_nil, look_cons, look_nil, Nat.reduceBEq, cond_true, cond_false]
  refine awp_seq fun K0 hK0 => ?_
  refine awp_plain F_mixed [some 12, some 13, some 5] rfl ?_
  simp only [evL_nil, evL_plain, nxS, nxS0, List.nil_append, List.cons_append, true_and, and_true, Gp_none, true_implies, S_const, Sk_const, S_tmp, Sk_tmp, Nat.reduceLT, Nat.reduceLeDiff, look_cons, look_nil, Nat.reduceBEq, cond_true, cond_false, ok_d, bare_d, ok_ref, bare_ref, ok_ptr, bare_ptr, ok_ag, bare_ag, implies_true, evS_load, F_ok43, F_ag43, F_sz43, evLd_ptr, ldR_agg, ldR_one, evLd_ep_agg, evLd_ep_one, bare_ep, ok_ep, List.length_cons, List.length_nil, Nat.reduceAdd, Nat.zero_add, List.getD_cons_zero, List.getD_cons_succ, List.drop_zero, List.drop_succ_cons, List.take_succ_cons, List.take_zero, Nat.le_refl, List.set_cons_zero, List.set_cons_succ, S_mem, lookR_cons, lookR_nil, Option.some.injEq, exists_eq_left', exists_eq_left, Option.map_some, eq_self, reduceCtorEq, and_self, evS_call, evC_value, evS_assign, memsD, instsD, assetsD, rollC, D.agg.injEq, memA, memC, instA, instC, List.map_cons, List.map_nil, aThen_normal, Th_exit, Th_ret, Bl_normal, Bl_ret, Bl_exit, Po_normal, Po_ret, Nat.reduceEqDiff, ↓reduceIte]
  refine call_go F_go28 (fun hG => check_ r h) (by simp [AV.ids, AV.idsL, memA, memC, instA, instC]) (by simp) ?_
  simp only [evL_nil, evL_plain, nxS, nxS0, List.nil_append, List.cons_append, true_and, and_true, Gp_none, true_implies, S_const, Sk_const, S_tmp, Sk_tmp, Nat.reduceLT, Nat.reduceLeDiff, look_cons, look_nil, Nat.reduceBEq, cond_true, cond_false, ok_d, bare_d, ok_ref, bare_ref, ok_ptr, bare_ptr, ok_ag, bare_ag, implies_true, evS_load, F_ok43, F_ag43, F_sz43, evLd_ptr, ldR_agg, ldR_one, evLd_ep_agg, evLd_ep_one, bare_ep, ok_ep, List.length_cons, List.length_nil, Nat.reduceAdd, Nat.zero_add, List.getD_cons_zero, List.getD_cons_succ, List.drop_zero, List.drop_succ_cons, List.take_succ_cons, List.take_zero, Nat.le_refl, List.set_cons_zero, List.set_cons_succ, S_mem, lookR_cons, lookR_nil, Option.some.injEq, exists_eq_left', exists_eq_left, Option.map_some, eq_self, reduceCtorEq, and_self, evS_call, evC_value, evS_assign, memsD, instsD, assetsD, rollC, D.agg.injEq, memA, memC, instA, instC, List.map_cons, List.map_nil, aThen_normal, Th_exit, Th_ret, Bl_normal, Bl_ret, Bl_exit, Po_normal, Po_ret, Nat.reduceEqDiff, ↓reduceIte, asDs_cons, asDs_nil, atsL, asD_self, asD_nil, asD_sl, asD_agg, asD_int, asD_bool, asD_func, asD_ag, asD_ref, asG_d, asG_ag, asG_ref, oksG, freeN, AV.ren, AV.renL, addRows, ORow.row, Nat.reduceMul, Nat.reduceAdd, unE_cons, unE_nil, unDs_cons, unDs_nil, unE_map, Option.bind_some, Option.map_some, forall_eq', D.sl.injEq, S_mem, Option.some.injEq, exists_eq_left', exists_eq_left, exists_eq', exists_eq, List.length_nil, List.length_cons, lookR_nil, lookR_cons, S_func, Sk_func]
  refine hK0 _ ?_; try clear hK0 K0
  refine awp_keepL [2, 3, 5] ?_
  simp only [keepL_cons, keepL_nil, look_cons, look_nil, Nat.reduceBEq, cond_true, cond_false]
  refine awp_seq fun K0 hK0 => ?_
  refine awp_plain F_mixed [some 15, some 16, some 17, some 18, some 14, some 19, some 20, some 6, none, some 7] rfl ?_
  simp only [evL_nil, evL_plain, nxS, nxS0, List.nil_append, List.cons_append, true_and, and_true, Gp_none, true_implies, S_const, Sk_const, S_tmp, Sk_tmp, Nat.reduceLT, Nat.reduceLeDiff, look_cons, look_nil, Nat.reduceBEq, cond_true, cond_false, ok_d, bare_d, ok_ref, bare_ref, ok_ptr, bare_ptr, ok_ag, bare_ag, implies_true, evS_load, F_ok43, F_ag43, F_sz43, evLd_ptr, ldR_agg, ldR_one, evLd_ep_agg, evLd_ep_one, bare_ep, ok_ep, List.length_cons, List.length_nil, Nat.reduceAdd, Nat.zero_add, List.getD_cons_zero, List.getD_cons_succ, List.drop_zero, List.drop_succ_cons, List.take_succ_cons, List.take_zero, Nat.le_refl, List.set_cons_zero, List.set_cons_succ, S_mem, lookR_cons, lookR_nil, Option.some.injEq, exists_eq_left', exists_eq_left, Option.map_some, eq_self, reduceCtorEq, and_self, evS_fieldAddr, faK_ptr, faK_ep, F_off30_3, F_ok3, F_ag3, F_sz3, evS_call, evC_value, evS_move, evS_extract, exK_tp, bare_tp, ok_tp, evS_alloc, allocK_some, newRow1, F_zero52, allO_nil, allO_cons, oc_int, oc_bool, oc_slice, evS_store, F_ok52, F_sz52, evSo_ptr, soR_some, splice, List.append_nil, cellsOf_ag, cellsOf_agg, cellsOf_int, cellsOf_bool, cellsOf_slice, cellsOf_func, cellsOf_ref, cellsOf_sl, cell1s_nil, cell1s_cons, cell1_int, cell1_bool, cell1_slice, cell1_func, cell1_ref, cell1_sl, List.map_cons, List.map_nil, evS_assign, memsD, instsD, assetsD, rollC, D.agg.injEq, memA, memC, instA, instC, List.map_cons, List.map_nil, aThen_normal, Th_exit, Th_ret, Bl_normal, Bl_ret, Bl_exit, Po_normal, Po_ret, Nat.reduceEqDiff, ↓reduceIte]
  refine call_go F_go29 (fun hG => tInst_ r t.inst h) (by simp [AV.ids, AV.idsL, memA, memC, instA, instC]) (by simp) ?_
  simp only [evL_nil, evL_plain, nxS, nxS0, List.nil_append, List.cons_append, true_and, and_true, Gp_none, true_implies, S_const, Sk_const, S_tmp, Sk_tmp, Nat.reduceLT, Nat.reduceLeDiff, look_cons, look_nil, Nat.reduceBEq, cond_true, cond_false, ok_d, bare_d, ok_ref, bare_ref, ok_ptr, bare_ptr, ok_ag, bare_ag, implies_true, evS_load, F_ok43, F_ag43, F_sz43, evLd_ptr, ldR_agg, ldR_one, evLd_ep_agg, evLd_ep_one, bare_ep, ok_ep, List.length_cons, List.length_nil, Nat.reduceAdd, Nat.zero_add, List.getD_cons_zero, List.getD_cons_succ, List.drop_zero, List.drop_succ_cons, List.take_succ_cons, List.take_zero, Nat.le_refl, List.set_cons_zero, List.set_cons_succ, S_mem, lookR_cons, lookR_nil, Option.some.injEq, exists_eq_left', exists_eq_left, Option.map_some, eq_self, reduceCtorEq, and_self, evS_fieldAddr, faK_ptr, faK_ep, F_off30_3, F_ok3, F_ag3, F_sz3, evS_call, evC_value, evS_move, evS_extract, exK_tp, bare_tp, ok_tp, evS_alloc, allocK_some, newRow1, F_zero52, allO_nil, allO_cons, oc_int, oc_bool, oc_slice, evS_store, F_ok52, F_sz52, evSo_ptr, soR_some, splice, List.append_nil, cellsOf_ag, cellsOf_agg, cellsOf_int, cellsOf_bool, cellsOf_slice, cellsOf_func, cellsOf_ref, cellsOf_sl, cell1s_nil, cell1s_cons, cell1_int, cell1_bool, cell1_slice, cell1_func, cell1_ref, cell1_sl, List.map_cons, List.map_nil, evS_assign, memsD, instsD, assetsD, rollC, D.agg.injEq, memA, memC, instA, instC, List.map_cons, List.map_nil, aThen_normal, Th_exit, Th_ret, Bl_normal, Bl_ret, Bl_exit, Po_normal, Po_ret, Nat.reduceEqDiff, ↓reduceIte, asDs_cons, asDs_nil, atsL, asD_self, asD_nil, asD_sl, asD_agg, asD_int, asD_bool, asD_func, asD_ag, asD_ref, asG_d, asG_ag, asG_ref, oksG, freeN, AV.ren, AV.renL, addRows, ORow.row, Nat.reduceMul, Nat.reduceAdd, unE_cons, unE_nil, unDs_cons, unDs_nil, unE_map, Option.bind_some, Option.map_some, forall_eq', D.sl.injEq, S_mem, Option.some.injEq, exists_eq_left', exists_eq_left, exists_eq', exists_eq, List.length_nil, List.length_cons, lookR_nil, lookR_cons, S_func, Sk_func]
  refine hK0 _ ?_; try clear hK0 K0
  refine awp_keepL [2, 3, 5, 7] ?_
  simp only [keepL_cons, keepL_nil, look_cons, look_nil, Nat.reduceBEq, cond_true, cond_false]
  refine awp_seq fun K0 hK0 => ?_
  refine awp_plain F_mixed [some 22, some 23, some 24, some 25, some 21, some 26, some 27, some 8, none, some 9] rfl ?_
  simp only [evL_nil, evL_plain, nxS, nxS0, List.nil_append, List.cons_append, true_and, and_true, Gp_none, true_implies, S_const, Sk_const, S_tmp, Sk_tmp, Nat.reduceLT, Nat.reduceLeDiff, look_cons, look_nil, Nat.reduceBEq, cond_true, cond_false, ok_d, bare_d, ok_ref, bare_ref, ok_ptr, bare_ptr, ok_ag, bare_ag, implies_true, evS_load, F_ok43, F_ag43, F_sz43, evLd_ptr, ldR_agg, ldR_one, evLd_ep_agg, evLd_ep_one, bare_ep, ok_ep, List.length_cons, List.length_nil, Nat.reduceAdd, Nat.zero_add, List.getD_cons_zero, List.getD_cons_succ, List.drop_zero, List.drop_succ_cons, List.take_succ_cons, List.take_zero, Nat.le_refl, List.set_cons_zero, List.set_cons_succ, S_mem, lookR_cons, lookR_nil, Option.some.injEq, exists_eq_left', exists_eq_left, Option.map_some, eq_self, reduceCtorEq, and_self, evS_fieldAddr, faK_ptr, faK_ep, F_off30_1, F_ok3, F_ag3, F_sz3, evS_call, evC_value, evS_move, evS_extract, exK_tp, bare_tp, ok_tp, evS_alloc, allocK_some, newRow1, F_zero47, allO_nil, allO_cons, oc_int, oc_bool, oc_slice, evS_store, F_ok47, F_sz47, evSo_ptr, soR_some, splice, List.append_nil, cellsOf_ag, cellsOf_agg, cellsOf_int, cellsOf_bool, cellsOf_slice, cellsOf_func, cellsOf_ref, cellsOf_sl, cell1s_nil, cell1s_cons, cell1_int, cell1_bool, cell1_slice, cell1_func, cell1_ref, cell1_sl, List.map_cons, List.map_nil, evS_assign, memsD, instsD, assetsD, rollC, D.agg.injEq, memA, memC, instA, instC, List.map_cons, List.map_nil, aThen_normal, Th_exit, Th_ret, Bl_normal, Bl_ret, Bl_exit, Po_normal, Po_ret, Nat.reduceEqDiff, ↓reduceIte]
  refine call_go F_go30 (fun hG => tMember_ r t.buyer h) (by simp [AV.ids, AV.idsL, memA, memC, instA, instC]) (by simp) ?_
  simp only [evL_nil, evL_plain, nxS, nxS0, List.nil_append, List.cons_append, true_and, and_true, Gp_none, true_implies, S_const, Sk_const, S_tmp, Sk_tmp, Nat.reduceLT, Nat.reduceLeDiff, look_cons, look_nil, Nat.reduceBEq, cond_true, cond_false, ok_d, bare_d, ok_ref, bare_ref, ok_ptr, bare_ptr, ok_ag, bare_ag, implies_true, evS_load, F_ok43, F_ag43, F_sz43, evLd_ptr, ldR_agg, ldR_one, evLd_ep_agg, evLd_ep_one, bare_ep, ok_ep, List.length_cons, List.length_nil, Nat.reduceAdd, Nat.zero_add, List.getD_cons_zero, List.getD_cons_succ, List.drop_zero, List.drop_succ_cons, List.take_succ_cons, List.take_zero, Nat.le_refl, List.set_cons_zero, List.set_cons_succ, S_mem, lookR_cons, lookR_nil, Option.some.injEq, exists_eq_left', exists_eq_left, Option.map_some, eq_self, reduceCtorEq, and_self, evS_fieldAddr, faK_ptr, faK_ep, F_off30_1, F_ok3, F_ag3, F_sz3, evS_call, evC_value, evS_move, evS_extract, exK_tp, bare_tp, ok_tp, evS_alloc, allocK_some, newRow1, F_zero47, allO_nil, allO_cons, oc_int, oc_bool, oc_slice, evS_store, F_ok47, F_sz47, evSo_ptr, soR_some, splice, List.append_nil, cellsOf_ag, cellsOf_agg, cellsOf_int, cellsOf_bool, cellsOf_slice, cellsOf_func, cellsOf_ref, cellsOf_sl, cell1s_nil, cell1s_cons, cell1_int, cell1_bool, cell1_slice, cell1_func, cell1_ref, cell1_sl, List.map_cons, List.map_nil, evS_assign, memsD, instsD, assetsD, rollC, D.agg.injEq, memA, memC, instA, instC, List.map_cons, List.map_nil, aThen_normal, Th_exit, Th_ret, Bl_normal, Bl_ret, Bl_exit, Po_normal, Po_ret, Nat.reduceEqDiff, ↓reduceIte, asDs_cons, asDs_nil, atsL, asD_self, asD_nil, asD_sl, asD_agg, asD_int, asD_bool, asD_func, asD_ag, asD_ref, asG_d, asG_ag, asG_ref, oksG, freeN, AV.ren, AV.renL, addRows, ORow.row, Nat.reduceMul, Nat.reduceAdd, unE_cons, unE_nil, unDs_cons, unDs_nil, unE_map, Option.bind_some, Option.map_some, forall_eq', D.sl.injEq, S_mem, Option.some.injEq, exists_eq_left', exists_eq_left, exists_eq', exists_eq, List.length_nil, List.length_cons, lookR_nil, lookR_cons, S_func, Sk_func]
  refine hK0 _ ?_; try clear hK0 K0
  refine awp_keepL [2, 3, 5, 7, 8, 9] ?_
  simp only [keepL_cons, keepL_nil, look_cons, look_nil, Nat.reduceBEq, cond_true, cond_false]
  refine awp_seq fun K0 hK0 => ?_
  refine awp_plain F_mixed [some 29, some 30, some 31, some 32, some 28, some 33, some 34, some 10, none, some 11] rfl ?_
  simp only [evL_nil, evL_plain, nxS, nxS0, List.nil_append, List.cons_append, true_and, and_true, Gp_none, true_implies, S_const, Sk_const, S_tmp, Sk_tmp, Nat.reduceLT, Nat.reduceLeDiff, look_cons, look_nil, Nat.reduceBEq, cond_true, cond_false, ok_d, bare_d, ok_ref, bare_ref, ok_ptr, bare_ptr, ok_ag, bare_ag, implies_true, evS_load, F_ok43, F_ag43, F_sz43, evLd_ptr, ldR_agg, ldR_one, evLd_ep_agg, evLd_ep_one, bare_ep, ok_ep, List.length_cons, List.length_nil, Nat.reduceAdd, Nat.zero_add, List.getD_cons_zero, List.getD_cons_succ, List.drop_zero, List.drop_succ_cons, List.take_succ_cons, List.take_zero, Nat.le_refl, List.set_cons_zero, List.set_cons_succ, S_mem, lookR_cons, lookR_nil, Option.some.injEq, exists_eq_left', exists_eq_left, Option.map_some, eq_self, reduceCtorEq, and_self, evS_fieldAddr, faK_ptr, faK_ep, F_off30_2, F_ok3, F_ag3, F_sz3, evS_call, evC_value, evS_move, evS_extract, exK_tp, bare_tp, ok_tp, evS_alloc, allocK_some, newRow1, F_zero47, allO_nil, allO_cons, oc_int, oc_bool, oc_slice, evS_store, F_ok47, F_sz47, evSo_ptr, soR_some, splice, List.append_nil, cellsOf_ag, cellsOf_agg, cellsOf_int, cellsOf_bool, cellsOf_slice, cellsOf_func, cellsOf_ref, cellsOf_sl, cell1s_nil, cell1s_cons, cell1_int, cell1_bool, cell1_slice, cell1_func, cell1_ref, cell1_sl, List.map_cons, List.map_nil, evS_assign, memsD, instsD, assetsD, rollC, D.agg.injEq, memA, memC, instA, instC, List.map_cons, List.map_nil, aThen_normal, Th_exit, Th_ret, Bl_normal, Bl_ret, Bl_exit, Po_normal, Po_ret, Nat.reduceEqDiff, ↓reduceIte]
  refine call_go F_go30 (fun hG => tMember_ r t.seller h) (by simp [AV.ids, AV.idsL, memA, memC, instA, instC]) (by simp) ?_
  simp only [evL_nil, evL_plain, nxS, nxS0, List.nil_append, List.cons_append, true_and, and_true, Gp_none, true_implies, S_const, Sk_const, S_tmp, Sk_tmp, Nat.reduceLT, Nat.reduceLeDiff, look_cons, look_nil, Nat.reduceBEq, cond_true, cond_false, ok_d, bare_d, ok_ref, bare_ref, ok_ptr, bare_ptr, ok_ag, bare_ag, implies_true, evS_load, F_ok43, F_ag43, F_sz43, evLd_ptr, ldR_agg, ldR_one, evLd_ep_agg, evLd_ep_one, bare_ep, ok_ep, List.length_cons, List.length_nil, Nat.reduceAdd, Nat.zero_add, List.getD_cons_zero, List.getD_cons_succ, List.drop_zero, List.drop_succ_cons, List.take_succ_cons, List.take_zero, Nat.le_refl, List.set_cons_zero, List.set_cons_succ, S_mem, lookR_cons, lookR_nil, Option.some.injEq, exists_eq_left', exists_eq_left, Option.map_some, eq_self, reduceCtorEq, and_self, evS_fieldAddr, faK_ptr, faK_ep, F_off30_2, F_ok3, F_ag3, F_sz3, evS_call, evC_value, evS_move, evS_extract, exK_tp, bare_tp, ok_tp, evS_alloc, allocK_some, newRow1, F_zero47, allO_nil, allO_cons, oc_int, oc_bool, oc_slice, evS_store, F_ok47, F_sz47, evSo_ptr, soR_some, splice, List.append_nil, cellsOf_ag, cellsOf_agg, cellsOf_int, cellsOf_bool, cellsOf_slice, cellsOf_func, cellsOf_ref, cellsOf_sl, cell1s_nil, cell1s_cons, cell1_int, cell1_bool, cell1_slice, cell1_func, cell1_ref, cell1_sl, List.map_cons, List.map_nil, evS_assign, memsD, instsD, assetsD, rollC, D.agg.injEq, memA, memC, instA, instC, List.map_cons, List.map_nil, aThen_normal, Th_exit, Th_ret, Bl_normal, Bl_ret, Bl_exit, Po_normal, Po_ret, Nat.reduceEqDiff, ↓reduceIte, asDs_cons, asDs_nil, atsL, asD_self, asD_nil, asD_sl, asD_agg, asD_int, asD_bool, asD_func, asD_ag, asD_ref, asG_d, asG_ag, asG_ref, oksG, freeN, AV.ren, AV.renL, addRows, ORow.row, Nat.reduceMul, Nat.reduceAdd, unE_cons, unE_nil, unDs_cons, unDs_nil, unE_map, Option.bind_some, Option.map_some, forall_eq', D.sl.injEq, S_mem, Option.some.injEq, exists_eq_left', exists_eq_left, exists_eq', exists_eq, List.length_nil, List.length_cons, lookR_nil, lookR_cons, S_func, Sk_func]
  refine hK0 _ ?_; try clear hK0 K0
  refine awp_keepL [3, 5, 7, 8, 9, 10, 11] ?_
  simp only [keepL_cons, keepL_nil, look_cons, look_nil, Nat.reduceBEq, cond_true, cond_false]
  refine awp_seq fun K0 hK0 => ?_
  refine awp_block ?_
  refine awp_seq fun K1 hK1 => ?_
  refine awp_plain F_mixed [some 36, some 37, some 35] rfl ?_
  simp only [evL_nil, evL_plain, nxS, nxS0, List.nil_append, List.cons_append, true_and, and_true, Gp_none, true_implies, S_const, Sk_const, S_tmp, Sk_tmp, Nat.reduceLT, Nat.reduceLeDiff, look_cons, look_nil, Nat.reduceBEq, cond_true, cond_false, ok_d, bare_d, ok_ref, bare_ref, ok_ptr, bare_ptr, ok_ag, bare_ag, implies_true, evS_move, evS_binOp, binK_some, gr_v, b_neq, pure_neq, evS_assign, aThen_normal, Th_exit, Th_ret, Bl_normal, Bl_ret, Bl_exit, Po_normal, Po_ret, Nat.reduceEqDiff, ↓reduceIte]
  refine hK1 _ ?_; try clear hK1 K1
  refine awp_keepL [3, 5, 7, 8, 9, 10, 11, 35] ?_
  simp only [keepL_cons, keepL_nil, look_cons, look_nil, Nat.reduceBEq, cond_true, cond_false]
  refine awp_condS _ (by decide) (by simp only [look_cons, Nat.reduceBEq, cond_true, cond_false]; rfl) ?_ ?_
  · intro hb
    have g0 := hb; clear hb
    refine awp_seq fun K2 hK2 => ?_
    refine awp_plain F_mixed [some 38, some 4] rfl ?_
    simp only [evL_nil, evL_plain, nxS, nxS0, List.nil_append, List.cons_append, true_and, and_true, Gp_none, true_implies, S_const, Sk_const, S_tmp, Sk_tmp, Nat.reduceLT, Nat.reduceLeDiff, look_cons, look_nil, Nat.reduceBEq, cond_true, cond_false, ok_d, bare_d, ok_ref, bare_ref, ok_ptr, bare_ptr, ok_ag, bare_ag, implies_true, evS_move, evS_assign, aThen_normal, Th_exit, Th_ret, Bl_normal, Bl_ret, Bl_exit, Po_normal, Po_ret, Nat.reduceEqDiff, ↓reduceIte]
    refine hK2 _ ?_; try clear hK2 K2
    refine awp_keepL [4] ?_
    simp only [keepL_cons, keepL_nil, look_cons, look_nil, Nat.reduceBEq, cond_true, cond_false]
    refine awp_ret ?_
    simp only [aThen_normal, Th_exit, Th_ret, Bl_normal, Bl_ret, Bl_exit, Po_normal, Po_ret, Nat.reduceEqDiff, ↓reduceIte]
    refine done0 (by simp only [resCs, resC]; trivial) ?_ (by simp [flatA, flatAs, flatD]) (by simp [AV.ids, AV.idsL])
    simp only [List.map_cons, List.map_nil, resA, S_getD, Nat.reduceLT, Nat.reduceLeDiff, look_cons, Nat.reduceBEq, cond_true, cond_false, resAll]
    simp only [tradeCheck, g0, cond_true, cond_false]
  · intro hb
    have g0 := hb; clear hb
    refine awp_seq fun K2 hK2 => ?_
    refine awp_plain F_mixed [some 40, some 41, some 42, some 39] rfl ?_
    simp only [evL_nil, evL_plain, nxS, nxS0, List.nil_append, List.cons_append, true_and, and_true, Gp_none, true_implies, S_const, Sk_const, S_tmp, Sk_tmp, Nat.reduceLT, Nat.reduceLeDiff, look_cons, look_nil, Nat.reduceBEq, cond_true, cond_false, ok_d, bare_d, ok_ref, bare_ref, ok_ptr, bare_ptr, ok_ag, bare_ag, implies_true, evS_load, F_ok30, F_ag30, F_sz30, evLd_ptr, ldR_agg, ldR_one, evLd_ep_agg, evLd_ep_one, bare_ep, ok_ep, List.length_cons, List.length_nil, Nat.reduceAdd, Nat.zero_add, List.getD_cons_zero, List.getD_cons_succ, List.drop_zero, List.drop_succ_cons, List.take_succ_cons, List.take_zero, Nat.le_refl, List.set_cons_zero, List.set_cons_succ, S_mem, lookR_cons, lookR_nil, Option.some.injEq, exists_eq_left', exists_eq_left, Option.map_some, eq_self, reduceCtorEq, and_self, evS_call, evC_value, evS_unOp, unK_some, gr_v, u_not, pure_not, evS_assign, tradeC, D.agg.injEq, aThen_normal, Th_exit, Th_ret, Bl_normal, Bl_ret, Bl_exit, Po_normal, Po_ret, Nat.reduceEqDiff, ↓reduceIte]
    refine call_go F_go27 (fun hG => right_ t) (by simp [AV.ids, AV.idsL]) (by simp) ?_
    simp only [evL_nil, evL_plain, nxS, nxS0, List.nil_append, List.cons_append, true_and, and_true, Gp_none, true_implies, S_const, Sk_const, S_tmp, Sk_tmp, Nat.reduceLT, Nat.reduceLeDiff, look_cons, look_nil, Nat.reduceBEq, cond_true, cond_false, ok_d, bare_d, ok_ref, bare_ref, ok_ptr, bare_ptr, ok_ag, bare_ag, implies_true, evS_load, F_ok30, F_ag30, F_sz30, evLd_ptr, ldR_agg, ldR_one, evLd_ep_agg, evLd_ep_one, bare_ep, ok_ep, List.length_cons, List.length_nil, Nat.reduceAdd, Nat.zero_add, List.getD_cons_zero, List.getD_cons_succ, List.drop_zero, List.drop_succ_cons, List.take_succ_cons, List.take_zero, Nat.le_refl, List.set_cons_zero, List.set_cons_succ, S_mem, lookR_cons, lookR_nil, Option.some.injEq, exists_eq_left', exists_eq_left, Option.map_some, eq_self, reduceCtorEq, and_self, evS_call, evC_value, evS_unOp, unK_some, gr_v, u_not, pure_not, evS_assign, tradeC, D.agg.injEq, aThen_normal, Th_exit, Th_ret, Bl_normal, Bl_ret, Bl_exit, Po_normal, Po_ret, Nat.reduceEqDiff, ↓reduceIte, asDs_cons, asDs_nil, atsL, asD_self, asD_nil, asD_sl, asD_agg, asD_int, asD_bool, asD_func, asD_ag, asD_ref, asG_d, asG_ag, asG_ref, oksG, freeN, AV.ren, AV.renL, addRows, ORow.row, Nat.reduceMul, Nat.reduceAdd, unE_cons, unE_nil, unDs_cons, unDs_nil, unE_map, Option.bind_some, Option.map_some, forall_eq', D.sl.injEq, S_mem, Option.some.injEq, exists_eq_left', exists_eq_left, exists_eq', exists_eq, List.length_nil, List.length_cons, lookR_nil, lookR_cons, S_func, Sk_func]
    refine hK2 _ ?_; try clear hK2 K2
    refine awp_keepL [3, 7, 8, 9, 10, 11, 39] ?_
    simp only [keepL_cons, keepL_nil, look_cons, look_nil, Nat.reduceBEq, cond_true, cond_false]
    refine awp_condS _ (by decide) (by simp only [look_cons, Nat.reduceBEq, cond_true, cond_false]; rfl) ?_ ?_
    · intro hb
      have g1 := hb; clear hb
      refine awp_seq fun K3 hK3 => ?_
      refine awp_plain F_mixed [some 4] rfl ?_
      simp only [evL_nil, evL_plain, nxS, nxS0, List.nil_append, List.cons_append, true_and, and_true, Gp_none, true_implies, S_const, Sk_const, S_tmp, Sk_tmp, Nat.reduceLT, Nat.reduceLeDiff, look_cons, look_nil, Nat.reduceBEq, cond_true, cond_false, ok_d, bare_d, ok_ref, bare_ref, ok_ptr, bare_ptr, ok_ag, bare_ag, implies_true, evS_assign, aThen_normal, Th_exit, Th_ret, Bl_normal, Bl_ret, Bl_exit, Po_normal, Po_ret, Nat.reduceEqDiff, ↓reduceIte]
      refine hK3 _ ?_; try clear hK3 K3
      refine awp_keepL [4] ?_
      simp only [keepL_cons, keepL_nil, look_cons, look_nil, Nat.reduceBEq, cond_true, cond_false]
      refine awp_ret ?_
      simp only [aThen_normal, Th_exit, Th_ret, Bl_normal, Bl_ret, Bl_exit, Po_normal, Po_ret, Nat.reduceEqDiff, ↓reduceIte]
      refine done0 (by simp only [resCs, resC]; trivial) ?_ (by simp [flatA, flatAs, flatD]) (by simp [AV.ids, AV.idsL])
      simp only [List.map_cons, List.map_nil, resA, S_getD, Nat.reduceLT, Nat.reduceLeDiff, look_cons, Nat.reduceBEq, cond_true, cond_false, resAll]
      simp only [tradeCheck, g0, g1, cond_true, cond_false]
    · intro hb
      have g1 := hb; clear hb
      refine awp_seq fun K3 hK3 => ?_
      refine awp_plain F_mixed [some 44, some 45, some 46, some 47, some 48, some 49, some 50, some 51, some 52, some 53, some 43] rfl ?_
      simp only [evL_nil, evL_plain, nxS, nxS0, List.nil_append, List.cons_append, true_and, and_true, Gp_none, true_implies, S_const, Sk_const, S_tmp, Sk_tmp, Nat.reduceLT, Nat.reduceLeDiff, look_cons, look_nil, Nat.reduceBEq, cond_true, cond_false, ok_d, bare_d, ok_ref, bare_ref, ok_ptr, bare_ptr, ok_ag, bare_ag, implies_true, evL_guard, evG_some, evGK_b, evGK_wh, nthD_cons, Nat.reduceSub, S_getD, nxSg, Gp_some, bare_wh, ok_wh, and_imp, imp_and, imp2, imp_self, and_self, evS_move, evS_unOp, unK_some, gr_v, u_not, pure_not, evS_pick, pickK_bool, bif_tt, bif_ff, evS_assign, aThen_normal, Th_exit, Th_ret, Bl_normal, Bl_ret, Bl_exit, Po_normal, Po_ret, Nat.reduceEqDiff, ↓reduceIte]
      refine hK3 _ ?_; try clear hK3 K3
      refine awp_keepL [3, 8, 10, 43] ?_
      simp only [keepL_cons, keepL_nil, look_cons, look_nil, Nat.reduceBEq, cond_true, cond_false]
      refine awp_condS _ (by decide) (by simp only [look_cons, Nat.reduceBEq, cond_true, cond_false]; rfl) ?_ ?_
      · intro hb
        have g2 := hb; clear hb
        refine awp_seq fun K4 hK4 => ?_
        refine awp_plain F_mixed [some 4] rfl ?_
        simp only [evL_nil, evL_plain, nxS, nxS0, List.nil_append, List.cons_append, true_and, and_true, Gp_none, true_implies, S_const, Sk_const, S_tmp, Sk_tmp, Nat.reduceLT, Nat.reduceLeDiff, look_cons, look_nil, Nat.reduceBEq, cond_true, cond_false, ok_d, bare_d, ok_ref, bare_ref, ok_ptr, bare_ptr, ok_ag, bare_ag, implies_true, evS_assign, aThen_normal, Th_exit, Th_ret, Bl_normal, Bl_ret, Bl_exit, Po_normal, Po_ret, Nat.reduceEqDiff, ↓reduceIte]
        refine hK4 _ ?_; try clear hK4 K4
        refine awp_keepL [4] ?_
        simp only [keepL_cons, keepL_nil, look_cons, look_nil, Nat.reduceBEq, cond_true, cond_false]
        refine awp_ret ?_
        simp only [aThen_normal, Th_exit, Th_ret, Bl_normal, Bl_ret, Bl_exit, Po_normal, Po_ret, Nat.reduceEqDiff, ↓reduceIte]
        refine done0 (by simp only [resCs, resC]; trivial) ?_ (by simp [flatA, flatAs, flatD]) (by simp [AV.ids, AV.idsL])
        simp only [List.map_cons, List.map_nil, resA, S_getD, Nat.reduceLT, Nat.reduceLeDiff, look_cons, Nat.reduceBEq, cond_true, cond_false, resAll]
        simp only [tradeCheck, g0, g1, g2, cond_true, cond_false]
      · intro hb
        have g2 := hb; clear hb
        refine awp_seq fun K4 hK4 => ?_
        refine awp_plain F_mixed [some 55, some 56, some 57, some 58, some 59, some 54] rfl ?_
        simp only [evL_nil, evL_plain, nxS, nxS0, List.nil_append, List.cons_append, true_and, and_true, Gp_none, true_implies, S_const, Sk_const, S_tmp, Sk_tmp, Nat.reduceLT, Nat.reduceLeDiff, look_cons, look_nil, Nat.reduceBEq, cond_true, cond_false, ok_d, bare_d, ok_ref, bare_ref, ok_ptr, bare_ptr, ok_ag, bare_ag, implies_true, evS_fieldAddr, faK_ptr, faK_ep, bare_ep, ok_ep, F_off30_1, List.drop_succ_cons, List.drop_zero, Nat.zero_add, Nat.reduceAdd, evS_load, F_ok3, F_ag3, F_sz3, evLd_ptr, ldR_agg, ldR_one, evLd_ep_agg, evLd_ep_one, List.length_cons, List.length_nil, List.getD_cons_zero, List.getD_cons_succ, List.take_succ_cons, List.take_zero, Nat.le_refl, List.set_cons_zero, List.set_cons_succ, S_mem, lookR_cons, lookR_nil, Option.some.injEq, exists_eq_left', exists_eq_left, Option.map_some, eq_self, reduceCtorEq, and_self, F_off30_2, evS_binOp, binK_some, gr_v, b_eql, pure_eql, evS_assign, aThen_normal, Th_exit, Th_ret, Bl_normal, Bl_ret, Bl_exit, Po_normal, Po_ret, Nat.reduceEqDiff, ↓reduceIte]
        refine hK4 _ ?_; try clear hK4 K4
        refine awp_keepL [8, 10, 54] ?_
        simp only [keepL_cons, keepL_nil, look_cons, look_nil, Nat.reduceBEq, cond_true, cond_false]
        refine awp_condS _ (by decide) (by simp only [look_cons, Nat.reduceBEq, cond_true, cond_false]; rfl) ?_ ?_
        · intro hb
          have g3 := hb; clear hb
          refine awp_seq fun K5 hK5 => ?_
          refine awp_plain F_mixed [some 4] rfl ?_
          simp only [evL_nil, evL_plain, nxS, nxS0, List.nil_append, List.cons_append, true_and, and_true, Gp_none, true_implies, S_const, Sk_const, S_tmp, Sk_tmp, Nat.reduceLT, Nat.reduceLeDiff, look_cons, look_nil, Nat.reduceBEq, cond_true, cond_false, ok_d, bare_d, ok_ref, bare_ref, ok_ptr, bare_ptr, ok_ag, bare_ag, implies_true, evS_assign, aThen_normal, Th_exit, Th_ret, Bl_normal, Bl_ret, Bl_exit, Po_normal, Po_ret, Nat.reduceEqDiff, ↓reduceIte]
          refine hK5 _ ?_; try clear hK5 K5
          refine awp_keepL [4] ?_
          simp only [keepL_cons, keepL_nil, look_cons, look_nil, Nat.reduceBEq, cond_true, cond_false]
          refine awp_ret ?_
          simp only [aThen_normal, Th_exit, Th_ret, Bl_normal, Bl_ret, Bl_exit, Po_normal, Po_ret, Nat.reduceEqDiff, ↓reduceIte]
          refine done0 (by simp only [resCs, resC]; trivial) ?_ (by simp [flatA, flatAs, flatD]) (by simp [AV.ids, AV.idsL])
          simp only [List.map_cons, List.map_nil, resA, S_getD, Nat.reduceLT, Nat.reduceLeDiff, look_cons, Nat.reduceBEq, cond_true, cond_false, resAll]
          simp only [tradeCheck, g0, g1, g2, g3, cond_true, cond_false]
        · intro hb
          have g3 := hb; clear hb
          refine awp_seq fun K5 hK5 => ?_
          refine awp_plain F_mixed [some 61, some 62, some 63, some 64, some 65, some 66, some 67, some 68, some 60] rfl ?_
          simp only [evL_nil, evL_plain, nxS, nxS0, List.nil_append, List.cons_append, true_and, and_true, Gp_none, true_implies, S_const, Sk_const, S_tmp, Sk_tmp, Nat.reduceLT, Nat.reduceLeDiff, look_cons, look_nil, Nat.reduceBEq, cond_true, cond_false, ok_d, bare_d, ok_ref, bare_ref, ok_ptr, bare_ptr, ok_ag, bare_ag, implies_true, evL_guard, evG_some, evGK_b, evGK_wh, nthD_cons, Nat.reduceSub, S_getD, nxSg, Gp_some, bare_wh, ok_wh, and_imp, imp_and, imp2, imp_self, and_self, evS_fieldAddr, faK_ptr, faK_ep, bare_ep, ok_ep, F_off47_1, List.drop_succ_cons, List.drop_zero, Nat.zero_add, Nat.reduceAdd, evS_load, F_ok3, F_ag3, F_sz3, evLd_ptr, ldR_agg, ldR_one, evLd_ep_agg, evLd_ep_one, List.length_cons, List.length_nil, List.getD_cons_zero, List.getD_cons_succ, List.take_succ_cons, List.take_zero, Nat.le_refl, List.set_cons_zero, List.set_cons_succ, S_mem, lookR_cons, lookR_nil, Option.some.injEq, exists_eq_left', exists_eq_left, Option.map_some, eq_self, reduceCtorEq, evS_binOp, binK_some, gr_v, b_neq, pure_neq, evS_move, evS_pick, pickK_bool, bif_tt, bif_ff, evS_assign, aThen_normal, Th_exit, Th_ret, Bl_normal, Bl_ret, Bl_exit, Po_normal, Po_ret, Nat.reduceEqDiff, ↓reduceIte]
          refine hK5 _ ?_; try clear hK5 K5
          refine awp_keepL [60] ?_
          simp only [keepL_cons, keepL_nil, look_cons, look_nil, Nat.reduceBEq, cond_true, cond_false]
          refine awp_condS _ (by decide) (by simp only [look_cons, Nat.reduceBEq, cond_true, cond_false]; rfl) ?_ ?_
          · intro hb
            have g4 := hb; clear hb
            refine awp_seq fun K6 hK6 => ?_
            refine awp_plain F_mixed [some 4] rfl ?_
            simp only [evL_nil, evL_plain, nxS, nxS0, List.nil_append, List.cons_append, true_and, and_true, Gp_none, true_implies, S_const, Sk_const, S_tmp, Sk_tmp, Nat.reduceLT, Nat.reduceLeDiff, look_cons, look_nil, Nat.reduceBEq, cond_true, cond_false, ok_d, bare_d, ok_ref, bare_ref, ok_ptr, bare_ptr, ok_ag, bare_ag, implies_true, evS_assign, aThen_normal, Th_exit, Th_ret, Bl_normal, Bl_ret, Bl_exit, Po_normal, Po_ret, Nat.reduceEqDiff, ↓reduceIte]
            refine hK6 _ ?_; try clear hK6 K6
            refine awp_keepL [4] ?_
            simp only [keepL_cons, keepL_nil, look_cons, look_nil, Nat.reduceBEq, cond_true, cond_false]
            refine awp_ret ?_
            simp only [aThen_normal, Th_exit, Th_ret, Bl_normal, Bl_ret, Bl_exit, Po_normal, Po_ret, Nat.reduceEqDiff, ↓reduceIte]
            refine done0 (by simp only [resCs, resC]; trivial) ?_ (by simp [flatA, flatAs, flatD]) (by simp [AV.ids, AV.idsL])
            simp only [List.map_cons, List.map_nil, resA, S_getD, Nat.reduceLT, Nat.reduceLeDiff, look_cons, Nat.reduceBEq, cond_true, cond_false, resAll]
            simp only [tradeCheck, g0, g1, g2, g3, g4, cond_true, cond_false]
          · intro hb
            have g4 := hb; clear hb
            refine awp_skip ?_
            simp only [aThen_normal, Th_exit, Th_ret, Bl_normal, Bl_ret, Bl_exit, Po_normal, Po_ret, Nat.reduceEqDiff, ↓reduceIte]
            refine hK0 _ ?_; try clear hK0 K0
            refine awp_keepL [] ?_
            simp only [keepL_cons, keepL_nil, look_cons, look_nil, Nat.reduceBEq, cond_true, cond_false]
            refine awp_seq fun K0 hK0 => ?_
            refine awp_plain F_mixed [some 4] rfl ?_
            simp only [evL_nil, evL_plain, nxS, nxS0, List.nil_append, List.cons_append, true_and, and_true, Gp_none, true_implies, S_const, Sk_const, S_tmp, Sk_tmp, Nat.reduceLT, Nat.reduceLeDiff, look_cons, look_nil, Nat.reduceBEq, cond_true, cond_false, ok_d, bare_d, ok_ref, bare_ref, ok_ptr, bare_ptr, ok_ag, bare_ag, implies_true, evS_assign, aThen_normal, Th_exit, Th_ret, Bl_normal, Bl_ret, Bl_exit, Po_normal, Po_ret, Nat.reduceEqDiff, ↓reduceIte]
            refine hK0 _ ?_; try clear hK0 K0
            refine awp_keepL [4] ?_
            simp only [keepL_cons, keepL_nil, look_cons, look_nil, Nat.reduceBEq, cond_true, cond_false]
            refine awp_ret ?_
            simp only [aThen_normal, Th_exit, Th_ret, Bl_normal, Bl_ret, Bl_exit, Po_normal, Po_ret, Nat.reduceEqDiff, ↓reduceIte]
            refine done0 (by simp only [resCs, resC]; trivial) ?_ (by simp [flatA, flatAs, flatD]) (by simp [AV.ids, AV.idsL])
            simp only [List.map_cons, List.map_nil, resA, S_getD, Nat.reduceLT, Nat.reduceLeDiff, look_cons, Nat.reduceBEq, cond_true, cond_false, resAll]
            simp only [tradeCheck, g0, g1, g2, g3, g4, cond_true, cond_false]
end Go.Proofs.Ytbagefpamkhndaa
