import Derived.Test.YtbagefpamkhndaaWpG
namespace Go.Proofs.Ytbagefpamkhndaa
open Go.RowKit
set_option linter.unusedVariables false
set_option linter.unusedSimpArgs false
theorem F_off43_0 : offT Try.prog 43 0 = some 0 := by kernel_rfl
theorem F_ok39 : tyOk Try.prog 39 = true := by kernel_rfl
theorem F_ag39 : aggT Try.prog 39 = false := by kernel_rfl
theorem F_sz39 : szT Try.prog 39 = 1 := by kernel_rfl
theorem F_off43_1 : offT Try.prog 43 1 = some 1 := by kernel_rfl
theorem F_ok40 : tyOk Try.prog 40 = true := by kernel_rfl
theorem F_ag40 : aggT Try.prog 40 = false := by kernel_rfl
theorem F_sz40 : szT Try.prog 40 = 1 := by kernel_rfl
theorem F_off43_2 : offT Try.prog 43 2 = some 2 := by kernel_rfl
theorem F_ok41 : tyOk Try.prog 41 = true := by kernel_rfl
theorem F_ag41 : aggT Try.prog 41 = false := by kernel_rfl
theorem F_sz41 : szT Try.prog 41 = 1 := by kernel_rfl
theorem F_go42 : goFn Try.prog 42 := ⟨_, Try.func42, rfl, rfl⟩
theorem F_go45 : goFn Try.prog 45 := ⟨_, Try.func45, rfl, rfl⟩
theorem F_go48 : goFn Try.prog 48 := ⟨_, Try.func48, rfl, rfl⟩
theorem F_go52 : goFn Try.prog 52 := ⟨_, Try.func52, rfl, rfl⟩
theorem F_go51 : goFn Try.prog 51 := ⟨_, Try.func51, rfl, rfl⟩
theorem check_ (r : RollV) (h : r.Small) : ACalls Try.prog 28 [.agg (rollC r)] [] (.d (iv (rollE r))) := by
  refine acalls_S (rs := [.tmp 2]) Try.func28 rfl rfl 19 [(0, .d (.agg (rollC r)))] rfl (by simp) rfl ?_
  refine awp_seq fun K0 hK0 => ?_
  refine awp_plain F_mixed [some 1, some 2] rfl ?_
  simp only [evL_nil, evL_plain, nxS, nxS0, List.nil_append, List.cons_append, true_and, and_true, Gp_none, true_implies, S_const, Sk_const, S_tmp, Sk_tmp, Nat.reduceLT, Nat.reduceLeDiff, look_cons, look_nil, Nat.reduceBEq, cond_true, cond_false, ok_d, bare_d, ok_ref, bare_ref, ok_ptr, bare_ptr, ok_ag, bare_ag, implies_true, evS_box, boxK_some, newRow1, cellsOf_ag, cellsOf_agg, cellsOf_int, cellsOf_bool, cellsOf_slice, cellsOf_func, cellsOf_ref, cellsOf_sl, cell1s_nil, cell1s_cons, cell1_int, cell1_bool, cell1_slice, cell1_func, cell1_ref, cell1_sl, List.map_cons, List.map_nil, List.length_cons, List.length_nil, S_mem, lookR_cons, lookR_nil, Option.some.injEq, exists_eq_left', exists_eq_left, Option.map_some, eq_self, reduceCtorEq, and_self, Nat.reduceAdd, Nat.zero_add, List.getD_cons_zero, List.getD_cons_succ, List.drop_zero, List.drop_succ_cons, List.take_succ_cons, List.take_zero, Nat.le_refl, List.set_cons_zero, List.set_cons_succ, evS_assign, rollC, memsD, instsD, assetsD, aThen_normal, Th_exit, Th_ret, Bl_normal, Bl_ret, Bl_exit, Po_normal, Po_ret, Nat.reduceEqDiff, ↓reduceIte]
  refine hK0 _ ?_; try clear hK0 K0
  refine awp_keepL [1] ?_
  simp only [keepL_cons, keepL_nil, look_cons, look_nil, Nat.reduceBEq, cond_true, cond_false]
  refine awp_seq fun K0 hK0 => ?_
  refine awp_seq fun K1 hK1 => ?_
  refine awp_plain F_mixed [some 3, some 4, some 5, some 6, some 7, some 8, some 9, some 10, some 11, some 12, some 13, some 14, some 15, some 16, some 17, some 18] rfl ?_
  simp only [evL_nil, evL_plain, nxS, nxS0, List.nil_append, List.cons_append, true_and, and_true, Gp_none, true_implies, S_const, Sk_const, S_tmp, Sk_tmp, Nat.reduceLT, Nat.reduceLeDiff, look_cons, look_nil, Nat.reduceBEq, cond_true, cond_false, ok_d, bare_d, ok_ref, bare_ref, ok_ptr, bare_ptr, ok_ag, bare_ag, implies_true, evL_guard, evG_some, evGK_b, evGK_wh, nthD_cons, Nat.reduceSub, S_getD, nxSg, Gp_some, bare_wh, ok_wh, and_imp, imp_and, imp2, imp_self, and_self, evS_fieldAddr, faK_ptr, faK_ep, bare_ep, ok_ep, F_off43_0, List.drop_succ_cons, List.drop_zero, Nat.zero_add, Nat.reduceAdd, evS_load, F_ok39, F_ag39, F_sz39, evLd_ptr, ldR_agg, ldR_one, evLd_ep_agg, evLd_ep_one, List.length_cons, List.length_nil, List.getD_cons_zero, List.getD_cons_succ, List.take_succ_cons, List.take_zero, Nat.le_refl, List.set_cons_zero, List.set_cons_succ, S_mem, lookR_cons, lookR_nil, Option.some.injEq, exists_eq_left', exists_eq_left, Option.map_some, eq_self, reduceCtorEq, evS_call, evC_value, evS_unOp, unK_some, gr_v, u_not, pure_not, evS_move, F_off43_1, F_ok40, F_ag40, F_sz40, evS_pick, pickK_bool, bif_tt, bif_ff, F_off43_2, F_ok41, F_ag41, F_sz41, memsD, instsD, assetsD, fnD, aThen_normal, Th_exit, Th_ret, Bl_normal, Bl_ret, Bl_exit, Po_normal, Po_ret, Nat.reduceEqDiff, ↓reduceIte]
  refine call_go F_go42 (fun hG => risesM_ r.mems (by have := h.mems; omega)) (by simp [AV.ids, AV.idsL]) (by simp) ?_
  simp only [evL_nil, evL_plain, nxS, nxS0, List.nil_append, List.cons_append, true_and, and_true, Gp_none, true_implies, S_const, Sk_const, S_tmp, Sk_tmp, Nat.reduceLT, Nat.reduceLeDiff, look_cons, look_nil, Nat.reduceBEq, cond_true, cond_false, ok_d, bare_d, ok_ref, bare_ref, ok_ptr, bare_ptr, ok_ag, bare_ag, implies_true, evL_guard, evG_some, evGK_b, evGK_wh, nthD_cons, Nat.reduceSub, S_getD, nxSg, Gp_some, bare_wh, ok_wh, and_imp, imp_and, imp2, imp_self, and_self, evS_fieldAddr, faK_ptr, faK_ep, bare_ep, ok_ep, F_off43_0, List.drop_succ_cons, List.drop_zero, Nat.zero_add, Nat.reduceAdd, evS_load, F_ok39, F_ag39, F_sz39, evLd_ptr, ldR_agg, ldR_one, evLd_ep_agg, evLd_ep_one, List.length_cons, List.length_nil, List.getD_cons_zero, List.getD_cons_succ, List.take_succ_cons, List.take_zero, Nat.le_refl, List.set_cons_zero, List.set_cons_succ, S_mem, lookR_cons, lookR_nil, Option.some.injEq, exists_eq_left', exists_eq_left, Option.map_some, eq_self, reduceCtorEq, evS_call, evC_value, evS_unOp, unK_some, gr_v, u_not, pure_not, evS_move, F_off43_1, F_ok40, F_ag40, F_sz40, evS_pick, pickK_bool, bif_tt, bif_ff, F_off43_2, F_ok41, F_ag41, F_sz41, memsD, instsD, assetsD, fnD, aThen_normal, Th_exit, Th_ret, Bl_normal, Bl_ret, Bl_exit, Po_normal, Po_ret, Nat.reduceEqDiff, ↓reduceIte, asDs_cons, asDs_nil, atsL, asD_self, asD_nil, asD_sl, asD_agg, asD_int, asD_bool, asD_func, asD_ag, asD_ref, asG_d, asG_ag, asG_ref, oksG, freeN, AV.ren, AV.renL, addRows, ORow.row, Nat.reduceMul, Nat.reduceAdd, unE_cons, unE_nil, unDs_cons, unDs_nil, unE_map, Option.bind_some, Option.map_some, forall_eq', D.sl.injEq, S_mem, Option.some.injEq, exists_eq_left', exists_eq_left, exists_eq', exists_eq, List.length_nil, List.length_cons, lookR_nil, lookR_cons, S_func, Sk_func]
  refine call_go F_go45 (fun hG => risesI_ r.insts (by have := h.insts; omega)) (by simp [AV.ids, AV.idsL]) (by simp) ?_
  simp only [evL_nil, evL_plain, nxS, nxS0, List.nil_append, List.cons_append, true_and, and_true, Gp_none, true_implies, S_const, Sk_const, S_tmp, Sk_tmp, Nat.reduceLT, Nat.reduceLeDiff, look_cons, look_nil, Nat.reduceBEq, cond_true, cond_false, ok_d, bare_d, ok_ref, bare_ref, ok_ptr, bare_ptr, ok_ag, bare_ag, implies_true, evL_guard, evG_some, evGK_b, evGK_wh, nthD_cons, Nat.reduceSub, S_getD, nxSg, Gp_some, bare_wh, ok_wh, and_imp, imp_and, imp2, imp_self, and_self, evS_fieldAddr, faK_ptr, faK_ep, bare_ep, ok_ep, F_off43_0, List.drop_succ_cons, List.drop_zero, Nat.zero_add, Nat.reduceAdd, evS_load, F_ok39, F_ag39, F_sz39, evLd_ptr, ldR_agg, ldR_one, evLd_ep_agg, evLd_ep_one, List.length_cons, List.length_nil, List.getD_cons_zero, List.getD_cons_succ, List.take_succ_cons, List.take_zero, Nat.le_refl, List.set_cons_zero, List.set_cons_succ, S_mem, lookR_cons, lookR_nil, Option.some.injEq, exists_eq_left', exists_eq_left, Option.map_some, eq_self, reduceCtorEq, evS_call, evC_value, evS_unOp, unK_some, gr_v, u_not, pure_not, evS_move, F_off43_1, F_ok40, F_ag40, F_sz40, evS_pick, pickK_bool, bif_tt, bif_ff, F_off43_2, F_ok41, F_ag41, F_sz41, memsD, instsD, assetsD, fnD, aThen_normal, Th_exit, Th_ret, Bl_normal, Bl_ret, Bl_exit, Po_normal, Po_ret, Nat.reduceEqDiff, ↓reduceIte, asDs_cons, asDs_nil, atsL, asD_self, asD_nil, asD_sl, asD_agg, asD_int, asD_bool, asD_func, asD_ag, asD_ref, asG_d, asG_ag, asG_ref, oksG, freeN, AV.ren, AV.renL, addRows, ORow.row, Nat.reduceMul, Nat.reduceAdd, unE_cons, unE_nil, unDs_cons, unDs_nil, unE_map, Option.bind_some, Option.map_some, forall_eq', D.sl.injEq, S_mem, Option.some.injEq, exists_eq_left', exists_eq_left, exists_eq', exists_eq, List.length_nil, List.length_cons, lookR_nil, lookR_cons, S_func, Sk_func]
  refine call_go F_go48 (fun hG => risesA_ r.assets (by have := h.assets; omega)) (by simp [AV.ids, AV.idsL]) (by simp) ?_
  simp only [evL_nil, evL_plain, nxS, nxS0, List.nil_append, List.cons_append, true_and, and_true, Gp_none, true_implies, S_const, Sk_const, S_tmp, Sk_tmp, Nat.reduceLT, Nat.reduceLeDiff, look_cons, look_nil, Nat.reduceBEq, cond_true, cond_false, ok_d, bare_d, ok_ref, bare_ref, ok_ptr, bare_ptr, ok_ag, bare_ag, implies_true, evL_guard, evG_some, evGK_b, evGK_wh, nthD_cons, Nat.reduceSub, S_getD, nxSg, Gp_some, bare_wh, ok_wh, and_imp, imp_and, imp2, imp_self, and_self, evS_fieldAddr, faK_ptr, faK_ep, bare_ep, ok_ep, F_off43_0, List.drop_succ_cons, List.drop_zero, Nat.zero_add, Nat.reduceAdd, evS_load, F_ok39, F_ag39, F_sz39, evLd_ptr, ldR_agg, ldR_one, evLd_ep_agg, evLd_ep_one, List.length_cons, List.length_nil, List.getD_cons_zero, List.getD_cons_succ, List.take_succ_cons, List.take_zero, Nat.le_refl, List.set_cons_zero, List.set_cons_succ, S_mem, lookR_cons, lookR_nil, Option.some.injEq, exists_eq_left', exists_eq_left, Option.map_some, eq_self, reduceCtorEq, evS_call, evC_value, evS_unOp, unK_some, gr_v, u_not, pure_not, evS_move, F_off43_1, F_ok40, F_ag40, F_sz40, evS_pick, pickK_bool, bif_tt, bif_ff, F_off43_2, F_ok41, F_ag41, F_sz41, memsD, instsD, assetsD, fnD, aThen_normal, Th_exit, Th_ret, Bl_normal, Bl_ret, Bl_exit, Po_normal, Po_ret, Nat.reduceEqDiff, ↓reduceIte, asDs_cons, asDs_nil, atsL, asD_self, asD_nil, asD_sl, asD_agg, asD_int, asD_bool, asD_func, asD_ag, asD_ref, asG_d, asG_ag, asG_ref, oksG, freeN, AV.ren, AV.renL, addRows, ORow.row, Nat.reduceMul, Nat.reduceAdd, unE_cons, unE_nil, unDs_cons, unDs_nil, unE_map, Option.bind_some, Option.map_some, forall_eq', D.sl.injEq, S_mem, Option.some.injEq, exists_eq_left', exists_eq_left, exists_eq', exists_eq, List.length_nil, List.length_cons, lookR_nil, lookR_cons, S_func, Sk_func]
  refine hK1 _ ?_; try clear hK1 K1
  refine awp_keepL [18] ?_
  simp only [keepL_cons, keepL_nil, look_cons, look_nil, Nat.reduceBEq, cond_true, cond_false]
  refine awp_condS _ (by decide) (by simp only [look_cons, Nat.reduceBEq, cond_true, cond_false]; rfl) ?_ ?_
  · intro hb
    refine awp_seq fun K2 hK2 => ?_
    refine awp_plain F_mixed [some 2] rfl ?_
    simp only [evL_nil, evL_plain, nxS, nxS0, List.nil_append, List.cons_append, true_and, and_true, Gp_none, true_implies, S_const, Sk_const, S_tmp, Sk_tmp, Nat.reduceLT, Nat.reduceLeDiff, look_cons, look_nil, Nat.reduceBEq, cond_true, cond_false, ok_d, bare_d, ok_ref, bare_ref, ok_ptr, bare_ptr, ok_ag, bare_ag, implies_true, evS_assign, aThen_normal, Th_exit, Th_ret, Bl_normal, Bl_ret, Bl_exit, Po_normal, Po_ret, Nat.reduceEqDiff, ↓reduceIte]
    refine hK2 _ ?_; try clear hK2 K2
    refine awp_keepL [2] ?_
    simp only [keepL_cons, keepL_nil, look_cons, look_nil, Nat.reduceBEq, cond_true, cond_false]
    refine awp_ret ?_
    simp only [aThen_normal, Th_exit, Th_ret, Bl_normal, Bl_ret, Bl_exit, Po_normal, Po_ret, Nat.reduceEqDiff, ↓reduceIte]
    refine done0 (by simp only [resCs, resC]; trivial) ?_ (by simp [flatA, flatAs, flatD]) (by simp [AV.ids, AV.idsL])
    simp only [List.map_cons, List.map_nil, resA, S_getD, Nat.reduceLT, Nat.reduceLeDiff, look_cons, Nat.reduceBEq, cond_true, cond_false, resAll]
    have e : rollOk r = false := by
      cases hk : rollOk r
      · rfl
      · simp [rollOk] at hk; simp [hk] at hb
    simp only [rollE, e, cond_false]
  · intro hb
    refine awp_skip ?_
    simp only [aThen_normal, Th_exit, Th_ret, Bl_normal, Bl_ret, Bl_exit, Po_normal, Po_ret, Nat.reduceEqDiff, ↓reduceIte]
    refine hK0 _ ?_; try clear hK0 K0
    refine awp_keepL [] ?_
    simp only [keepL_cons, keepL_nil, look_cons, look_nil, Nat.reduceBEq, cond_true, cond_false]
    refine awp_seq fun K0 hK0 => ?_
    refine awp_plain F_mixed [some 2] rfl ?_
    simp only [evL_nil, evL_plain, nxS, nxS0, List.nil_append, List.cons_append, true_and, and_true, Gp_none, true_implies, S_const, Sk_const, S_tmp, Sk_tmp, Nat.reduceLT, Nat.reduceLeDiff, look_cons, look_nil, Nat.reduceBEq, cond_true, cond_false, ok_d, bare_d, ok_ref, bare_ref, ok_ptr, bare_ptr, ok_ag, bare_ag, implies_true, evS_assign, aThen_normal, Th_exit, Th_ret, Bl_normal, Bl_ret, Bl_exit, Po_normal, Po_ret, Nat.reduceEqDiff, ↓reduceIte]
    refine hK0 _ ?_; try clear hK0 K0
    refine awp_keepL [2] ?_
    simp only [keepL_cons, keepL_nil, look_cons, look_nil, Nat.reduceBEq, cond_true, cond_false]
    refine awp_ret ?_
    simp only [aThen_normal, Th_exit, Th_ret, Bl_normal, Bl_ret, Bl_exit, Po_normal, Po_ret, Nat.reduceEqDiff, ↓reduceIte]
    refine done0 (by simp only [resCs, resC]; trivial) ?_ (by simp [flatA, flatAs, flatD]) (by simp [AV.ids, AV.idsL])
    simp only [List.map_cons, List.map_nil, resA, S_getD, Nat.reduceLT, Nat.reduceLeDiff, look_cons, Nat.reduceBEq, cond_true, cond_false, resAll]
    have e : rollOk r = true := by simp only [Bool.or_eq_false_iff, Bool.not_eq_false'] at hb; simp [rollOk, hb]
    simp only [rollE, e, cond_true]
theorem heavy_ (r : RollV) : ACalls Try.prog 13 [.agg (rollC r)] [] (bv (heavy r)) := by
  refine acalls_S (rs := [.tmp 2]) Try.func13 rfl rfl 19 [(0, .d (.agg (rollC r)))] rfl (by simp) rfl ?_
  refine awp_seq fun K0 hK0 => ?_
  refine awp_plain F_mixed [some 1, some 2] rfl ?_
  simp only [evL_nil, evL_plain, nxS, nxS0, List.nil_append, List.cons_append, true_and, and_true, Gp_none, true_implies, S_const, Sk_const, S_tmp, Sk_tmp, Nat.reduceLT, Nat.reduceLeDiff, look_cons, look_nil, Nat.reduceBEq, cond_true, cond_false, ok_d, bare_d, ok_ref, bare_ref, ok_ptr, bare_ptr, ok_ag, bare_ag, implies_true, evS_box, boxK_some, newRow1, cellsOf_ag, cellsOf_agg, cellsOf_int, cellsOf_bool, cellsOf_slice, cellsOf_func, cellsOf_ref, cellsOf_sl, cell1s_nil, cell1s_cons, cell1_int, cell1_bool, cell1_slice, cell1_func, cell1_ref, cell1_sl, List.map_cons, List.map_nil, List.length_cons, List.length_nil, S_mem, lookR_cons, lookR_nil, Option.some.injEq, exists_eq_left', exists_eq_left, Option.map_some, eq_self, reduceCtorEq, and_self, Nat.reduceAdd, Nat.zero_add, List.getD_cons_zero, List.getD_cons_succ, List.drop_zero, List.drop_succ_cons, List.take_succ_cons, List.take_zero, Nat.le_refl, List.set_cons_zero, List.set_cons_succ, evS_assign, rollC, memsD, instsD, assetsD, aThen_normal, Th_exit, Th_ret, Bl_normal, Bl_ret, Bl_exit, Po_normal, Po_ret, Nat.reduceEqDiff, ↓reduceIte]
  refine hK0 _ ?_; try clear hK0 K0
  refine awp_keepL [1] ?_
  simp only [keepL_cons, keepL_nil, look_cons, look_nil, Nat.reduceBEq, cond_true, cond_false]
  refine awp_seq fun K0 hK0 => ?_
  refine awp_plain F_mixed [some 3, some 4, some 5, some 6, some 7, some 8, some 9, some 10, some 11, some 12, some 13, some 14, some 15, some 16, some 17, some 18, some 2] rfl ?_
  simp only [evL_nil, evL_plain, nxS, nxS0, List.nil_append, List.cons_append, true_and, and_true, Gp_none, true_implies, S_const, Sk_const, S_tmp, Sk_tmp, Nat.reduceLT, Nat.reduceLeDiff, look_cons, look_nil, Nat.reduceBEq, cond_true, cond_false, ok_d, bare_d, ok_ref, bare_ref, ok_ptr, bare_ptr, ok_ag, bare_ag, implies_true, evL_guard, evG_some, evGK_b, evGK_wh, nthD_cons, Nat.reduceSub, S_getD, nxSg, Gp_some, bare_wh, ok_wh, and_imp, imp_and, imp2, imp_self, and_self, evS_fieldAddr, faK_ptr, faK_ep, bare_ep, ok_ep, F_off43_0, List.drop_succ_cons, List.drop_zero, Nat.zero_add, Nat.reduceAdd, evS_load, F_ok39, F_ag39, F_sz39, evLd_ptr, ldR_agg, ldR_one, evLd_ep_agg, evLd_ep_one, List.length_cons, List.length_nil, List.getD_cons_zero, List.getD_cons_succ, List.take_succ_cons, List.take_zero, Nat.le_refl, List.set_cons_zero, List.set_cons_succ, S_mem, lookR_cons, lookR_nil, Option.some.injEq, exists_eq_left', exists_eq_left, Option.map_some, eq_self, reduceCtorEq, evS_call, evC_len, F_sl39, Option.isSome_some, lenK_sl, lenK_nil, lenK_ref, evS_binOp, binK_some, gr_v, b_gtr, pure_gtr, evS_move, F_off43_1, F_ok40, F_ag40, F_sz40, F_sl40, evS_pick, pickK_bool, bif_tt, bif_ff, F_off43_2, F_ok41, F_ag41, F_sz41, F_sl41, evS_assign, memsD, instsD, assetsD, len_map, aThen_normal, Th_exit, Th_ret, Bl_normal, Bl_ret, Bl_exit, Po_normal, Po_ret, Nat.reduceEqDiff, ↓reduceIte]
  refine hK0 _ ?_; try clear hK0 K0
  refine awp_keepL [2] ?_
  simp only [keepL_cons, keepL_nil, look_cons, look_nil, Nat.reduceBEq, cond_true, cond_false]
  refine awp_ret ?_
  simp only [aThen_normal, Th_exit, Th_ret, Bl_normal, Bl_ret, Bl_exit, Po_normal, Po_ret, Nat.reduceEqDiff, ↓reduceIte]
  refine done0 (by simp only [resCs, resC]; trivial) ?_ (by simp [flatA, flatAs, flatD]) (by simp [AV.ids, AV.idsL])
  simp only [List.map_cons, List.map_nil, resA, S_getD, Nat.reduceLT, Nat.reduceLeDiff, look_cons, Nat.reduceBEq, cond_true, cond_false, resAll]
  rfl
theorem findM_ (l : List MemV) (n : Int) (hl : l.length ≤ 1000000) : ACalls Try.prog 52 [memsD l, fnD 43, iv n] [] (.tp [memA (findX MemV.no n zMem l), .d (iv (findI MemV.no n 0 l))]) := by
  refine acalls_S (rs := [.cell 6 47, .tmp 7]) Try.func52 rfl rfl 27 [(0, .d (memsD l)), (1, .d (fnD 43)), (2, .d (iv n))] rfl (by simp) rfl ?_
  refine awp_seq fun K0 hK0 => ?_
  refine awp_plain F_mixed [some 6, some 7] rfl ?_
  simp only [evL_nil, evL_plain, nxS, nxS0, List.nil_append, List.cons_append, true_and, and_true, Gp_none, true_implies, S_const, Sk_const, S_tmp, Sk_tmp, Nat.reduceLT, Nat.reduceLeDiff, look_cons, look_nil, Nat.reduceBEq, cond_true, cond_false, ok_d, bare_d, ok_ref, bare_ref, ok_ptr, bare_ptr, ok_ag, bare_ag, implies_true, evS_alloc, allocK_some, newRow1, F_zero47, S_mem, lookR_cons, lookR_nil, Option.some.injEq, exists_eq_left', exists_eq_left, Option.map_some, eq_self, reduceCtorEq, and_self, List.length_cons, List.length_nil, Nat.reduceAdd, Nat.zero_add, List.getD_cons_zero, List.getD_cons_succ, List.drop_zero, List.drop_succ_cons, List.take_succ_cons, List.take_zero, Nat.le_refl, List.set_cons_zero, List.set_cons_succ, allO_nil, allO_cons, oc_int, oc_bool, oc_slice, evS_assign, aThen_normal, Th_exit, Th_ret, Bl_normal, Bl_ret, Bl_exit, Po_normal, Po_ret, Nat.reduceEqDiff, ↓reduceIte]
  refine hK0 _ ?_; try clear hK0 K0
  refine awp_keepL [0, 1, 2, 6] ?_
  simp only [keepL_cons, keepL_nil, look_cons, look_nil, Nat.reduceBEq, cond_true, cond_false]
  refine awp_seq fun K0 hK0 => ?_
  refine awp_seq fun K1 hK1 => ?_
  refine awp_plain F_mixed [some 11, some 12, some 13] rfl ?_
  simp only [evL_nil, evL_plain, nxS, nxS0, List.nil_append, List.cons_append, true_and, and_true, Gp_none, true_implies, S_const, Sk_const, S_tmp, Sk_tmp, Nat.reduceLT, Nat.reduceLeDiff, look_cons, look_nil, Nat.reduceBEq, cond_true, cond_false, ok_d, bare_d, ok_ref, bare_ref, ok_ptr, bare_ptr, ok_ag, bare_ag, implies_true, evS_move, evS_call, evC_len, F_sl39, Option.isSome_some, lenK_sl, lenK_nil, lenK_ref, memsD, len_map, aThen_normal, Th_exit, Th_ret, Bl_normal, Bl_ret, Bl_exit, Po_normal, Po_ret, Nat.reduceEqDiff, ↓reduceIte]
  refine hK1 _ ?_; try clear hK1 K1
  refine awp_keepL [1, 2, 6, 11, 12, 13] ?_
  simp only [keepL_cons, keepL_nil, look_cons, look_nil, Nat.reduceBEq, cond_true, cond_false]
  refine awp_block ?_
  refine awp_loop (fun m s => ∃ pre post : List MemV, l = pre ++ post ∧ findX MemV.no n zMem l = findX MemV.no n zMem post ∧ findI MemV.no n 0 l = findI MemV.no n pre.length post ∧ m = post.length ∧ s = S 27 [(1, .d (fnD 43)), (2, .d (iv n)), (6, .ptr 6 0 0), (11, .d (memsD l)), (12, .d (iv l.length)), (13, .d (iv pre.length))] [(6, (⟨True, 47, 3, true, false, 6, [[.d (.v (.int .i64 0)), .d (.v (.int .i64 0)), .d (.v (.int .i64 0))]]⟩ : ARow))]) l.length _ (le_SK id [] rfl (l' := [(1, .d (fnD 43)), (2, .d (iv n)), (6, .ptr 6 0 0), (11, .d (memsD l)), (12, .d (iv l.length)), (13, .d (iv ([] : List MemV).length))]) (m' := [(6, (⟨True, 47, 3, true, false, 6, [[.d (.v (.int .i64 0)), .d (.v (.int .i64 0)), .d (.v (.int .i64 0))]]⟩ : ARow))]) ?_ ?_ ?_ ?_) ⟨[], l, rfl, rfl, rfl, rfl, rfl⟩ ?_
  · simp only [leV, look_cons, Nat.reduceBEq, cond_true, cond_false, memsD, len_map]; exact ⟨VLe.refl _, VLe.refl _, VLe.refl _, VLe.refl _, VLe.refl _, VLe.refl _, trivial⟩
  · exact ⟨fun _ => ⟨_, rfl, ⟨id, rfl, rfl, rfl, id, .inl, VLess.refl _⟩⟩, fun h => by simp at h, trivial⟩
  · simp [wfV, AV.ids, lookR]
  · simp [wfR, AV.idsL, AV.ids]
  rintro m s ⟨pre, post, rfl, hfx, hfi, rfl, rfl⟩
  refine awp_seq fun K2 hK2 => ?_
  refine awp_plain F_mixed [some 14] rfl ?_
  simp only [evL_nil, evL_plain, nxS, nxS0, List.nil_append, List.cons_append, true_and, and_true, Gp_none, true_implies, S_const, Sk_const, S_tmp, Sk_tmp, Nat.reduceLT, Nat.reduceLeDiff, look_cons, look_nil, Nat.reduceBEq, cond_true, cond_false, ok_d, bare_d, ok_ref, bare_ref, ok_ptr, bare_ptr, ok_ag, bare_ag, implies_true, evS_binOp, binK_some, gr_v, b_lss, pure_lss, aThen_normal, Th_exit, Th_ret, Bl_normal, Bl_ret, Bl_exit, Po_normal, Po_ret, Nat.reduceEqDiff, ↓reduceIte]
  refine hK2 _ ?_; try clear hK2 K2
  refine awp_keepL [1, 2, 6, 11, 12, 13, 14] ?_
  simp only [keepL_cons, keepL_nil, look_cons, look_nil, Nat.reduceBEq, cond_true, cond_false]
  refine awp_seq fun K2 hK2 => ?_
  refine awp_condS _ (by decide) (by simp only [look_cons, Nat.reduceBEq, cond_true, cond_false]; rfl) ?_ ?_
  · intro hb
    obtain ⟨x, post, rfl⟩ := more_of hb; clear hb
    refine awp_skip ?_
    simp only [aThen_normal, Th_exit, Th_ret, Bl_normal, Bl_ret, Bl_exit, Po_normal, Po_ret, Nat.reduceEqDiff, ↓reduceIte]
    refine hK2 _ ?_; try clear hK2 K2
    refine awp_keepL [1, 2, 6, 11, 12, 13] ?_
    simp only [keepL_cons, keepL_nil, look_cons, look_nil, Nat.reduceBEq, cond_true, cond_false]
    refine awp_seq fun K2 hK2 => ?_
    refine awp_block ?_
    refine awp_seq fun K3 hK3 => ?_
    refine awp_plain F_mixed [some 15, some 16, some 17, some 9, some 8, none] rfl ?_
    simp only [evL_nil, evL_plain, nxS, nxS0, List.nil_append, List.cons_append, true_and, and_true, Gp_none, true_implies, S_const, Sk_const, S_tmp, Sk_tmp, Nat.reduceLT, Nat.reduceLeDiff, look_cons, look_nil, Nat.reduceBEq, cond_true, cond_false, ok_d, bare_d, ok_ref, bare_ref, ok_ptr, bare_ptr, ok_ag, bare_ag, implies_true, evS_move, evS_indexAddr, bare_ep, ok_ep, evIx_sl, evIx_ref, F_sl39, F_sz47, Option.map_some, S_mem, lookR_cons, lookR_nil, Option.some.injEq, exists_eq_left', exists_eq_left, eq_self, reduceCtorEq, and_self, evS_load, F_ok47, F_ag47, evLd_ptr, ldR_agg, ldR_one, evLd_ep_agg, evLd_ep_one, List.length_cons, List.length_nil, Nat.reduceAdd, Nat.zero_add, List.getD_cons_zero, List.getD_cons_succ, List.drop_zero, List.drop_succ_cons, List.take_succ_cons, List.take_zero, Nat.le_refl, List.set_cons_zero, List.set_cons_succ, evS_alloc, allocK_some, newRow1, F_zero47, allO_nil, allO_cons, oc_int, oc_bool, oc_slice, evS_assign, evS_store, evSo_ptr, soR_some, splice, List.append_nil, cellsOf_ag, cellsOf_agg, cellsOf_int, cellsOf_bool, cellsOf_slice, cellsOf_func, cellsOf_ref, cellsOf_sl, cell1s_nil, cell1s_cons, cell1_int, cell1_bool, cell1_slice, cell1_func, cell1_ref, cell1_sl, List.map_cons, List.map_nil, memsD, memC, getD_mid, len_map, lt_mid, ge_mid, aThen_normal, Th_exit, Th_ret, Bl_normal, Bl_ret, Bl_exit, Po_normal, Po_ret, Nat.reduceEqDiff, ↓reduceIte]
    refine hK3 _ ?_; try clear hK3 K3
    refine awp_keepL [1, 2, 6, 8, 9, 11, 12, 13] ?_
    simp only [keepL_cons, keepL_nil, look_cons, look_nil, Nat.reduceBEq, cond_true, cond_false]
    refine awp_seq fun K3 hK3 => ?_
    refine awp_plain F_mixed [some 18, some 19, some 20, some 21, some 22] rfl ?_
    simp only [evL_nil, evL_plain, nxS, nxS0, List.nil_append, List.cons_append, true_and, and_true, Gp_none, true_implies, S_const, Sk_const, S_tmp, Sk_tmp, Nat.reduceLT, Nat.reduceLeDiff, look_cons, look_nil, Nat.reduceBEq, cond_true, cond_false, ok_d, bare_d, ok_ref, bare_ref, ok_ptr, bare_ptr, ok_ag, bare_ag, implies_true, evS_move, evS_load, F_ok47, F_ag47, F_sz47, evLd_ptr, ldR_agg, ldR_one, evLd_ep_agg, evLd_ep_one, bare_ep, ok_ep, List.length_cons, List.length_nil, Nat.reduceAdd, Nat.zero_add, List.getD_cons_zero, List.getD_cons_succ, List.drop_zero, List.drop_succ_cons, List.take_succ_cons, List.take_zero, Nat.le_refl, List.set_cons_zero, List.set_cons_succ, S_mem, lookR_cons, lookR_nil, Option.some.injEq, exists_eq_left', exists_eq_left, Option.map_some, eq_self, reduceCtorEq, and_self, evS_call, evC_value, evS_binOp, binK_some, gr_v, b_eql, pure_eql, fnD, memC, D.agg.injEq, aThen_normal, Th_exit, Th_ret, Bl_normal, Bl_ret, Bl_exit, Po_normal, Po_ret, Nat.reduceEqDiff, ↓reduceIte]
    refine call_goT ?_ ?_ F_go43 (fun hG => noMem_ x) (by simp [AV.ids, AV.idsL]) (by simp) ?_
    · decide
    · simp only [look_cons, Nat.reduceBEq, cond_true, cond_false, bare_d, bare_wh, fnD]
    simp only [evL_nil, evL_plain, nxS, nxS0, List.nil_append, List.cons_append, true_and, and_true, Gp_none, true_implies, S_const, Sk_const, S_tmp, Sk_tmp, Nat.reduceLT, Nat.reduceLeDiff, look_cons, look_nil, Nat.reduceBEq, cond_true, cond_false, ok_d, bare_d, ok_ref, bare_ref, ok_ptr, bare_ptr, ok_ag, bare_ag, implies_true, evS_move, evS_load, F_ok47, F_ag47, F_sz47, evLd_ptr, ldR_agg, ldR_one, evLd_ep_agg, evLd_ep_one, bare_ep, ok_ep, List.length_cons, List.length_nil, Nat.reduceAdd, Nat.zero_add, List.getD_cons_zero, List.getD_cons_succ, List.drop_zero, List.drop_succ_cons, List.take_succ_cons, List.take_zero, Nat.le_refl, List.set_cons_zero, List.set_cons_succ, S_mem, lookR_cons, lookR_nil, Option.some.injEq, exists_eq_left', exists_eq_left, Option.map_some, eq_self, reduceCtorEq, and_self, evS_call, evC_value, evS_binOp, binK_some, gr_v, b_eql, pure_eql, fnD, memC, D.agg.injEq, aThen_normal, Th_exit, Th_ret, Bl_normal, Bl_ret, Bl_exit, Po_normal, Po_ret, Nat.reduceEqDiff, ↓reduceIte, evL_guard, evG_some, evGK_b, evGK_wh, nthD_cons, Nat.reduceSub, S_getD, nxSg, Gp_some, bare_wh, ok_wh, and_imp, imp_and, imp2, imp_self, and_self, asDs_cons, asDs_nil, atsL, asD_self, asD_nil, asD_sl, asD_agg, asD_int, asD_bool, asD_func, asD_ag, asD_ref, asG_d, asG_ag, asG_ref, oksG, freeN, AV.ren, AV.renL, addRows, ORow.row, Nat.reduceMul, Nat.reduceAdd, unE_cons, unE_nil, unDs_cons, unDs_nil, unE_map, Option.bind_some, Option.map_some, forall_eq', D.sl.injEq, S_mem, Option.some.injEq, exists_eq_left', exists_eq_left, exists_eq', exists_eq, List.length_nil, List.length_cons, lookR_nil, lookR_cons, S_func, Sk_func]
    refine hK3 _ ?_; try clear hK3 K3
    refine awp_keepL [1, 2, 6, 8, 9, 11, 12, 13, 22] ?_
    simp only [keepL_cons, keepL_nil, look_cons, look_nil, Nat.reduceBEq, cond_true, cond_false]
    refine awp_condS _ (by decide) (by simp only [look_cons, Nat.reduceBEq, cond_true, cond_false]; rfl) ?_ ?_
    · intro hb
      refine awp_seq fun K4 hK4 => ?_
      refine awp_plain F_mixed [some 23, some 24, none, some 7] rfl ?_
      simp only [evL_nil, evL_plain, nxS, nxS0, List.nil_append, List.cons_append, true_and, and_true, Gp_none, true_implies, S_const, Sk_const, S_tmp, Sk_tmp, Nat.reduceLT, Nat.reduceLeDiff, look_cons, look_nil, Nat.reduceBEq, cond_true, cond_false, ok_d, bare_d, ok_ref, bare_ref, ok_ptr, bare_ptr, ok_ag, bare_ag, implies_true, evS_load, F_ok47, F_ag47, F_sz47, evLd_ptr, ldR_agg, ldR_one, evLd_ep_agg, evLd_ep_one, bare_ep, ok_ep, List.length_cons, List.length_nil, Nat.reduceAdd, Nat.zero_add, List.getD_cons_zero, List.getD_cons_succ, List.drop_zero, List.drop_succ_cons, List.take_succ_cons, List.take_zero, Nat.le_refl, List.set_cons_zero, List.set_cons_succ, S_mem, lookR_cons, lookR_nil, Option.some.injEq, exists_eq_left', exists_eq_left, Option.map_some, eq_self, reduceCtorEq, and_self, evS_move, evS_store, evSo_ptr, soR_some, splice, List.append_nil, cellsOf_ag, cellsOf_agg, cellsOf_int, cellsOf_bool, cellsOf_slice, cellsOf_func, cellsOf_ref, cellsOf_sl, cell1s_nil, cell1s_cons, cell1_int, cell1_bool, cell1_slice, cell1_func, cell1_ref, cell1_sl, List.map_cons, List.map_nil, evS_assign, aThen_normal, Th_exit, Th_ret, Bl_normal, Bl_ret, Bl_exit, Po_normal, Po_ret, Nat.reduceEqDiff, ↓reduceIte]
      refine hK4 _ ?_; try clear hK4 K4
      refine awp_keepL [6, 7] ?_
      simp only [keepL_cons, keepL_nil, look_cons, look_nil, Nat.reduceBEq, cond_true, cond_false]
      refine awp_ret ?_
      simp only [aThen_normal, Th_exit, Th_ret, Bl_normal, Bl_ret, Bl_exit, Po_normal, Po_ret, Nat.reduceEqDiff, ↓reduceIte]
      refine done0 (by simp [resCs, resC, S, List.getD, look_cons, lookR, F_ag47, F_sz47, F_ok47]) ?_ (by simp [flatA, flatAs, flatD, memA, memC]) (by simp [AV.ids, AV.idsL, memA, memC])
      simp only [List.map_cons, List.map_nil, resA, S_getD, S_mem, lookR_cons, lookR_nil, Nat.reduceLT, Nat.reduceLeDiff, look_cons, Nat.reduceBEq, cond_true, cond_false, resAll, List.getD_cons_zero, List.getD_cons_succ, List.drop_zero, List.drop_succ_cons, List.take_succ_cons, List.take_zero, F_ag47, F_sz47, F_ok47]
      rw [hfx, hfi, findX, findI, hb]; rfl
    · intro hb
      refine awp_skip ?_
      simp only [aThen_normal, Th_exit, Th_ret, Bl_normal, Bl_ret, Bl_exit, Po_normal, Po_ret, Nat.reduceEqDiff, ↓reduceIte]
      refine hK2 _ ?_; try clear hK2 K2
      refine awp_keepL [1, 2, 6, 11, 12, 13] ?_
      simp only [keepL_cons, keepL_nil, look_cons, look_nil, Nat.reduceBEq, cond_true, cond_false]
      refine awp_plain F_mixed [some 25, some 13] rfl ?_
      simp only [evL_nil, evL_plain, nxS, nxS0, List.nil_append, List.cons_append, true_and, and_true, Gp_none, true_implies, S_const, Sk_const, S_tmp, Sk_tmp, Nat.reduceLT, Nat.reduceLeDiff, look_cons, look_nil, Nat.reduceBEq, cond_true, cond_false, ok_d, bare_d, ok_ref, bare_ref, ok_ptr, bare_ptr, ok_ag, bare_ag, implies_true, evS_binOp, binK_some, gr_v, b_add, pure_add, evS_move, aThen_normal, Th_exit, Th_ret, Bl_normal, Bl_ret, Bl_exit, Po_normal, Po_ret, Nat.reduceEqDiff, ↓reduceIte]
      refine ⟨post.length, _, by simp, le_SK id [] rfl (l' := [(1, .d (fnD 43)), (2, .d (iv n)), (6, .ptr 6 0 0), (11, .d (memsD (pre ++ x :: post))), (12, .d (iv (pre ++ x :: post).length)), (13, .d (iv (pre ++ [x]).length))]) (m' := [(6, (⟨True, 47, 3, true, false, 6, [[.d (.v (.int .i64 0)), .d (.v (.int .i64 0)), .d (.v (.int .i64 0))]]⟩ : ARow))]) ?_ ?_ ?_ ?_, pre ++ [x], post, by simp, by rw [hfx, findX, hb]; rfl, by rw [hfi, findI, hb]; simp, rfl, rfl⟩
      · simp only [leV, look_cons, Nat.reduceBEq, cond_true, cond_false, memsD, fnD, len_map, wrap_len pre x (by simp at hl; omega)]; exact ⟨VLe.refl _, VLe.refl _, VLe.refl _, VLe.refl _, VLe.refl _, VLe.refl _, trivial⟩
      · exact ⟨fun _ => ⟨_, rfl, ⟨id, rfl, rfl, rfl, id, .inl, VLess.refl _⟩⟩, fun h => by simp at h, trivial⟩
      · simp [wfV, AV.ids, lookR]
      · simp [wfR, AV.idsL, AV.ids]
  · intro hb
    obtain rfl := none_of hb; clear hb
    refine awp_exit ?_
    simp only [aThen_normal, Th_exit, Th_ret, Bl_normal, Bl_ret, Bl_exit, Po_normal, Po_ret, Nat.reduceEqDiff, ↓reduceIte]
    refine hK0 _ ?_; try clear hK0 K0
    refine awp_keepL [6] ?_
    simp only [keepL_cons, keepL_nil, look_cons, look_nil, Nat.reduceBEq, cond_true, cond_false]
    refine awp_seq fun K0 hK0 => ?_
    refine awp_plain F_mixed [some 10] rfl ?_
    simp only [evL_nil, evL_plain, nxS, nxS0, List.nil_append, List.cons_append, true_and, and_true, Gp_none, true_implies, S_const, Sk_const, S_tmp, Sk_tmp, Nat.reduceLT, Nat.reduceLeDiff, look_cons, look_nil, Nat.reduceBEq, cond_true, cond_false, ok_d, bare_d, ok_ref, bare_ref, ok_ptr, bare_ptr, ok_ag, bare_ag, implies_true, evS_alloc, allocK_some, newRow1, F_zero47, S_mem, lookR_cons, lookR_nil, Option.some.injEq, exists_eq_left', exists_eq_left, Option.map_some, eq_self, reduceCtorEq, and_self, List.length_cons, List.length_nil, Nat.reduceAdd, Nat.zero_add, List.getD_cons_zero, List.getD_cons_succ, List.drop_zero, List.drop_succ_cons, List.take_succ_cons, List.take_zero, Nat.le_refl, List.set_cons_zero, List.set_cons_succ, allO_nil, allO_cons, oc_int, oc_bool, oc_slice, aThen_normal, Th_exit, Th_ret, Bl_normal, Bl_ret, Bl_exit, Po_normal, Po_ret, Nat.reduceEqDiff, ↓reduceIte]
    refine hK0 _ ?_; try clear hK0 K0
    refine awp_keepL [6, 10] ?_
    simp only [keepL_cons, keepL_nil, look_cons, look_nil, Nat.reduceBEq, cond_true, cond_false]
    refine awp_seq fun K0 hK0 => ?_
    refine awp_plain F_mixed [some 26, none, some 7] rfl ?_
    simp only [evL_nil, evL_plain, nxS, nxS0, List.nil_append, List.cons_append, true_and, and_true, Gp_none, true_implies, S_const, Sk_const, S_tmp, Sk_tmp, Nat.reduceLT, Nat.reduceLeDiff, look_cons, look_nil, Nat.reduceBEq, cond_true, cond_false, ok_d, bare_d, ok_ref, bare_ref, ok_ptr, bare_ptr, ok_ag, bare_ag, implies_true, evS_load, F_ok47, F_ag47, F_sz47, evLd_ptr, ldR_agg, ldR_one, evLd_ep_agg, evLd_ep_one, bare_ep, ok_ep, List.length_cons, List.length_nil, Nat.reduceAdd, Nat.zero_add, List.getD_cons_zero, List.getD_cons_succ, List.drop_zero, List.drop_succ_cons, List.take_succ_cons, List.take_zero, Nat.le_refl, List.set_cons_zero, List.set_cons_succ, S_mem, lookR_cons, lookR_nil, Option.some.injEq, exists_eq_left', exists_eq_left, Option.map_some, eq_self, reduceCtorEq, and_self, evS_store, evSo_ptr, soR_some, splice, List.append_nil, cellsOf_ag, cellsOf_agg, cellsOf_int, cellsOf_bool, cellsOf_slice, cellsOf_func, cellsOf_ref, cellsOf_sl, cell1s_nil, cell1s_cons, cell1_int, cell1_bool, cell1_slice, cell1_func, cell1_ref, cell1_sl, List.map_cons, List.map_nil, evS_assign, aThen_normal, Th_exit, Th_ret, Bl_normal, Bl_ret, Bl_exit, Po_normal, Po_ret, Nat.reduceEqDiff, ↓reduceIte]
    refine hK0 _ ?_; try clear hK0 K0
    refine awp_keepL [6, 7] ?_
    simp only [keepL_cons, keepL_nil, look_cons, look_nil, Nat.reduceBEq, cond_true, cond_false]
    refine awp_ret ?_
    simp only [aThen_normal, Th_exit, Th_ret, Bl_normal, Bl_ret, Bl_exit, Po_normal, Po_ret, Nat.reduceEqDiff, ↓reduceIte]
    refine done0 (by simp [resCs, resC, S, List.getD, look_cons, lookR, F_ag47, F_sz47, F_ok47]) ?_ (by simp [flatA, flatAs, flatD, memA, memC]) (by simp [AV.ids, AV.idsL, memA, memC])
    simp only [List.map_cons, List.map_nil, resA, S_getD, S_mem, lookR_cons, lookR_nil, Nat.reduceLT, Nat.reduceLeDiff, look_cons, Nat.reduceBEq, cond_true, cond_false, resAll, List.getD_cons_zero, List.getD_cons_succ, List.drop_zero, List.drop_succ_cons, List.take_succ_cons, List.take_zero, F_ag47, F_sz47, F_ok47]
    rw [hfx, hfi]; rfl
theorem findIn_ (l : List InstV) (n : Int) (hl : l.length ≤ 1000000) : ACalls Try.prog 51 [instsD l, fnD 46, iv n] [] (.tp [instA (findX InstV.no n zInst l), .d (iv (findI InstV.no n 0 l))]) := by
  refine acalls_S (rs := [.cell 6 52, .tmp 7]) Try.func51 rfl rfl 27 [(0, .d (instsD l)), (1, .d (fnD 46)), (2, .d (iv n))] rfl (by simp) rfl ?_
  refine awp_seq fun K0 hK0 => ?_
  refine awp_plain F_mixed [some 6, some 7] rfl ?_
  simp only [evL_nil, evL_plain, nxS, nxS0, List.nil_append, List.cons_append, true_and, and_true, Gp_none, true_implies, S_const, Sk_const, S_tmp, Sk_tmp, Nat.reduceLT, Nat.reduceLeDiff, look_cons, look_nil, Nat.reduceBEq, cond_true, cond_false, ok_d, bare_d, ok_ref, bare_ref, ok_ptr, bare_ptr, ok_ag, bare_ag, implies_true, evS_alloc, allocK_some, newRow1, F_zero52, S_mem, lookR_cons, lookR_nil, Option.some.injEq, exists_eq_left', exists_eq_left, Option.map_some, eq_self, reduceCtorEq, and_self, List.length_cons, List.length_nil, Nat.reduceAdd, Nat.zero_add, List.getD_cons_zero, List.getD_cons_succ, List.drop_zero, List.drop_succ_cons, List.take_succ_cons, List.take_zero, Nat.le_refl, List.set_cons_zero, List.set_cons_succ, allO_nil, allO_cons, oc_int, oc_bool, oc_slice, evS_assign, aThen_normal, Th_exit, Th_ret, Bl_normal, Bl_ret, Bl_exit, Po_normal, Po_ret, Nat.reduceEqDiff, ↓reduceIte]
  refine hK0 _ ?_; try clear hK0 K0
  refine awp_keepL [0, 1, 2, 6] ?_
  simp only [keepL_cons, keepL_nil, look_cons, look_nil, Nat.reduceBEq, cond_true, cond_false]
  refine awp_seq fun K0 hK0 => ?_
  refine awp_seq fun K1 hK1 => ?_
  refine awp_plain F_mixed [some 11, some 12, some 13] rfl ?_
  simp only [evL_nil, evL_plain, nxS, nxS0, List.nil_append, List.cons_append, true_and, and_true, Gp_none, true_implies, S_const, Sk_const, S_tmp, Sk_tmp, Nat.reduceLT, Nat.reduceLeDiff, look_cons, look_nil, Nat.reduceBEq, cond_true, cond_false, ok_d, bare_d, ok_ref, bare_ref, ok_ptr, bare_ptr, ok_ag, bare_ag, implies_true, evS_move, evS_call, evC_len, F_sl40, Option.isSome_some, lenK_sl, lenK_nil, lenK_ref, instsD, len_map, aThen_normal, Th_exit, Th_ret, Bl_normal, Bl_ret, Bl_exit, Po_normal, Po_ret, Nat.reduceEqDiff, ↓reduceIte]
  refine hK1 _ ?_; try clear hK1 K1
  refine awp_keepL [1, 2, 6, 11, 12, 13] ?_
  simp only [keepL_cons, keepL_nil, look_cons, look_nil, Nat.reduceBEq, cond_true, cond_false]
  refine awp_block ?_
  refine awp_loop (fun m s => ∃ pre post : List InstV, l = pre ++ post ∧ findX InstV.no n zInst l = findX InstV.no n zInst post ∧ findI InstV.no n 0 l = findI InstV.no n pre.length post ∧ m = post.length ∧ s = S 27 [(1, .d (fnD 46)), (2, .d (iv n)), (6, .ptr 6 0 0), (11, .d (instsD l)), (12, .d (iv l.length)), (13, .d (iv pre.length))] [(6, (⟨True, 52, 12, true, false, 6, [[.d (.v (.int .i64 0)), .d (.v (.int .i64 0)), .d (.v (.int .i64 0)), .d (.v (.int .i64 0)), .d (.v (.int .i64 0)), .d (.v (.int .i64 0)), .d (.v (.int .i64 0)), .d (.v (.int .i64 0)), .d (.v (.int .i64 0)), .d (.v (.int .i64 0)), .d (.v (.int .i64 0)), .d (.v (.int .i64 0))]]⟩ : ARow))]) l.length _ (le_SK id [] rfl (l' := [(1, .d (fnD 46)), (2, .d (iv n)), (6, .ptr 6 0 0), (11, .d (instsD l)), (12, .d (iv l.length)), (13, .d (iv ([] : List InstV).length))]) (m' := [(6, (⟨True, 52, 12, true, false, 6, [[.d (.v (.int .i64 0)), .d (.v (.int .i64 0)), .d (.v (.int .i64 0)), .d (.v (.int .i64 0)), .d (.v (.int .i64 0)), .d (.v (.int .i64 0)), .d (.v (.int .i64 0)), .d (.v (.int .i64 0)), .d (.v (.int .i64 0)), .d (.v (.int .i64 0)), .d (.v (.int .i64 0)), .d (.v (.int .i64 0))]]⟩ : ARow))]) ?_ ?_ ?_ ?_) ⟨[], l, rfl, rfl, rfl, rfl, rfl⟩ ?_
  · simp only [leV, look_cons, Nat.reduceBEq, cond_true, cond_false, instsD, len_map]; exact ⟨VLe.refl _, VLe.refl _, VLe.refl _, VLe.refl _, VLe.refl _, VLe.refl _, trivial⟩
  · exact ⟨fun _ => ⟨_, rfl, ⟨id, rfl, rfl, rfl, id, .inl, VLess.refl _⟩⟩, fun h => by simp at h, trivial⟩
  · simp [wfV, AV.ids, lookR]
  · simp [wfR, AV.idsL, AV.ids]
  rintro m s ⟨pre, post, rfl, hfx, hfi, rfl, rfl⟩
  refine awp_seq fun K2 hK2 => ?_
  refine awp_plain F_mixed [some 14] rfl ?_
  simp only [evL_nil, evL_plain, nxS, nxS0, List.nil_append, List.cons_append, true_and, and_true, Gp_none, true_implies, S_const, Sk_const, S_tmp, Sk_tmp, Nat.reduceLT, Nat.reduceLeDiff, look_cons, look_nil, Nat.reduceBEq, cond_true, cond_false, ok_d, bare_d, ok_ref, bare_ref, ok_ptr, bare_ptr, ok_ag, bare_ag, implies_true, evS_binOp, binK_some, gr_v, b_lss, pure_lss, aThen_normal, Th_exit, Th_ret, Bl_normal, Bl_ret, Bl_exit, Po_normal, Po_ret, Nat.reduceEqDiff, ↓reduceIte]
  refine hK2 _ ?_; try clear hK2 K2
  refine awp_keepL [1, 2, 6, 11, 12, 13, 14] ?_
  simp only [keepL_cons, keepL_nil, look_cons, look_nil, Nat.reduceBEq, cond_true, cond_false]
  refine awp_seq fun K2 hK2 => ?_
  refine awp_condS _ (by decide) (by simp only [look_cons, Nat.reduceBEq, cond_true, cond_false]; rfl) ?_ ?_
  · intro hb
    obtain ⟨x, post, rfl⟩ := more_of hb; clear hb
    refine awp_skip ?_
    simp only [aThen_normal, Th_exit, Th_ret, Bl_normal, Bl_ret, Bl_exit, Po_normal, Po_ret, Nat.reduceEqDiff, ↓reduceIte]
    refine hK2 _ ?_; try clear hK2 K2
    refine awp_keepL [1, 2, 6, 11, 12, 13] ?_
    simp only [keepL_cons, keepL_nil, look_cons, look_nil, Nat.reduceBEq, cond_true, cond_false]
    refine awp_seq fun K2 hK2 => ?_
    refine awp_block ?_
    refine awp_seq fun K3 hK3 => ?_
    refine awp_plain F_mixed [some 15, some 16, some 17, some 9, some 8, none] rfl ?_
    simp only [evL_nil, evL_plain, nxS, nxS0, List.nil_append, List.cons_append, true_and, and_true, Gp_none, true_implies, S_const, Sk_const, S_tmp, Sk_tmp, Nat.reduceLT, Nat.reduceLeDiff, look_cons, look_nil, Nat.reduceBEq, cond_true, cond_false, ok_d, bare_d, ok_ref, bare_ref, ok_ptr, bare_ptr, ok_ag, bare_ag, implies_true, evS_move, evS_indexAddr, bare_ep, ok_ep, evIx_sl, evIx_ref, F_sl40, F_sz52, Option.map_some, S_mem, lookR_cons, lookR_nil, Option.some.injEq, exists_eq_left', exists_eq_left, eq_self, reduceCtorEq, and_self, evS_load, F_ok52, F_ag52, evLd_ptr, ldR_agg, ldR_one, evLd_ep_agg, evLd_ep_one, List.length_cons, List.length_nil, Nat.reduceAdd, Nat.zero_add, List.getD_cons_zero, List.getD_cons_succ, List.drop_zero, List.drop_succ_cons, List.take_succ_cons, List.take_zero, Nat.le_refl, List.set_cons_zero, List.set_cons_succ, evS_alloc, allocK_some, newRow1, F_zero52, allO_nil, allO_cons, oc_int, oc_bool, oc_slice, evS_assign, evS_store, evSo_ptr, soR_some, splice, List.append_nil, cellsOf_ag, cellsOf_agg, cellsOf_int, cellsOf_bool, cellsOf_slice, cellsOf_func, cellsOf_ref, cellsOf_sl, cell1s_nil, cell1s_cons, cell1_int, cell1_bool, cell1_slice, cell1_func, cell1_ref, cell1_sl, List.map_cons, List.map_nil, instsD, instC, getD_mid, len_map, lt_mid, ge_mid, aThen_normal, Th_exit, Th_ret, Bl_normal, Bl_ret, Bl_exit, Po_normal, Po_ret, Nat.reduceEqDiff, ↓reduceIte]
    refine hK3 _ ?_; try clear hK3 K3
    refine awp_keepL [1, 2, 6, 8, 9, 11, 12, 13] ?_
    simp only [keepL_cons, keepL_nil, look_cons, look_nil, Nat.reduceBEq, cond_true, cond_false]
    refine awp_seq fun K3 hK3 => ?_
    refine awp_plain F_mixed [some 18, some 19, some 20, some 21, some 22] rfl ?_
    simp only [evL_nil, evL_plain, nxS, nxS0, List.nil_append, List.cons_append, true_and, and_true, Gp_none, true_implies, S_const, Sk_const, S_tmp, Sk_tmp, Nat.reduceLT, Nat.reduceLeDiff, look_cons, look_nil, Nat.reduceBEq, cond_true, cond_false, ok_d, bare_d, ok_ref, bare_ref, ok_ptr, bare_ptr, ok_ag, bare_ag, implies_true, evS_move, evS_load, F_ok52, F_ag52, F_sz52, evLd_ptr, ldR_agg, ldR_one, evLd_ep_agg, evLd_ep_one, bare_ep, ok_ep, List.length_cons, List.length_nil, Nat.reduceAdd, Nat.zero_add, List.getD_cons_zero, List.getD_cons_succ, List.drop_zero, List.drop_succ_cons, List.take_succ_cons, List.take_zero, Nat.le_refl, List.set_cons_zero, List.set_cons_succ, S_mem, lookR_cons, lookR_nil, Option.some.injEq, exists_eq_left', exists_eq_left, Option.map_some, eq_self, reduceCtorEq, and_self, evS_call, evC_value, evS_binOp, binK_some, gr_v, b_eql, pure_eql, fnD, instC, D.agg.injEq, aThen_normal, Th_exit, Th_ret, Bl_normal, Bl_ret, Bl_exit, Po_normal, Po_ret, Nat.reduceEqDiff, ↓reduceIte]
    refine call_goT ?_ ?_ F_go46 (fun hG => noInst_ x) (by simp [AV.ids, AV.idsL]) (by simp) ?_
    · decide
    · simp only [look_cons, Nat.reduceBEq, cond_true, cond_false, bare_d, bare_wh, fnD]
    simp only [evL_nil, evL_plain, nxS, nxS0, List.nil_append, List.cons_append, true_and, and_true, Gp_none, true_implies, S_const, Sk_const, S_tmp, Sk_tmp, Nat.reduceLT, Nat.reduceLeDiff, look_cons, look_nil, Nat.reduceBEq, cond_true, cond_false, ok_d, bare_d, ok_ref, bare_ref, ok_ptr, bare_ptr, ok_ag, bare_ag, implies_true, evS_move, evS_load, F_ok52, F_ag52, F_sz52, evLd_ptr, ldR_agg, ldR_one, evLd_ep_agg, evLd_ep_one, bare_ep, ok_ep, List.length_cons, List.length_nil, Nat.reduceAdd, Nat.zero_add, List.getD_cons_zero, List.getD_cons_succ, List.drop_zero, List.drop_succ_cons, List.take_succ_cons, List.take_zero, Nat.le_refl, List.set_cons_zero, List.set_cons_succ, S_mem, lookR_cons, lookR_nil, Option.some.injEq, exists_eq_left', exists_eq_left, Option.map_some, eq_self, reduceCtorEq, and_self, evS_call, evC_value, evS_binOp, binK_some, gr_v, b_eql, pure_eql, fnD, instC, D.agg.injEq, aThen_normal, Th_exit, Th_ret, Bl_normal, Bl_ret, Bl_exit, Po_normal, Po_ret, Nat.reduceEqDiff, ↓reduceIte, evL_guard, evG_some, evGK_b, evGK_wh, nthD_cons, Nat.reduceSub, S_getD, nxSg, Gp_some, bare_wh, ok_wh, and_imp, imp_and, imp2, imp_self, and_self, asDs_cons, asDs_nil, atsL, asD_self, asD_nil, asD_sl, asD_agg, asD_int, asD_bool, asD_func, asD_ag, asD_ref, asG_d, asG_ag, asG_ref, oksG, freeN, AV.ren, AV.renL, addRows, ORow.row, Nat.reduceMul, Nat.reduceAdd, unE_cons, unE_nil, unDs_cons, unDs_nil, unE_map, Option.bind_some, Option.map_some, forall_eq', D.sl.injEq, S_mem, Option.some.injEq, exists_eq_left', exists_eq_left, exists_eq', exists_eq, List.length_nil, List.length_cons, lookR_nil, lookR_cons, S_func, Sk_func]
    refine hK3 _ ?_; try clear hK3 K3
    refine awp_keepL [1, 2, 6, 8, 9, 11, 12, 13, 22] ?_
    simp only [keepL_cons, keepL_nil, look_cons, look_nil, Nat.reduceBEq, cond_true, cond_false]
    refine awp_condS _ (by decide) (by simp only [look_cons, Nat.reduceBEq, cond_true, cond_false]; rfl) ?_ ?_
    · intro hb
      refine awp_seq fun K4 hK4 => ?_
      refine awp_plain F_mixed [some 23, some 24, none, some 7] rfl ?_
      simp only [evL_nil, evL_plain, nxS, nxS0, List.nil_append, List.cons_append, true_and, and_true, Gp_none, true_implies, S_const, Sk_const, S_tmp, Sk_tmp, Nat.reduceLT, Nat.reduceLeDiff, look_cons, look_nil, Nat.reduceBEq, cond_true, cond_false, ok_d, bare_d, ok_ref, bare_ref, ok_ptr, bare_ptr, ok_ag, bare_ag, implies_true, evS_load, F_ok52, F_ag52, F_sz52, evLd_ptr, ldR_agg, ldR_one, evLd_ep_agg, evLd_ep_one, bare_ep, ok_ep, List.length_cons, List.length_nil, Nat.reduceAdd, Nat.zero_add, List.getD_cons_zero, List.getD_cons_succ, List.drop_zero, List.drop_succ_cons, List.take_succ_cons, List.take_zero, Nat.le_refl, List.set_cons_zero, List.set_cons_succ, S_mem, lookR_cons, lookR_nil, Option.some.injEq, exists_eq_left', exists_eq_left, Option.map_some, eq_self, reduceCtorEq, and_self, evS_move, evS_store, evSo_ptr, soR_some, splice, List.append_nil, cellsOf_ag, cellsOf_agg, cellsOf_int, cellsOf_bool, cellsOf_slice, cellsOf_func, cellsOf_ref, cellsOf_sl, cell1s_nil, cell1s_cons, cell1_int, cell1_bool, cell1_slice, cell1_func, cell1_ref, cell1_sl, List.map_cons, List.map_nil, evS_assign, aThen_normal, Th_exit, Th_ret, Bl_normal, Bl_ret, Bl_exit, Po_normal, Po_ret, Nat.reduceEqDiff, ↓reduceIte]
      refine hK4 _ ?_; try clear hK4 K4
      refine awp_keepL [6, 7] ?_
      simp only [keepL_cons, keepL_nil, look_cons, look_nil, Nat.reduceBEq, cond_true, cond_false]
      refine awp_ret ?_
      simp only [aThen_normal, Th_exit, Th_ret, Bl_normal, Bl_ret, Bl_exit, Po_normal, Po_ret, Nat.reduceEqDiff, ↓reduceIte]
      refine done0 (by simp [resCs, resC, S, List.getD, look_cons, lookR, F_ag52, F_sz52, F_ok52]) ?_ (by simp [flatA, flatAs, flatD, instA, instC]) (by simp [AV.ids, AV.idsL, instA, instC])
      simp only [List.map_cons, List.map_nil, resA, S_getD, S_mem, lookR_cons, lookR_nil, Nat.reduceLT, Nat.reduceLeDiff, look_cons, Nat.reduceBEq, cond_true, cond_false, resAll, List.getD_cons_zero, List.getD_cons_succ, List.drop_zero, List.drop_succ_cons, List.take_succ_cons, List.take_zero, F_ag52, F_sz52, F_ok52]
      rw [hfx, hfi, findX, findI, hb]; rfl
    · intro hb
      refine awp_skip ?_
      simp only [aThen_normal, Th_exit, Th_ret, Bl_normal, Bl_ret, Bl_exit, Po_normal, Po_ret, Nat.reduceEqDiff, ↓reduceIte]
      refine hK2 _ ?_; try clear hK2 K2
      refine awp_keepL [1, 2, 6, 11, 12, 13] ?_
      simp only [keepL_cons, keepL_nil, look_cons, look_nil, Nat.reduceBEq, cond_true, cond_false]
      refine awp_plain F_mixed [some 25, some 13] rfl ?_
      simp only [evL_nil, evL_plain, nxS, nxS0, List.nil_append, List.cons_append, true_and, and_true, Gp_none, true_implies, S_const, Sk_const, S_tmp, Sk_tmp, Nat.reduceLT, Nat.reduceLeDiff, look_cons, look_nil, Nat.reduceBEq, cond_true, cond_false, ok_d, bare_d, ok_ref, bare_ref, ok_ptr, bare_ptr, ok_ag, bare_ag, implies_true, evS_binOp, binK_some, gr_v, b_add, pure_add, evS_move, aThen_normal, Th_exit, Th_ret, Bl_normal, Bl_ret, Bl_exit, Po_normal, Po_ret, Nat.reduceEqDiff, ↓reduceIte]
      refine ⟨post.length, _, by simp, le_SK id [] rfl (l' := [(1, .d (fnD 46)), (2, .d (iv n)), (6, .ptr 6 0 0), (11, .d (instsD (pre ++ x :: post))), (12, .d (iv (pre ++ x :: post).length)), (13, .d (iv (pre ++ [x]).length))]) (m' := [(6, (⟨True, 52, 12, true, false, 6, [[.d (.v (.int .i64 0)), .d (.v (.int .i64 0)), .d (.v (.int .i64 0)), .d (.v (.int .i64 0)), .d (.v (.int .i64 0)), .d (.v (.int .i64 0)), .d (.v (.int .i64 0)), .d (.v (.int .i64 0)), .d (.v (.int .i64 0)), .d (.v (.int .i64 0)), .d (.v (.int .i64 0)), .d (.v (.int .i64 0))]]⟩ : ARow))]) ?_ ?_ ?_ ?_, pre ++ [x], post, by simp, by rw [hfx, findX, hb]; rfl, by rw [hfi, findI, hb]; simp, rfl, rfl⟩
      · simp only [leV, look_cons, Nat.reduceBEq, cond_true, cond_false, instsD, fnD, len_map, wrap_len pre x (by simp at hl; omega)]; exact ⟨VLe.refl _, VLe.refl _, VLe.refl _, VLe.refl _, VLe.refl _, VLe.refl _, trivial⟩
      · exact ⟨fun _ => ⟨_, rfl, ⟨id, rfl, rfl, rfl, id, .inl, VLess.refl _⟩⟩, fun h => by simp at h, trivial⟩
      · simp [wfV, AV.ids, lookR]
      · simp [wfR, AV.idsL, AV.ids]
  · intro hb
    obtain rfl := none_of hb; clear hb
    refine awp_exit ?_
    simp only [aThen_normal, Th_exit, Th_ret, Bl_normal, Bl_ret, Bl_exit, Po_normal, Po_ret, Nat.reduceEqDiff, ↓reduceIte]
    refine hK0 _ ?_; try clear hK0 K0
    refine awp_keepL [6] ?_
    simp only [keepL_cons, keepL_nil, look_cons, look_nil, Nat.reduceBEq, cond_true, cond_false]
    refine awp_seq fun K0 hK0 => ?_
    refine awp_plain F_mixed [some 10] rfl ?_
    simp only [evL_nil, evL_plain, nxS, nxS0, List.nil_append, List.cons_append, true_and, and_true, Gp_none, true_implies, S_const, Sk_const, S_tmp, Sk_tmp, Nat.reduceLT, Nat.reduceLeDiff, look_cons, look_nil, Nat.reduceBEq, cond_true, cond_false, ok_d, bare_d, ok_ref, bare_ref, ok_ptr, bare_ptr, ok_ag, bare_ag, implies_true, evS_alloc, allocK_some, newRow1, F_zero52, S_mem, lookR_cons, lookR_nil, Option.some.injEq, exists_eq_left', exists_eq_left, Option.map_some, eq_self, reduceCtorEq, and_self, List.length_cons, List.length_nil, Nat.reduceAdd, Nat.zero_add, List.getD_cons_zero, List.getD_cons_succ, List.drop_zero, List.drop_succ_cons, List.take_succ_cons, List.take_zero, Nat.le_refl, List.set_cons_zero, List.set_cons_succ, allO_nil, allO_cons, oc_int, oc_bool, oc_slice, aThen_normal, Th_exit, Th_ret, Bl_normal, Bl_ret, Bl_exit, Po_normal, Po_ret, Nat.reduceEqDiff, ↓reduceIte]
    refine hK0 _ ?_; try clear hK0 K0
    refine awp_keepL [6, 10] ?_
    simp only [keepL_cons, keepL_nil, look_cons, look_nil, Nat.reduceBEq, cond_true, cond_false]
    refine awp_seq fun K0 hK0 => ?_
    refine awp_plain F_mixed [some 26, none, some 7] rfl ?_
    simp only [evL_nil, evL_plain, nxS, nxS0, List.nil_append, List.cons_append, true_and, and_true, Gp_none, true_implies, S_const, Sk_const, S_tmp, Sk_tmp, Nat.reduceLT, Nat.reduceLeDiff, look_cons, look_nil, Nat.reduceBEq, cond_true, cond_false, ok_d, bare_d, ok_ref, bare_ref, ok_ptr, bare_ptr, ok_ag, bare_ag, implies_true, evS_load, F_ok52, F_ag52, F_sz52, evLd_ptr, ldR_agg, ldR_one, evLd_ep_agg, evLd_ep_one, bare_ep, ok_ep, List.length_cons, List.length_nil, Nat.reduceAdd, Nat.zero_add, List.getD_cons_zero, List.getD_cons_succ, List.drop_zero, List.drop_succ_cons, List.take_succ_cons, List.take_zero, Nat.le_refl, List.set_cons_zero, List.set_cons_succ, S_mem, lookR_cons, lookR_nil, Option.some.injEq, exists_eq_left', exists_eq_left, Option.map_some, eq_self, reduceCtorEq, and_self, evS_store, evSo_ptr, soR_some, splice, List.append_nil, cellsOf_ag, cellsOf_agg, cellsOf_int, cellsOf_bool, cellsOf_slice, cellsOf_func, cellsOf_ref, cellsOf_sl, cell1s_nil, cell1s_cons, cell1_int, cell1_bool, cell1_slice, cell1_func, cell1_ref, cell1_sl, List.map_cons, List.map_nil, evS_assign, aThen_normal, Th_exit, Th_ret, Bl_normal, Bl_ret, Bl_exit, Po_normal, Po_ret, Nat.reduceEqDiff, ↓reduceIte]
    refine hK0 _ ?_; try clear hK0 K0
    refine awp_keepL [6, 7] ?_
    simp only [keepL_cons, keepL_nil, look_cons, look_nil, Nat.reduceBEq, cond_true, cond_false]
    refine awp_ret ?_
    simp only [aThen_normal, Th_exit, Th_ret, Bl_normal, Bl_ret, Bl_exit, Po_normal, Po_ret, Nat.reduceEqDiff, ↓reduceIte]
    refine done0 (by simp [resCs, resC, S, List.getD, look_cons, lookR, F_ag52, F_sz52, F_ok52]) ?_ (by simp [flatA, flatAs, flatD, instA, instC]) (by simp [AV.ids, AV.idsL, instA, instC])
    simp only [List.map_cons, List.map_nil, resA, S_getD, S_mem, lookR_cons, lookR_nil, Nat.reduceLT, Nat.reduceLeDiff, look_cons, Nat.reduceBEq, cond_true, cond_false, resAll, List.getD_cons_zero, List.getD_cons_succ, List.drop_zero, List.drop_succ_cons, List.take_succ_cons, List.take_zero, F_ag52, F_sz52, F_ok52]
    rw [hfx, hfi]; rfl
theorem tMember_ (r : RollV) (n : Int) (h : r.Small) : ACalls Try.prog 30 [.agg (rollC r), iv n] [] (.tp [memA (findX MemV.no n zMem r.mems), bv (hasX MemV.no n r.mems)]) := by
  refine acalls_S (rs := [.cell 4 47, .tmp 5]) Try.func30 rfl rfl 18 [(0, .d (.agg (rollC r))), (1, .d (iv n))] rfl (by simp) rfl ?_
  refine awp_seq fun K0 hK0 => ?_
  refine awp_plain F_mixed [some 2, some 4, some 5] rfl ?_
  simp only [evL_nil, evL_plain, nxS, nxS0, List.nil_append, List.cons_append, true_and, and_true, Gp_none, true_implies, S_const, Sk_const, S_tmp, Sk_tmp, Nat.reduceLT, Nat.reduceLeDiff, look_cons, look_nil, Nat.reduceBEq, cond_true, cond_false, ok_d, bare_d, ok_ref, bare_ref, ok_ptr, bare_ptr, ok_ag, bare_ag, implies_true, evS_box, boxK_some, newRow1, cellsOf_ag, cellsOf_agg, cellsOf_int, cellsOf_bool, cellsOf_slice, cellsOf_func, cellsOf_ref, cellsOf_sl, cell1s_nil, cell1s_cons, cell1_int, cell1_bool, cell1_slice, cell1_func, cell1_ref, cell1_sl, List.map_cons, List.map_nil, List.length_cons, List.length_nil, S_mem, lookR_cons, lookR_nil, Option.some.injEq, exists_eq_left', exists_eq_left, Option.map_some, eq_self, reduceCtorEq, and_self, Nat.reduceAdd, Nat.zero_add, List.getD_cons_zero, List.getD_cons_succ, List.drop_zero, List.drop_succ_cons, List.take_succ_cons, List.take_zero, Nat.le_refl, List.set_cons_zero, List.set_cons_succ, evS_alloc, allocK_some, F_zero47, allO_nil, allO_cons, oc_int, oc_bool, oc_slice, evS_assign, rollC, memsD, instsD, assetsD, aThen_normal, Th_exit, Th_ret, Bl_normal, Bl_ret, Bl_exit, Po_normal, Po_ret, Nat.reduceEqDiff, ↓reduceIte]
  refine hK0 _ ?_; try clear hK0 K0
  refine awp_keepL [1, 2, 4] ?_
  simp only [keepL_cons, keepL_nil, look_cons, look_nil, Nat.reduceBEq, cond_true, cond_false]
  refine awp_seq fun K0 hK0 => ?_
  refine awp_plain F_mixed [some 9, some 10, some 11, some 12, some 8, some 13, some 14, some 6, none, some 7] rfl ?_
  simp only [evL_nil, evL_plain, nxS, nxS0, List.nil_append, List.cons_append, true_and, and_true, Gp_none, true_implies, S_const, Sk_const, S_tmp, Sk_tmp, Nat.reduceLT, Nat.reduceLeDiff, look_cons, look_nil, Nat.reduceBEq, cond_true, cond_false, ok_d, bare_d, ok_ref, bare_ref, ok_ptr, bare_ptr, ok_ag, bare_ag, implies_true, evS_fieldAddr, faK_ptr, faK_ep, bare_ep, ok_ep, F_off43_0, List.drop_succ_cons, List.drop_zero, Nat.zero_add, Nat.reduceAdd, evS_load, F_ok39, F_ag39, F_sz39, evLd_ptr, ldR_agg, ldR_one, evLd_ep_agg, evLd_ep_one, List.length_cons, List.length_nil, List.getD_cons_zero, List.getD_cons_succ, List.take_succ_cons, List.take_zero, Nat.le_refl, List.set_cons_zero, List.set_cons_succ, S_mem, lookR_cons, lookR_nil, Option.some.injEq, exists_eq_left', exists_eq_left, Option.map_some, eq_self, reduceCtorEq, and_self, evS_move, evS_call, evC_value, evS_extract, exK_tp, bare_tp, ok_tp, evS_alloc, allocK_some, newRow1, F_zero47, allO_nil, allO_cons, oc_int, oc_bool, oc_slice, evS_store, F_ok47, F_sz47, evSo_ptr, soR_some, splice, List.append_nil, cellsOf_ag, cellsOf_agg, cellsOf_int, cellsOf_bool, cellsOf_slice, cellsOf_func, cellsOf_ref, cellsOf_sl, cell1s_nil, cell1s_cons, cell1_int, cell1_bool, cell1_slice, cell1_func, cell1_ref, cell1_sl, List.map_cons, List.map_nil, evS_assign, memsD, instsD, assetsD, fnD, memA, memC, List.map_cons, List.map_nil, aThen_normal, Th_exit, Th_ret, Bl_normal, Bl_ret, Bl_exit, Po_normal, Po_ret, Nat.reduceEqDiff, ↓reduceIte]
  refine call_go F_go52 (fun hG => findM_ r.mems n h.mems) (by simp [AV.ids, AV.idsL, memA, memC]) (by simp) ?_
  simp only [evL_nil, evL_plain, nxS, nxS0, List.nil_append, List.cons_append, true_and, and_true, Gp_none, true_implies, S_const, Sk_const, S_tmp, Sk_tmp, Nat.reduceLT, Nat.reduceLeDiff, look_cons, look_nil, Nat.reduceBEq, cond_true, cond_false, ok_d, bare_d, ok_ref, bare_ref, ok_ptr, bare_ptr, ok_ag, bare_ag, implies_true, evS_fieldAddr, faK_ptr, faK_ep, bare_ep, ok_ep, F_off43_0, List.drop_succ_cons, List.drop_zero, Nat.zero_add, Nat.reduceAdd, evS_load, F_ok39, F_ag39, F_sz39, evLd_ptr, ldR_agg, ldR_one, evLd_ep_agg, evLd_ep_one, List.length_cons, List.length_nil, List.getD_cons_zero, List.getD_cons_succ, List.take_succ_cons, List.take_zero, Nat.le_refl, List.set_cons_zero, List.set_cons_succ, S_mem, lookR_cons, lookR_nil, Option.some.injEq, exists_eq_left', exists_eq_left, Option.map_some, eq_self, reduceCtorEq, and_self, evS_move, evS_call, evC_value, evS_extract, exK_tp, bare_tp, ok_tp, evS_alloc, allocK_some, newRow1, F_zero47, allO_nil, allO_cons, oc_int, oc_bool, oc_slice, evS_store, F_ok47, F_sz47, evSo_ptr, soR_some, splice, List.append_nil, cellsOf_ag, cellsOf_agg, cellsOf_int, cellsOf_bool, cellsOf_slice, cellsOf_func, cellsOf_ref, cellsOf_sl, cell1s_nil, cell1s_cons, cell1_int, cell1_bool, cell1_slice, cell1_func, cell1_ref, cell1_sl, List.map_cons, List.map_nil, evS_assign, memsD, instsD, assetsD, fnD, memA, memC, List.map_cons, List.map_nil, aThen_normal, Th_exit, Th_ret, Bl_normal, Bl_ret, Bl_exit, Po_normal, Po_ret, Nat.reduceEqDiff, ↓reduceIte, asDs_cons, asDs_nil, atsL, asD_self, asD_nil, asD_sl, asD_agg, asD_int, asD_bool, asD_func, asD_ag, asD_ref, asG_d, asG_ag, asG_ref, oksG, freeN, AV.ren, AV.renL, addRows, ORow.row, Nat.reduceMul, Nat.reduceAdd, unE_cons, unE_nil, unDs_cons, unDs_nil, unE_map, Option.bind_some, Option.map_some, forall_eq', D.sl.injEq, S_mem, Option.some.injEq, exists_eq_left', exists_eq_left, exists_eq', exists_eq, List.length_nil, List.length_cons, lookR_nil, lookR_cons, S_func, Sk_func]
  refine hK0 _ ?_; try clear hK0 K0
  refine awp_keepL [4, 6, 7] ?_
  simp only [keepL_cons, keepL_nil, look_cons, look_nil, Nat.reduceBEq, cond_true, cond_false]
  refine awp_seq fun K0 hK0 => ?_
  refine awp_plain F_mixed [some 15, some 16, some 17, none, some 5] rfl ?_
  simp only [evL_nil, evL_plain, nxS, nxS0, List.nil_append, List.cons_append, true_and, and_true, Gp_none, true_implies, S_const, Sk_const, S_tmp, Sk_tmp, Nat.reduceLT, Nat.reduceLeDiff, look_cons, look_nil, Nat.reduceBEq, cond_true, cond_false, ok_d, bare_d, ok_ref, bare_ref, ok_ptr, bare_ptr, ok_ag, bare_ag, implies_true, evS_load, F_ok47, F_ag47, F_sz47, evLd_ptr, ldR_agg, ldR_one, evLd_ep_agg, evLd_ep_one, bare_ep, ok_ep, List.length_cons, List.length_nil, Nat.reduceAdd, Nat.zero_add, List.getD_cons_zero, List.getD_cons_succ, List.drop_zero, List.drop_succ_cons, List.take_succ_cons, List.take_zero, Nat.le_refl, List.set_cons_zero, List.set_cons_succ, S_mem, lookR_cons, lookR_nil, Option.some.injEq, exists_eq_left', exists_eq_left, Option.map_some, eq_self, reduceCtorEq, and_self, evS_move, evS_binOp, binK_some, gr_v, b_geq, pure_geq, evS_store, evSo_ptr, soR_some, splice, List.append_nil, cellsOf_ag, cellsOf_agg, cellsOf_int, cellsOf_bool, cellsOf_slice, cellsOf_func, cellsOf_ref, cellsOf_sl, cell1s_nil, cell1s_cons, cell1_int, cell1_bool, cell1_slice, cell1_func, cell1_ref, cell1_sl, List.map_cons, List.map_nil, evS_assign, aThen_normal, Th_exit, Th_ret, Bl_normal, Bl_ret, Bl_exit, Po_normal, Po_ret, Nat.reduceEqDiff, ↓reduceIte]
  refine hK0 _ ?_; try clear hK0 K0
  refine awp_keepL [4, 5] ?_
  simp only [keepL_cons, keepL_nil, look_cons, look_nil, Nat.reduceBEq, cond_true, cond_false]
  refine awp_ret ?_
  simp only [aThen_normal, Th_exit, Th_ret, Bl_normal, Bl_ret, Bl_exit, Po_normal, Po_ret, Nat.reduceEqDiff, ↓reduceIte]
  refine done0 (by simp [resCs, resC, S, List.getD, look_cons, lookR, F_ag47, F_sz47, F_ok47]) ?_ (by simp [flatA, flatAs, flatD, memA, memC]) (by simp [AV.ids, AV.idsL, memA, memC])
  simp only [List.map_cons, List.map_nil, resA, S_getD, S_mem, lookR_cons, lookR_nil, Nat.reduceLT, Nat.reduceLeDiff, look_cons, Nat.reduceBEq, cond_true, cond_false, resAll, List.getD_cons_zero, List.getD_cons_succ, List.drop_zero, List.drop_succ_cons, List.take_succ_cons, List.take_zero, F_ag47, F_sz47, F_ok47]
  rw [findI_has]; rfl
theorem tInst_ (r : RollV) (n : Int) (h : r.Small) : ACalls Try.prog 29 [.agg (rollC r), iv n] [] (.tp [instA (findX InstV.no n zInst r.insts), bv (hasX InstV.no n r.insts)]) := by
  refine acalls_S (rs := [.cell 4 52, .tmp 5]) Try.func29 rfl rfl 18 [(0, .d (.agg (rollC r))), (1, .d (iv n))] rfl (by simp) rfl ?_
  refine awp_seq fun K0 hK0 => ?_
  refine awp_plain F_mixed [some 2, some 4, some 5] rfl ?_
  simp only [evL_nil, evL_plain, nxS, nxS0, List.nil_append, List.cons_append, true_and, and_true, Gp_none, true_implies, S_const, Sk_const, S_tmp, Sk_tmp, Nat.reduceLT, Nat.reduceLeDiff, look_cons, look_nil, Nat.reduceBEq, cond_true, cond_false, ok_d, bare_d, ok_ref, bare_ref, ok_ptr, bare_ptr, ok_ag, bare_ag, implies_true, evS_box, boxK_some, newRow1, cellsOf_ag, cellsOf_agg, cellsOf_int, cellsOf_bool, cellsOf_slice, cellsOf_func, cellsOf_ref, cellsOf_sl, cell1s_nil, cell1s_cons, cell1_int, cell1_bool, cell1_slice, cell1_func, cell1_ref, cell1_sl, List.map_cons, List.map_nil, List.length_cons, List.length_nil, S_mem, lookR_cons, lookR_nil, Option.some.injEq, exists_eq_left', exists_eq_left, Option.map_some, eq_self, reduceCtorEq, and_self, Nat.reduceAdd, Nat.zero_add, List.getD_cons_zero, List.getD_cons_succ, List.drop_zero, List.drop_succ_cons, List.take_succ_cons, List.take_zero, Nat.le_refl, List.set_cons_zero, List.set_cons_succ, evS_alloc, allocK_some, F_zero52, allO_nil, allO_cons, oc_int, oc_bool, oc_slice, evS_assign, rollC, memsD, instsD, assetsD, aThen_normal, Th_exit, Th_ret, Bl_normal, Bl_ret, Bl_exit, Po_normal, Po_ret, Nat.reduceEqDiff, ↓reduceIte]
  refine hK0 _ ?_; try clear hK0 K0
  refine awp_keepL [1, 2, 4] ?_
  simp only [keepL_cons, keepL_nil, look_cons, look_nil, Nat.reduceBEq, cond_true, cond_false]
  refine awp_seq fun K0 hK0 => ?_
  refine awp_plain F_mixed [some 9, some 10, some 11, some 12, some 8, some 13, some 14, some 6, none, some 7] rfl ?_
  simp only [evL_nil, evL_plain, nxS, nxS0, List.nil_append, List.cons_append, true_and, and_true, Gp_none, true_implies, S_const, Sk_const, S_tmp, Sk_tmp, Nat.reduceLT, Nat.reduceLeDiff, look_cons, look_nil, Nat.reduceBEq, cond_true, cond_false, ok_d, bare_d, ok_ref, bare_ref, ok_ptr, bare_ptr, ok_ag, bare_ag, implies_true, evS_fieldAddr, faK_ptr, faK_ep, bare_ep, ok_ep, F_off43_1, List.drop_succ_cons, List.drop_zero, Nat.zero_add, Nat.reduceAdd, evS_load, F_ok40, F_ag40, F_sz40, evLd_ptr, ldR_agg, ldR_one, evLd_ep_agg, evLd_ep_one, List.length_cons, List.length_nil, List.getD_cons_zero, List.getD_cons_succ, List.take_succ_cons, List.take_zero, Nat.le_refl, List.set_cons_zero, List.set_cons_succ, S_mem, lookR_cons, lookR_nil, Option.some.injEq, exists_eq_left', exists_eq_left, Option.map_some, eq_self, reduceCtorEq, and_self, evS_move, evS_call, evC_value, evS_extract, exK_tp, bare_tp, ok_tp, evS_alloc, allocK_some, newRow1, F_zero52, allO_nil, allO_cons, oc_int, oc_bool, oc_slice, evS_store, F_ok52, F_sz52, evSo_ptr, soR_some, splice, List.append_nil, cellsOf_ag, cellsOf_agg, cellsOf_int, cellsOf_bool, cellsOf_slice, cellsOf_func, cellsOf_ref, cellsOf_sl, cell1s_nil, cell1s_cons, cell1_int, cell1_bool, cell1_slice, cell1_func, cell1_ref, cell1_sl, List.map_cons, List.map_nil, evS_assign, memsD, instsD, assetsD, fnD, instA, instC, List.map_cons, List.map_nil, aThen_normal, Th_exit, Th_ret, Bl_normal, Bl_ret, Bl_exit, Po_normal, Po_ret, Nat.reduceEqDiff, ↓reduceIte]
  refine call_go F_go51 (fun hG => findIn_ r.insts n h.insts) (by simp [AV.ids, AV.idsL, instA, instC]) (by simp) ?_
  simp only [evL_nil, evL_plain, nxS, nxS0, List.nil_append, List.cons_append, true_and, and_true, Gp_none, true_implies, S_const, Sk_const, S_tmp, Sk_tmp, Nat.reduceLT, Nat.reduceLeDiff, look_cons, look_nil, Nat.reduceBEq, cond_true, cond_false, ok_d, bare_d, ok_ref, bare_ref, ok_ptr, bare_ptr, ok_ag, bare_ag, implies_true, evS_fieldAddr, faK_ptr, faK_ep, bare_ep, ok_ep, F_off43_1, List.drop_succ_cons, List.drop_zero, Nat.zero_add, Nat.reduceAdd, evS_load, F_ok40, F_ag40, F_sz40, evLd_ptr, ldR_agg, ldR_one, evLd_ep_agg, evLd_ep_one, List.length_cons, List.length_nil, List.getD_cons_zero, List.getD_cons_succ, List.take_succ_cons, List.take_zero, Nat.le_refl, List.set_cons_zero, List.set_cons_succ, S_mem, lookR_cons, lookR_nil, Option.some.injEq, exists_eq_left', exists_eq_left, Option.map_some, eq_self, reduceCtorEq, and_self, evS_move, evS_call, evC_value, evS_extract, exK_tp, bare_tp, ok_tp, evS_alloc, allocK_some, newRow1, F_zero52, allO_nil, allO_cons, oc_int, oc_bool, oc_slice, evS_store, F_ok52, F_sz52, evSo_ptr, soR_some, splice, List.append_nil, cellsOf_ag, cellsOf_agg, cellsOf_int, cellsOf_bool, cellsOf_slice, cellsOf_func, cellsOf_ref, cellsOf_sl, cell1s_nil, cell1s_cons, cell1_int, cell1_bool, cell1_slice, cell1_func, cell1_ref, cell1_sl, List.map_cons, List.map_nil, evS_assign, memsD, instsD, assetsD, fnD, instA, instC, List.map_cons, List.map_nil, aThen_normal, Th_exit, Th_ret, Bl_normal, Bl_ret, Bl_exit, Po_normal, Po_ret, Nat.reduceEqDiff, ↓reduceIte, asDs_cons, asDs_nil, atsL, asD_self, asD_nil, asD_sl, asD_agg, asD_int, asD_bool, asD_func, asD_ag, asD_ref, asG_d, asG_ag, asG_ref, oksG, freeN, AV.ren, AV.renL, addRows, ORow.row, Nat.reduceMul, Nat.reduceAdd, unE_cons, unE_nil, unDs_cons, unDs_nil, unE_map, Option.bind_some, Option.map_some, forall_eq', D.sl.injEq, S_mem, Option.some.injEq, exists_eq_left', exists_eq_left, exists_eq', exists_eq, List.length_nil, List.length_cons, lookR_nil, lookR_cons, S_func, Sk_func]
  refine hK0 _ ?_; try clear hK0 K0
  refine awp_keepL [4, 6, 7] ?_
  simp only [keepL_cons, keepL_nil, look_cons, look_nil, Nat.reduceBEq, cond_true, cond_false]
  refine awp_seq fun K0 hK0 => ?_
  refine awp_plain F_mixed [some 15, some 16, some 17, none, some 5] rfl ?_
  simp only [evL_nil, evL_plain, nxS, nxS0, List.nil_append, List.cons_append, true_and, and_true, Gp_none, true_implies, S_const, Sk_const, S_tmp, Sk_tmp, Nat.reduceLT, Nat.reduceLeDiff, look_cons, look_nil, Nat.reduceBEq, cond_true, cond_false, ok_d, bare_d, ok_ref, bare_ref, ok_ptr, bare_ptr, ok_ag, bare_ag, implies_true, evS_load, F_ok52, F_ag52, F_sz52, evLd_ptr, ldR_agg, ldR_one, evLd_ep_agg, evLd_ep_one, bare_ep, ok_ep, List.length_cons, List.length_nil, Nat.reduceAdd, Nat.zero_add, List.getD_cons_zero, List.getD_cons_succ, List.drop_zero, List.drop_succ_cons, List.take_succ_cons, List.take_zero, Nat.le_refl, List.set_cons_zero, List.set_cons_succ, S_mem, lookR_cons, lookR_nil, Option.some.injEq, exists_eq_left', exists_eq_left, Option.map_some, eq_self, reduceCtorEq, and_self, evS_move, evS_binOp, binK_some, gr_v, b_geq, pure_geq, evS_store, evSo_ptr, soR_some, splice, List.append_nil, cellsOf_ag, cellsOf_agg, cellsOf_int, cellsOf_bool, cellsOf_slice, cellsOf_func, cellsOf_ref, cellsOf_sl, cell1s_nil, cell1s_cons, cell1_int, cell1_bool, cell1_slice, cell1_func, cell1_ref, cell1_sl, List.map_cons, List.map_nil, evS_assign, aThen_normal, Th_exit, Th_ret, Bl_normal, Bl_ret, Bl_exit, Po_normal, Po_ret, Nat.reduceEqDiff, ↓reduceIte]
  refine hK0 _ ?_; try clear hK0 K0
  refine awp_keepL [4, 5] ?_
  simp only [keepL_cons, keepL_nil, look_cons, look_nil, Nat.reduceBEq, cond_true, cond_false]
  refine awp_ret ?_
  simp only [aThen_normal, Th_exit, Th_ret, Bl_normal, Bl_ret, Bl_exit, Po_normal, Po_ret, Nat.reduceEqDiff, ↓reduceIte]
  refine done0 (by simp [resCs, resC, S, List.getD, look_cons, lookR, F_ag52, F_sz52, F_ok52]) ?_ (by simp [flatA, flatAs, flatD, instA, instC]) (by simp [AV.ids, AV.idsL, instA, instC])
  simp only [List.map_cons, List.map_nil, resA, S_getD, S_mem, lookR_cons, lookR_nil, Nat.reduceLT, Nat.reduceLeDiff, look_cons, Nat.reduceBEq, cond_true, cond_false, resAll, List.getD_cons_zero, List.getD_cons_succ, List.drop_zero, List.drop_succ_cons, List.take_succ_cons, List.take_zero, F_ag52, F_sz52, F_ok52]
  rw [findI_has]; rfl
end Go.Proofs.Ytbagefpamkhndaa
