import Derived.Test.YtcpiojfhbebfiaaWpV
import Derived.Test.YtcpiojfhbebfiaaSpecI
namespace Go.Proofs.Ytcpiojfhbebfiaa
open Go.RowKit
set_option linter.unusedVariables false
set_option linter.unusedSimpArgs false
theorem F_go8 : goFn Try.prog 8 := ⟨_, Try.func8, rfl, rfl⟩
theorem F_ok44 : tyOk Try.prog 44 = true := by kernel_rfl
theorem F_ag44 : aggT Try.prog 44 = true := by kernel_rfl
theorem F_sz44 : szT Try.prog 44 = 2 := by kernel_rfl
theorem F_go17 : goFn Try.prog 17 := ⟨_, Try.func17, rfl, rfl⟩
set_option maxRecDepth 100000 in
set_option maxHeartbeats 4000000 in
theorem gridAdds_ (r : RollV) (k : KeyV) (q : Int) : ACalls Try.prog 7 [.agg (rollC r), .agg (keyK k), iv q] [] (bv true) := by
  refine acalls_S (rs := [.tmp 6]) Try.func7 rfl rfl 137 [(0, .d (.agg (rollC r))), (1, .d (.agg (keyK k))), (2, .d (iv q))] rfl (by simp) rfl ?_
  refine awp_seq fun K0 hK0 => ?_
  refine awp_plain F_mixed [some 3, some 4, some 6] rfl ?_
  simp only [List.nil_append, List.cons_append, true_and, and_true, zz0, true_implies, Nat.reduceLT, Nat.reduceLeDiff, zzI, look_nil, Nat.reduceBEq, implies_true, zz35, newRow1, zz1, zzG, zzD, zz16, Option.some.injEq, exists_eq_left', exists_eq_left, Option.map_some, eq_self, reduceCtorEq, and_self, Nat.reduceAdd, Nat.zero_add, zzF, zzB, zzE, evS_assign, rollC, memsD, instsD, assetsD, keyK, zz6, Nat.reduceEqDiff, ↓reduceIte]
  refine hK0 _ ?_; try clear hK0 K0
  refine awp_keepL [2, 3, 4] ?_
  simp only [zz20, zzI, look_nil, Nat.reduceBEq]
  refine awp_seq fun K0 hK0 => ?_
  refine awp_seq fun K1 hK1 => ?_
  refine awp_plain F_mixed [some 17, some 18, some 19, some 20, some 21, some 22, some 23, some 24, some 25, some 26] rfl ?_
  simp only [List.nil_append, List.cons_append, true_and, and_true, zz0, true_implies, Nat.reduceLT, Nat.reduceLeDiff, zzI, look_nil, Nat.reduceBEq, implies_true, Nat.reduceSub, S_getD, zz5, and_imp, imp_and, imp_self, and_self, F_ok26, F_ag26, F_sz26, zz8, zz23, zzD, Nat.reduceAdd, Nat.zero_add, zzF, zzB, zzE, zz16, Option.some.injEq, exists_eq_left', exists_eq_left, Option.map_some, eq_self, reduceCtorEq, evS_call, evC_value, evS_move, zz21, gr_v, zz22, zz13, zz25, memsD, instsD, assetsD, rollC, D.agg.injEq, memA, memC, instA, instC, zzG, zz6, Nat.reduceEqDiff, ↓reduceIte]
  refine call_go F_go8 (fun hG => heavy_ r) (by simp [AV.ids, AV.idsL]) (by simp) ?_
  simp only [List.nil_append, List.cons_append, true_and, and_true, zz0, true_implies, Nat.reduceLT, Nat.reduceLeDiff, zzI, look_nil, Nat.reduceBEq, implies_true, Nat.reduceSub, S_getD, zz5, and_imp, imp_and, imp_self, and_self, F_ok26, F_ag26, F_sz26, zz8, zz23, zzD, Nat.reduceAdd, Nat.zero_add, zzF, zzB, zzE, zz16, Option.some.injEq, exists_eq_left', exists_eq_left, Option.map_some, eq_self, reduceCtorEq, evS_call, evC_value, evS_move, zz21, gr_v, zz22, zz13, zz25, memsD, instsD, assetsD, rollC, D.agg.injEq, memA, memC, instA, instC, zzG, zz6, Nat.reduceEqDiff, ↓reduceIte, atsL, oksG, freeN, AV.ren, AV.renL, addRows, ORow.row, Nat.reduceMul, Nat.reduceAdd, zz9, Option.bind_some, Option.map_some, forall_eq', D.sl.injEq, S_mem, Option.some.injEq, exists_eq_left', exists_eq_left, exists_eq', exists_eq, List.length_cons, zz2]
  refine hK1 _ ?_; try clear hK1 K1
  refine awp_keepL [2, 3, 4, 26] ?_
  simp only [zz20, zzI, look_nil, Nat.reduceBEq]
  refine awp_condS _ (by decide) (by simp only [look_cons, Nat.reduceBEq, cond_true, cond_false]; rfl) ?_ ?_
  · intro hb
    clear hb
    refine awp_seq fun K2 hK2 => ?_
    refine awp_plain F_mixed [some 6] rfl ?_
    simp only [List.nil_append, List.cons_append, true_and, and_true, zz0, true_implies, Nat.reduceLT, Nat.reduceLeDiff, zzI, look_nil, Nat.reduceBEq, implies_true, evS_assign, zz6, Nat.reduceEqDiff, ↓reduceIte]
    refine hK2 _ ?_; try clear hK2 K2
    refine awp_keepL [6] ?_
    simp only [zz20, zzI, look_nil, Nat.reduceBEq]
    refine awp_ret ?_
    simp only [zz6, Nat.reduceEqDiff, ↓reduceIte]
    refine done0 (by simp only [resCs, resC]; trivial) ?_ (by simp [flatA, flatAs, flatD]) (by simp [AV.ids, AV.idsL])
    simp only [List.map_cons, List.map_nil, resA, S_getD, Nat.reduceLT, Nat.reduceLeDiff, look_cons, Nat.reduceBEq, cond_true, cond_false, resAll]
    
  · intro hb
    simp only [Bool.or_eq_false_iff, decide_eq_false_iff_not] at hb
    obtain ⟨⟨g0, g1⟩, g2⟩ := hb
    have h := small_of g0
    have h0 : -1048576 ≤ q := by omega
    have h1 : q ≤ 1048576 := by omega
    refine awp_skip ?_
    simp only [zz6, Nat.reduceEqDiff, ↓reduceIte]
    refine hK0 _ ?_; try clear hK0 K0
    refine awp_keepL [2, 3, 4] ?_
    simp only [zz20, zzI, look_nil, Nat.reduceBEq]
    refine awp_seq fun K0 hK0 => ?_
    refine awp_plain F_mixed [some 28, some 29, some 30, some 31, some 32, some 33, some 34, some 27, some 35, some 36, some 7, none, some 8] rfl ?_
    simp only [List.nil_append, List.cons_append, true_and, and_true, zz0, true_implies, Nat.reduceLT, Nat.reduceLeDiff, zzI, look_nil, Nat.reduceBEq, implies_true, F_ok26, F_ag26, F_sz26, zz8, zz23, zzD, Nat.reduceAdd, Nat.zero_add, zzF, zzB, zzE, zz16, Option.some.injEq, exists_eq_left', exists_eq_left, Option.map_some, eq_self, reduceCtorEq, and_self, zz19, F_off44_0, F_ok3, F_ag3, F_sz3, F_ok44, F_ag44, F_sz44, F_zero46, F_bld46, zz7, splice, Option.getD_some, List.append_nil, zz1, zzG, zz10, F_fld46_0, F_fld46_1, F_sl27, F_sz46, zz3, newRow1, maxLen_le, Nat.reduceMul, evS_call, evC_value, evS_move, zz14, zz32, F_zero31, zz18, F_ok31, F_sz31, evS_assign, poss, posC_one, keyK, List.map_cons, D.sl.injEq, lossA, memsD, instsD, assetsD, rollC, D.agg.injEq, memA, memC, instA, instC, List.map_cons, zz6, Nat.reduceEqDiff, ↓reduceIte]
    refine call_go F_go11 (fun hG => Losses_ r k.who 0 [onePos k 1] h (by simp)) (by simp [AV.ids, AV.idsL, lossA]) (by simp) ?_
    simp only [List.nil_append, List.cons_append, true_and, and_true, zz0, true_implies, Nat.reduceLT, Nat.reduceLeDiff, zzI, look_nil, Nat.reduceBEq, implies_true, F_ok26, F_ag26, F_sz26, zz8, zz23, zzD, Nat.reduceAdd, Nat.zero_add, zzF, zzB, zzE, zz16, Option.some.injEq, exists_eq_left', exists_eq_left, Option.map_some, eq_self, reduceCtorEq, and_self, zz19, F_off44_0, F_ok3, F_ag3, F_sz3, F_ok44, F_ag44, F_sz44, F_zero46, F_bld46, zz7, splice, Option.getD_some, List.append_nil, zz1, zzG, zz10, F_fld46_0, F_fld46_1, F_sl27, F_sz46, zz3, newRow1, maxLen_le, Nat.reduceMul, evS_call, evC_value, evS_move, zz14, zz32, F_zero31, zz18, F_ok31, F_sz31, evS_assign, poss, posC_one, keyK, List.map_cons, D.sl.injEq, lossA, memsD, instsD, assetsD, rollC, D.agg.injEq, memA, memC, instA, instC, List.map_cons, zz6, Nat.reduceEqDiff, ↓reduceIte, atsL, oksG, freeN, AV.ren, AV.renL, addRows, ORow.row, Nat.reduceMul, Nat.reduceAdd, zz9, Option.bind_some, Option.map_some, forall_eq', D.sl.injEq, S_mem, Option.some.injEq, exists_eq_left', exists_eq_left, exists_eq', exists_eq, List.length_cons, zz2]
    refine hK0 _ ?_; try clear hK0 K0
    refine awp_keepL [2, 3, 4, 7, 8] ?_
    simp only [zz20, zzI, look_nil, Nat.reduceBEq]
    refine awp_seq fun K0 hK0 => ?_
    refine awp_plain F_mixed [some 38, some 39, some 40, some 41, some 42, some 43, some 44, some 45, some 37, some 46, some 47, some 9, some 10] rfl ?_
    simp only [List.nil_append, List.cons_append, true_and, and_true, zz0, true_implies, Nat.reduceLT, Nat.reduceLeDiff, zzI, look_nil, Nat.reduceBEq, implies_true, F_ok26, F_ag26, F_sz26, zz8, zz23, zzD, Nat.reduceAdd, Nat.zero_add, zzF, zzB, zzE, zz16, Option.some.injEq, exists_eq_left', exists_eq_left, Option.map_some, eq_self, reduceCtorEq, and_self, zz19, F_off44_0, F_ok3, F_ag3, F_sz3, F_ok44, F_ag44, F_sz44, evS_move, F_zero46, F_bld46, zz7, splice, Option.getD_some, List.append_nil, zz1, zzG, zz10, F_fld46_0, F_fld46_1, F_sl27, F_sz46, zz3, newRow1, maxLen_le, Nat.reduceMul, evS_call, evC_value, zz14, evS_assign, poss, posC_one, keyK, List.map_cons, D.sl.injEq, lossA, memsD, instsD, assetsD, rollC, D.agg.injEq, memA, memC, instA, instC, List.map_cons, zz6, Nat.reduceEqDiff, ↓reduceIte]
    refine call_go F_go13 (fun hG => Margin_ r k.who 0 [onePos k q] h (by simp)) (by simp [AV.ids, AV.idsL, lossA]) (by simp) ?_
    simp only [List.nil_append, List.cons_append, true_and, and_true, zz0, true_implies, Nat.reduceLT, Nat.reduceLeDiff, zzI, look_nil, Nat.reduceBEq, implies_true, F_ok26, F_ag26, F_sz26, zz8, zz23, zzD, Nat.reduceAdd, Nat.zero_add, zzF, zzB, zzE, zz16, Option.some.injEq, exists_eq_left', exists_eq_left, Option.map_some, eq_self, reduceCtorEq, and_self, zz19, F_off44_0, F_ok3, F_ag3, F_sz3, F_ok44, F_ag44, F_sz44, evS_move, F_zero46, F_bld46, zz7, splice, Option.getD_some, List.append_nil, zz1, zzG, zz10, F_fld46_0, F_fld46_1, F_sl27, F_sz46, zz3, newRow1, maxLen_le, Nat.reduceMul, evS_call, evC_value, zz14, evS_assign, poss, posC_one, keyK, List.map_cons, D.sl.injEq, lossA, memsD, instsD, assetsD, rollC, D.agg.injEq, memA, memC, instA, instC, List.map_cons, zz6, Nat.reduceEqDiff, ↓reduceIte, atsL, oksG, freeN, AV.ren, AV.renL, addRows, ORow.row, Nat.reduceMul, Nat.reduceAdd, zz9, Option.bind_some, Option.map_some, forall_eq', D.sl.injEq, S_mem, Option.some.injEq, exists_eq_left', exists_eq_left, exists_eq', exists_eq, List.length_cons, zz2]
    refine hK0 _ ?_; try clear hK0 K0
    refine awp_keepL [2, 3, 4, 7, 8, 9, 10] ?_
    simp only [zz20, zzI, look_nil, Nat.reduceBEq]
    refine awp_seq fun K0 hK0 => ?_
    refine awp_plain F_mixed [some 49, some 50, some 51, some 52, some 48, some 53, some 54, some 11, some 12] rfl ?_
    simp only [List.nil_append, List.cons_append, true_and, and_true, zz0, true_implies, Nat.reduceLT, Nat.reduceLeDiff, zzI, look_nil, Nat.reduceBEq, implies_true, F_ok26, F_ag26, F_sz26, zz8, zz23, zzD, Nat.reduceAdd, Nat.zero_add, zzF, zzB, zzE, zz16, Option.some.injEq, exists_eq_left', exists_eq_left, Option.map_some, eq_self, reduceCtorEq, and_self, zz19, F_off44_0, F_ok3, F_ag3, F_sz3, evS_call, evC_value, evS_move, zz14, evS_assign, poss, posC_one, keyK, zzG, D.sl.injEq, lossA, memsD, instsD, assetsD, rollC, D.agg.injEq, memA, memC, instA, instC, List.map_cons, zz6, Nat.reduceEqDiff, ↓reduceIte]
    refine call_go F_go13 (fun hG => Margin_ r k.who 0 [] h (by simp)) (by simp [AV.ids, AV.idsL, lossA]) (by simp) ?_
    simp only [List.nil_append, List.cons_append, true_and, and_true, zz0, true_implies, Nat.reduceLT, Nat.reduceLeDiff, zzI, look_nil, Nat.reduceBEq, implies_true, F_ok26, F_ag26, F_sz26, zz8, zz23, zzD, Nat.reduceAdd, Nat.zero_add, zzF, zzB, zzE, zz16, Option.some.injEq, exists_eq_left', exists_eq_left, Option.map_some, eq_self, reduceCtorEq, and_self, zz19, F_off44_0, F_ok3, F_ag3, F_sz3, evS_call, evC_value, evS_move, zz14, evS_assign, poss, posC_one, keyK, zzG, D.sl.injEq, lossA, memsD, instsD, assetsD, rollC, D.agg.injEq, memA, memC, instA, instC, List.map_cons, zz6, Nat.reduceEqDiff, ↓reduceIte, atsL, oksG, freeN, AV.ren, AV.renL, addRows, ORow.row, Nat.reduceMul, Nat.reduceAdd, zz9, Option.bind_some, Option.map_some, forall_eq', D.sl.injEq, S_mem, Option.some.injEq, exists_eq_left', exists_eq_left, exists_eq', exists_eq, List.length_cons, zz2]
    refine hK0 _ ?_; try clear hK0 K0
    refine awp_keepL [2, 3, 4, 7, 8, 9, 10, 11, 12] ?_
    simp only [zz20, zzI, look_nil, Nat.reduceBEq]
    refine awp_seq fun K0 hK0 => ?_
    refine awp_seq fun K1 hK1 => ?_
    refine awp_plain F_mixed [some 55, some 56, some 57, some 58, some 59, some 60, some 61, some 62, some 63, some 64, some 65, some 66] rfl ?_
    simp only [List.nil_append, List.cons_append, true_and, and_true, zz0, true_implies, Nat.reduceLT, Nat.reduceLeDiff, zzI, look_nil, Nat.reduceBEq, implies_true, Nat.reduceSub, S_getD, zz5, and_imp, imp_and, imp_self, and_self, evS_move, zz21, gr_v, zz28, zz13, zz6, Nat.reduceEqDiff, ↓reduceIte]
    refine hK1 _ ?_; try clear hK1 K1
    refine awp_keepL [2, 3, 4, 7, 8, 9, 10, 11, 12, 66] ?_
    simp only [zz20, zzI, look_nil, Nat.reduceBEq]
    refine awp_condS _ (by decide) (by simp only [look_cons, Nat.reduceBEq, cond_true, cond_false]; rfl) ?_ ?_
    · intro hb
      have e := one_eq (r := r) (k := k) h0 h1
      clear hb
      refine awp_seq fun K2 hK2 => ?_
      refine awp_plain F_mixed [some 67, some 68, some 69, some 70, some 71, some 72, some 73, some 74, some 75, some 76, some 77, some 6] rfl ?_
      simp only [List.nil_append, List.cons_append, true_and, and_true, zz0, true_implies, Nat.reduceLT, Nat.reduceLeDiff, zzI, look_nil, Nat.reduceBEq, implies_true, Nat.reduceSub, S_getD, zz5, and_imp, imp_and, imp_self, and_self, evS_move, zz21, gr_v, zz34, zz13, evS_call, evC_value, evS_assign, e.1, e.2, zz6, Nat.reduceEqDiff, ↓reduceIte]
      refine call_go F_go17 (fun hG => wakes15_) (by simp [AV.ids, AV.idsL]) (by simp) ?_
      simp only [List.nil_append, List.cons_append, true_and, and_true, zz0, true_implies, Nat.reduceLT, Nat.reduceLeDiff, zzI, look_nil, Nat.reduceBEq, implies_true, Nat.reduceSub, S_getD, zz5, and_imp, imp_and, imp_self, and_self, evS_move, zz21, gr_v, zz34, zz13, evS_call, evC_value, evS_assign, e.1, e.2, zz6, Nat.reduceEqDiff, ↓reduceIte, atsL, oksG, freeN, AV.ren, AV.renL, addRows, ORow.row, Nat.reduceMul, Nat.reduceAdd, zz9, Option.bind_some, Option.map_some, forall_eq', D.sl.injEq, zz16, Option.some.injEq, exists_eq_left', exists_eq_left, exists_eq', exists_eq, zzD, zz2]
      refine hK2 _ ?_; try clear hK2 K2
      refine awp_keepL [6] ?_
      simp only [zz20, zzI, look_nil, Nat.reduceBEq]
      refine awp_ret ?_
      simp only [zz6, Nat.reduceEqDiff, ↓reduceIte]
      refine done0 (by simp only [resCs, resC]; trivial) ?_ (by simp [flatA, flatAs, flatD]) (by simp [AV.ids, AV.idsL])
      simp only [List.map_cons, List.map_nil, resA, S_getD, Nat.reduceLT, Nat.reduceLeDiff, look_cons, Nat.reduceBEq, cond_true, cond_false, resAll]
      simp
    · intro hb
      have q0 : lossE r k.who 0 [onePos k 1] = 0 := by simp at hb; exact hb.2
      clear hb
      have hr : rollOk r = true := (pcsE0 (lossE0 q0).1).1
      have o := one_law (k := k) hr h0 h1
      have hmx := mx2_self (q := q) (by omega) (by omega)
      have ov := o.v3
      have oa := o.all
      refine awp_skip ?_
      simp only [zz6, Nat.reduceEqDiff, ↓reduceIte]
      refine hK0 _ ?_; try clear hK0 K0
      refine awp_keepL [2, 3, 4, 7, 9, 11] ?_
      simp only [zz20, zzI, look_nil, Nat.reduceBEq]
      refine awp_seq fun K0 hK0 => ?_
      refine awp_plain F_mixed [some 13] rfl ?_
      simp only [List.nil_append, List.cons_append, true_and, and_true, zz0, true_implies, Nat.reduceLT, Nat.reduceLeDiff, zzI, look_nil, Nat.reduceBEq, implies_true, evS_assign, zz6, Nat.reduceEqDiff, ↓reduceIte]
      refine hK0 _ ?_; try clear hK0 K0
      refine awp_keepL [2, 3, 4, 7, 9, 11, 13] ?_
      simp only [zz20, zzI, look_nil, Nat.reduceBEq]
      refine awp_seq fun K0 hK0 => ?_
      refine awp_seq fun K1 hK1 => ?_
      refine awp_plain F_mixed [some 14] rfl ?_
      simp only [List.nil_append, List.cons_append, true_and, and_true, zz0, true_implies, Nat.reduceLT, Nat.reduceLeDiff, zzI, look_nil, Nat.reduceBEq, implies_true, evS_assign, zz6, Nat.reduceEqDiff, ↓reduceIte]
      refine hK1 _ ?_; try clear hK1 K1
      refine awp_keepL [2, 3, 4, 7, 9, 11, 13, 14] ?_
      simp only [zz20, zzI, look_nil, Nat.reduceBEq]
      refine awp_block ?_
      refine awp_loop (fun m s => ∃ pre post : List InstV, r.insts = pre ++ post ∧ m = post.length ∧ s = S 137 [(2, .d (iv q)), (3, .ptr 3 0 0), (4, .ptr 4 0 0), (7, .ptr 7 0 0), (9, .d (iv (margV r k.who 0 [onePos k q]))), (11, .d (iv (margV r k.who 0 []))), (13, .d (iv (addL k.inst pre))), (14, .d (iv pre.length))] [(3, (⟨True, 26, 3, true, false, 3, [[.d (.sl 3 (r.mems.map memC)), .d (.sl 12 ((pre ++ post).map instC)), .d (.sl 4 (r.assets.map assetC))]]⟩ : ARow)), (4, (⟨True, 44, 2, true, false, 4, [[.d (iv k.who), .d (iv k.inst)]]⟩ : ARow)), (7, (⟨True, 31, 6, true, false, 7, [[.d (iv (lossV r k.who 0 [onePos k 1] 0)), .d (iv (lossV r k.who 0 [onePos k 1] 1)), .d (iv (lossV r k.who 0 [onePos k 1] 2)), .d (iv (lossV r k.who 0 [onePos k 1] 3)), .d (iv (lossV r k.who 0 [onePos k 1] 4)), .d (iv (lossV r k.who 0 [onePos k 1] 5))]]⟩ : ARow))]) r.insts.length _ (le_SK id [] rfl (l' := [(2, .d (iv q)), (3, .ptr 3 0 0), (4, .ptr 4 0 0), (7, .ptr 7 0 0), (9, .d (iv (margV r k.who 0 [onePos k q]))), (11, .d (iv (margV r k.who 0 []))), (13, .d (iv (addL k.inst ([] : List InstV)))), (14, .d (iv ([] : List InstV).length))]) (m' := [(3, (⟨True, 26, 3, true, false, 3, [[.d (.sl 3 (r.mems.map memC)), .d (.sl 12 ((([] : List InstV) ++ r.insts).map instC)), .d (.sl 4 (r.assets.map assetC))]]⟩ : ARow)), (4, (⟨True, 44, 2, true, false, 4, [[.d (iv k.who), .d (iv k.inst)]]⟩ : ARow)), (7, (⟨True, 31, 6, true, false, 7, [[.d (iv (lossV r k.who 0 [onePos k 1] 0)), .d (iv (lossV r k.who 0 [onePos k 1] 1)), .d (iv (lossV r k.who 0 [onePos k 1] 2)), .d (iv (lossV r k.who 0 [onePos k 1] 3)), .d (iv (lossV r k.who 0 [onePos k 1] 4)), .d (iv (lossV r k.who 0 [onePos k 1] 5))]]⟩ : ARow))]) ?_ ?_ ?_ ?_) ⟨[], r.insts, rfl, rfl, rfl⟩ ?_
      · simp only [leV, look_cons, Nat.reduceBEq, cond_true, cond_false]; exact ⟨VLe.refl _, VLe.refl _, VLe.refl _, VLe.refl _, VLe.refl _, VLe.refl _, VLe.refl _, VLe.refl _, trivial⟩
      · exact ⟨fun _ => ⟨_, rfl, RowLe.same (by simp) (by simp [AV.idsL, AV.ids])⟩, fun h => by simp at h, fun _ => ⟨_, rfl, RowLe.still (by simp [AV.idsL, AV.ids])⟩, fun h => by simp at h, fun _ => ⟨_, rfl, RowLe.still (by simp [AV.idsL, AV.ids])⟩, fun h => by simp at h, trivial⟩
      · simp [wfV, AV.ids, AV.idsL, lookR]
      · simp [wfR, AV.idsL, AV.ids]
      rintro m s ⟨pre, post, hsp, rfl, rfl⟩
      refine awp_seq fun K2 hK2 => ?_
      refine awp_seq fun K3 hK3 => ?_
      refine awp_plain F_mixed [some 78, some 79, some 80, some 81, some 82] rfl ?_
      simp only [List.nil_append, List.cons_append, true_and, and_true, zz0, true_implies, Nat.reduceLT, Nat.reduceLeDiff, zzI, look_nil, Nat.reduceBEq, implies_true, evS_move, zz19, zz23, F_off26_1, zzB, Nat.zero_add, Nat.reduceAdd, F_ok23, F_ag23, F_sz23, zz8, zzD, zzF, zzE, zz16, Option.some.injEq, exists_eq_left', exists_eq_left, Option.map_some, eq_self, reduceCtorEq, and_self, evS_call, zz12, F_sl23, Option.isSome_some, zz21, gr_v, zz22, len_map, zz6, Nat.reduceEqDiff, ↓reduceIte]
      refine hK3 _ ?_; try clear hK3 K3
      refine awp_keepL [2, 3, 4, 7, 9, 11, 13, 14, 82] ?_
      simp only [zz20, zzI, look_nil, Nat.reduceBEq]
      refine awp_condS _ (by decide) (by simp only [look_cons, Nat.reduceBEq, cond_true, cond_false]; rfl) ?_ ?_
      · intro hb
        obtain ⟨x, post, rfl⟩ := more_of hb; clear hb
        refine awp_skip ?_
        simp only [zz6, Nat.reduceEqDiff, ↓reduceIte]
        refine hK2 _ ?_; try clear hK2 K2
        refine awp_keepL [2, 3, 4, 7, 9, 11, 13, 14] ?_
        simp only [zz20, zzI, look_nil, Nat.reduceBEq]
        refine awp_seq fun K2 hK2 => ?_
        refine awp_block ?_
        refine awp_seq fun K3 hK3 => ?_
        refine awp_draw F_mixed [some 85, some 86, some 87, some 88, some 89, some 90, some 91, some 92, some 93, some 94, some 95, some 96, some 97, some 98, some 99, some 100, some 101, some 102] rfl (by kernel_rfl) ?_
        simp only [List.nil_append, List.cons_append, true_and, and_true, zz0, true_implies, Nat.reduceLT, Nat.reduceLeDiff, zzI, look_nil, Nat.reduceBEq, implies_true, Nat.reduceSub, S_getD, zz5, and_imp, imp_and, imp_self, and_self, zz19, zz23, F_off26_1, zzB, Nat.zero_add, Nat.reduceAdd, F_ok23, F_ag23, F_sz23, zz8, zzD, zzF, zzE, zz16, Option.some.injEq, exists_eq_left', exists_eq_left, Option.map_some, eq_self, reduceCtorEq, evS_move, evS_indexAddr, zz24, F_sl23, F_sz49, F_off49_0, F_ok3, F_ag3, F_sz3, F_off44_1, zz21, gr_v, zz34, F_off49_1, zz13, instC, getD_mid, len_map, lt_mid, ge_mid, zz6, Nat.reduceEqDiff, ↓reduceIte]
        refine hK3 _ ?_; try clear hK3 K3
        refine awp_keepL [2, 3, 4, 7, 9, 11, 13, 14, 102] ?_
        simp only [zz20, zzI, look_nil, Nat.reduceBEq]
        refine awp_condS _ (by decide) (by simp only [look_cons, Nat.reduceBEq, cond_true, cond_false]; rfl) ?_ ?_
        · intro hb
          have hs : (x.no == k.inst && x.cur == 0) = true := hb
          clear hb
          refine awp_plain F_mixed [some 103, some 104, some 105, some 106, some 107, some 108, some 13] rfl ?_
          simp only [List.nil_append, List.cons_append, true_and, and_true, zz0, true_implies, Nat.reduceLT, Nat.reduceLeDiff, zzI, look_nil, Nat.reduceBEq, implies_true, zz19, zz23, F_off26_1, zzB, Nat.zero_add, Nat.reduceAdd, F_ok23, F_ag23, F_sz23, zz8, zzD, zzF, zzE, zz16, Option.some.injEq, exists_eq_left', exists_eq_left, Option.map_some, eq_self, reduceCtorEq, and_self, evS_move, evS_indexAddr, zz24, F_sl23, F_sz49, F_off49_3, F_ok3, F_ag3, F_sz3, evS_assign, instC, getD_mid, len_map, lt_mid, ge_mid, zz6, Nat.reduceEqDiff, ↓reduceIte]
          refine hK2 _ ?_; try clear hK2 K2
          refine awp_keepL [2, 3, 4, 7, 9, 11, 13, 14] ?_
          simp only [zz20, zzI, look_nil, Nat.reduceBEq]
          refine awp_plain F_mixed [some 83, some 84, some 14] rfl ?_
          simp only [List.nil_append, List.cons_append, true_and, and_true, zz0, true_implies, Nat.reduceLT, Nat.reduceLeDiff, zzI, look_nil, Nat.reduceBEq, implies_true, evS_move, zz21, gr_v, zz26, evS_assign, zz6, Nat.reduceEqDiff, ↓reduceIte]
          refine ⟨post.length, _, by simp, le_SK id [] rfl (l' := [(2, .d (iv q)), (3, .ptr 3 0 0), (4, .ptr 4 0 0), (7, .ptr 7 0 0), (9, .d (iv (margV r k.who 0 [onePos k q]))), (11, .d (iv (margV r k.who 0 []))), (13, .d (iv (addL k.inst (pre ++ [x])))), (14, .d (iv (pre ++ [x]).length))]) (m' := [(3, (⟨True, 26, 3, true, false, 3, [[.d (.sl 3 (r.mems.map memC)), .d (.sl 12 (((pre ++ [x]) ++ post).map instC)), .d (.sl 4 (r.assets.map assetC))]]⟩ : ARow)), (4, (⟨True, 44, 2, true, false, 4, [[.d (iv k.who), .d (iv k.inst)]]⟩ : ARow)), (7, (⟨True, 31, 6, true, false, 7, [[.d (iv (lossV r k.who 0 [onePos k 1] 0)), .d (iv (lossV r k.who 0 [onePos k 1] 1)), .d (iv (lossV r k.who 0 [onePos k 1] 2)), .d (iv (lossV r k.who 0 [onePos k 1] 3)), .d (iv (lossV r k.who 0 [onePos k 1] 4)), .d (iv (lossV r k.who 0 [onePos k 1] 5))]]⟩ : ARow))]) ?_ ?_ ?_ ?_, pre ++ [x], post, by simp [hsp], rfl, rfl⟩
          · simp only [leV, look_cons, Nat.reduceBEq, cond_true, cond_false, addL_yes hs, wrap_len pre x (by have e := congrArg List.length hsp; simp only [List.length_append, List.length_cons] at e; have := h.insts; omega)]; exact ⟨VLe.refl _, VLe.refl _, VLe.refl _, VLe.refl _, VLe.refl _, VLe.refl _, VLe.refl _, VLe.refl _, trivial⟩
          · exact ⟨fun _ => ⟨_, rfl, RowLe.same (by simp) (by simp [AV.idsL, AV.ids])⟩, fun h => by simp at h, fun _ => ⟨_, rfl, RowLe.still (by simp [AV.idsL, AV.ids])⟩, fun h => by simp at h, fun _ => ⟨_, rfl, RowLe.still (by simp [AV.idsL, AV.ids])⟩, fun h => by simp at h, trivial⟩
          · simp [wfV, AV.ids, AV.idsL, lookR]
          · simp [wfR, AV.idsL, AV.ids]
        · intro hb
          have hs : (x.no == k.inst && x.cur == 0) = false := hb
          clear hb
          refine awp_skip ?_
          simp only [zz6, Nat.reduceEqDiff, ↓reduceIte]
          refine hK2 _ ?_; try clear hK2 K2
          refine awp_keepL [2, 3, 4, 7, 9, 11, 13, 14] ?_
          simp only [zz20, zzI, look_nil, Nat.reduceBEq]
          refine awp_plain F_mixed [some 83, some 84, some 14] rfl ?_
          simp only [List.nil_append, List.cons_append, true_and, and_true, zz0, true_implies, Nat.reduceLT, Nat.reduceLeDiff, zzI, look_nil, Nat.reduceBEq, implies_true, evS_move, zz21, gr_v, zz26, evS_assign, zz6, Nat.reduceEqDiff, ↓reduceIte]
          refine ⟨post.length, _, by simp, le_SK id [] rfl (l' := [(2, .d (iv q)), (3, .ptr 3 0 0), (4, .ptr 4 0 0), (7, .ptr 7 0 0), (9, .d (iv (margV r k.who 0 [onePos k q]))), (11, .d (iv (margV r k.who 0 []))), (13, .d (iv (addL k.inst (pre ++ [x])))), (14, .d (iv (pre ++ [x]).length))]) (m' := [(3, (⟨True, 26, 3, true, false, 3, [[.d (.sl 3 (r.mems.map memC)), .d (.sl 12 (((pre ++ [x]) ++ post).map instC)), .d (.sl 4 (r.assets.map assetC))]]⟩ : ARow)), (4, (⟨True, 44, 2, true, false, 4, [[.d (iv k.who), .d (iv k.inst)]]⟩ : ARow)), (7, (⟨True, 31, 6, true, false, 7, [[.d (iv (lossV r k.who 0 [onePos k 1] 0)), .d (iv (lossV r k.who 0 [onePos k 1] 1)), .d (iv (lossV r k.who 0 [onePos k 1] 2)), .d (iv (lossV r k.who 0 [onePos k 1] 3)), .d (iv (lossV r k.who 0 [onePos k 1] 4)), .d (iv (lossV r k.who 0 [onePos k 1] 5))]]⟩ : ARow))]) ?_ ?_ ?_ ?_, pre ++ [x], post, by simp [hsp], rfl, rfl⟩
          · simp only [leV, look_cons, Nat.reduceBEq, cond_true, cond_false, addL_no hs, wrap_len pre x (by have e := congrArg List.length hsp; simp only [List.length_append, List.length_cons] at e; have := h.insts; omega)]; exact ⟨VLe.refl _, VLe.refl _, VLe.refl _, VLe.refl _, VLe.refl _, VLe.refl _, VLe.refl _, VLe.refl _, trivial⟩
          · exact ⟨fun _ => ⟨_, rfl, RowLe.same (by simp) (by simp [AV.idsL, AV.ids])⟩, fun h => by simp at h, fun _ => ⟨_, rfl, RowLe.still (by simp [AV.idsL, AV.ids])⟩, fun h => by simp at h, fun _ => ⟨_, rfl, RowLe.still (by simp [AV.idsL, AV.ids])⟩, fun h => by simp at h, trivial⟩
          · simp [wfV, AV.ids, AV.idsL, lookR]
          · simp [wfR, AV.idsL, AV.ids]
      · intro hb
        obtain rfl := none_of hb; clear hb
        simp only [List.append_nil] at hsp ⊢
        subst hsp
        refine awp_exit ?_
        simp only [zz6, Nat.reduceEqDiff, ↓reduceIte]
        refine hK0 _ ?_; try clear hK0 K0
        refine awp_keepL [2, 7, 9, 11, 13] ?_
        simp only [zz20, zzI, look_nil, Nat.reduceBEq]
        refine awp_seq fun K0 hK0 => ?_
        refine awp_plain F_mixed [some 15] rfl ?_
        simp only [List.nil_append, List.cons_append, true_and, and_true, zz0, true_implies, Nat.reduceLT, Nat.reduceLeDiff, zzI, look_nil, Nat.reduceBEq, implies_true, evS_assign, zz6, Nat.reduceEqDiff, ↓reduceIte]
        refine hK0 _ ?_; try clear hK0 K0
        refine awp_keepL [2, 7, 9, 11, 13, 15] ?_
        simp only [zz20, zzI, look_nil, Nat.reduceBEq]
        refine awp_seq fun K0 hK0 => ?_
        refine awp_seq fun K1 hK1 => ?_
        refine awp_plain F_mixed [some 16] rfl ?_
        simp only [List.nil_append, List.cons_append, true_and, and_true, zz0, true_implies, Nat.reduceLT, Nat.reduceLeDiff, zzI, look_nil, Nat.reduceBEq, implies_true, evS_assign, zz6, Nat.reduceEqDiff, ↓reduceIte]
        refine hK1 _ ?_; try clear hK1 K1
        refine awp_keepL [2, 7, 9, 11, 13, 15, 16] ?_
        simp only [zz20, zzI, look_nil, Nat.reduceBEq]
        refine awp_block ?_
        refine awp_loop (fun m s => (m = 6 ∧ s = S 137 [(2, .d (iv q)), (7, .ptr 7 0 0), (9, .d (iv (margV r k.who 0 [onePos k q]))), (11, .d (iv (margV r k.who 0 []))), (13, .d (iv (addL k.inst r.insts))), (15, .d (iv 0)), (16, .d (iv 0))] [(7, (⟨True, 31, 6, true, false, 7, [[.d (iv (lossV r k.who 0 [onePos k 1] 0)), .d (iv (lossV r k.who 0 [onePos k 1] 1)), .d (iv (lossV r k.who 0 [onePos k 1] 2)), .d (iv (lossV r k.who 0 [onePos k 1] 3)), .d (iv (lossV r k.who 0 [onePos k 1] 4)), .d (iv (lossV r k.who 0 [onePos k 1] 5))]]⟩ : ARow))]) ∨ (m = 5 ∧ s = S 137 [(2, .d (iv q)), (7, .ptr 7 0 0), (9, .d (iv (margV r k.who 0 [onePos k q]))), (11, .d (iv (margV r k.who 0 []))), (13, .d (iv (addL k.inst r.insts))), (15, .d (iv (mx2 0 (lossT (pcs r k.who 0 [onePos k q]) 0)))), (16, .d (iv 1))] [(7, (⟨True, 31, 6, true, false, 7, [[.d (iv (lossV r k.who 0 [onePos k 1] 0)), .d (iv (lossV r k.who 0 [onePos k 1] 1)), .d (iv (lossV r k.who 0 [onePos k 1] 2)), .d (iv (lossV r k.who 0 [onePos k 1] 3)), .d (iv (lossV r k.who 0 [onePos k 1] 4)), .d (iv (lossV r k.who 0 [onePos k 1] 5))]]⟩ : ARow))]) ∨ (m = 4 ∧ s = S 137 [(2, .d (iv q)), (7, .ptr 7 0 0), (9, .d (iv (margV r k.who 0 [onePos k q]))), (11, .d (iv (margV r k.who 0 []))), (13, .d (iv (addL k.inst r.insts))), (15, .d (iv (mx2 (mx2 0 (lossT (pcs r k.who 0 [onePos k q]) 0)) (lossT (pcs r k.who 0 [onePos k q]) 1)))), (16, .d (iv 2))] [(7, (⟨True, 31, 6, true, false, 7, [[.d (iv (lossV r k.who 0 [onePos k 1] 0)), .d (iv (lossV r k.who 0 [onePos k 1] 1)), .d (iv (lossV r k.who 0 [onePos k 1] 2)), .d (iv (lossV r k.who 0 [onePos k 1] 3)), .d (iv (lossV r k.who 0 [onePos k 1] 4)), .d (iv (lossV r k.who 0 [onePos k 1] 5))]]⟩ : ARow))]) ∨ (m = 3 ∧ s = S 137 [(2, .d (iv q)), (7, .ptr 7 0 0), (9, .d (iv (margV r k.who 0 [onePos k q]))), (11, .d (iv (margV r k.who 0 []))), (13, .d (iv (addL k.inst r.insts))), (15, .d (iv (mx2 (mx2 (mx2 0 (lossT (pcs r k.who 0 [onePos k q]) 0)) (lossT (pcs r k.who 0 [onePos k q]) 1)) (lossT (pcs r k.who 0 [onePos k q]) 2)))), (16, .d (iv 3))] [(7, (⟨True, 31, 6, true, false, 7, [[.d (iv (lossV r k.who 0 [onePos k 1] 0)), .d (iv (lossV r k.who 0 [onePos k 1] 1)), .d (iv (lossV r k.who 0 [onePos k 1] 2)), .d (iv (lossV r k.who 0 [onePos k 1] 3)), .d (iv (lossV r k.who 0 [onePos k 1] 4)), .d (iv (lossV r k.who 0 [onePos k 1] 5))]]⟩ : ARow))]) ∨ (m = 2 ∧ s = S 137 [(2, .d (iv q)), (7, .ptr 7 0 0), (9, .d (iv (margV r k.who 0 [onePos k q]))), (11, .d (iv (margV r k.who 0 []))), (13, .d (iv (addL k.inst r.insts))), (15, .d (iv (mx2 (mx2 (mx2 (mx2 0 (lossT (pcs r k.who 0 [onePos k q]) 0)) (lossT (pcs r k.who 0 [onePos k q]) 1)) (lossT (pcs r k.who 0 [onePos k q]) 2)) (lossT (pcs r k.who 0 [onePos k q]) 3)))), (16, .d (iv 4))] [(7, (⟨True, 31, 6, true, false, 7, [[.d (iv (lossV r k.who 0 [onePos k 1] 0)), .d (iv (lossV r k.who 0 [onePos k 1] 1)), .d (iv (lossV r k.who 0 [onePos k 1] 2)), .d (iv (lossV r k.who 0 [onePos k 1] 3)), .d (iv (lossV r k.who 0 [onePos k 1] 4)), .d (iv (lossV r k.who 0 [onePos k 1] 5))]]⟩ : ARow))]) ∨ (m = 1 ∧ s = S 137 [(2, .d (iv q)), (7, .ptr 7 0 0), (9, .d (iv (margV r k.who 0 [onePos k q]))), (11, .d (iv (margV r k.who 0 []))), (13, .d (iv (addL k.inst r.insts))), (15, .d (iv (mx2 (mx2 (mx2 (mx2 (mx2 0 (lossT (pcs r k.who 0 [onePos k q]) 0)) (lossT (pcs r k.who 0 [onePos k q]) 1)) (lossT (pcs r k.who 0 [onePos k q]) 2)) (lossT (pcs r k.who 0 [onePos k q]) 3)) (lossT (pcs r k.who 0 [onePos k q]) 4)))), (16, .d (iv 5))] [(7, (⟨True, 31, 6, true, false, 7, [[.d (iv (lossV r k.who 0 [onePos k 1] 0)), .d (iv (lossV r k.who 0 [onePos k 1] 1)), .d (iv (lossV r k.who 0 [onePos k 1] 2)), .d (iv (lossV r k.who 0 [onePos k 1] 3)), .d (iv (lossV r k.who 0 [onePos k 1] 4)), .d (iv (lossV r k.who 0 [onePos k 1] 5))]]⟩ : ARow))]) ∨ (m = 0 ∧ s = S 137 [(2, .d (iv q)), (7, .ptr 7 0 0), (9, .d (iv (margV r k.who 0 [onePos k q]))), (11, .d (iv (margV r k.who 0 []))), (13, .d (iv (addL k.inst r.insts))), (15, .d (iv (mx2 (mx2 (mx2 (mx2 (mx2 (mx2 0 (lossT (pcs r k.who 0 [onePos k q]) 0)) (lossT (pcs r k.who 0 [onePos k q]) 1)) (lossT (pcs r k.who 0 [onePos k q]) 2)) (lossT (pcs r k.who 0 [onePos k q]) 3)) (lossT (pcs r k.who 0 [onePos k q]) 4)) (lossT (pcs r k.who 0 [onePos k q]) 5)))), (16, .d (iv 6))] [(7, (⟨True, 31, 6, true, false, 7, [[.d (iv (lossV r k.who 0 [onePos k 1] 0)), .d (iv (lossV r k.who 0 [onePos k 1] 1)), .d (iv (lossV r k.who 0 [onePos k 1] 2)), .d (iv (lossV r k.who 0 [onePos k 1] 3)), .d (iv (lossV r k.who 0 [onePos k 1] 4)), .d (iv (lossV r k.who 0 [onePos k 1] 5))]]⟩ : ARow))])) 6 _ (le_SK id [] rfl (l' := [(2, .d (iv q)), (7, .ptr 7 0 0), (9, .d (iv (margV r k.who 0 [onePos k q]))), (11, .d (iv (margV r k.who 0 []))), (13, .d (iv (addL k.inst r.insts))), (15, .d (iv 0)), (16, .d (iv 0))]) (m' := [(7, (⟨True, 31, 6, true, false, 7, [[.d (iv (lossV r k.who 0 [onePos k 1] 0)), .d (iv (lossV r k.who 0 [onePos k 1] 1)), .d (iv (lossV r k.who 0 [onePos k 1] 2)), .d (iv (lossV r k.who 0 [onePos k 1] 3)), .d (iv (lossV r k.who 0 [onePos k 1] 4)), .d (iv (lossV r k.who 0 [onePos k 1] 5))]]⟩ : ARow))]) ?_ ?_ ?_ ?_) (.inl (⟨rfl, rfl⟩)) ?_
        · simp only [leV, look_cons, Nat.reduceBEq, cond_true, cond_false]; exact ⟨VLe.refl _, VLe.refl _, VLe.refl _, VLe.refl _, VLe.refl _, VLe.refl _, VLe.refl _, trivial⟩
        · exact ⟨fun _ => ⟨_, rfl, ⟨id, rfl, rfl, rfl, id, .inl, VLess.refl _⟩⟩, fun h => by simp at h, trivial⟩
        · simp [wfV, AV.ids, AV.idsL, lookR]
        · simp [wfR, AV.idsL, AV.ids]
        rintro m s (⟨rfl, rfl⟩ | ⟨rfl, rfl⟩ | ⟨rfl, rfl⟩ | ⟨rfl, rfl⟩ | ⟨rfl, rfl⟩ | ⟨rfl, rfl⟩ | ⟨rfl, rfl⟩)
        · skip
          refine awp_seq fun K2 hK2 => ?_
          refine awp_seq fun K3 hK3 => ?_
          refine awp_plain F_mixed [some 109, some 110] rfl ?_
          simp only [List.nil_append, List.cons_append, true_and, and_true, zz0, true_implies, Nat.reduceLT, Nat.reduceLeDiff, zzI, look_nil, Nat.reduceBEq, implies_true, evS_move, zz21, gr_v, zz22, zz6, Nat.reduceEqDiff, ↓reduceIte]
          refine hK3 _ ?_; try clear hK3 K3
          refine awp_keepL [2, 7, 9, 11, 13, 15, 16, 110] ?_
          simp only [zz20, zzI, look_nil, Nat.reduceBEq]
          refine awp_condS _ (by decide) (by simp only [look_cons, Nat.reduceBEq, cond_true, cond_false]; rfl) ?_ ?_
          · intro hb
            clear hb
            have ho := o.one 0 (by omega)
            refine awp_skip ?_
            simp only [zz6, Nat.reduceEqDiff, ↓reduceIte]
            refine hK2 _ ?_; try clear hK2 K2
            refine awp_keepL [2, 7, 9, 11, 13, 15, 16] ?_
            simp only [zz20, zzI, look_nil, Nat.reduceBEq]
            refine awp_seq fun K2 hK2 => ?_
            refine awp_block ?_
            refine awp_plain F_mixed [some 113, some 114, some 115, some 116, some 117, some 118, some 119, some 15] rfl ?_
            simp only [List.nil_append, List.cons_append, true_and, and_true, zz0, true_implies, Nat.reduceLT, Nat.reduceLeDiff, zzI, look_nil, Nat.reduceBEq, implies_true, evS_move, evS_indexAddr, zz23, zz15, F_arr31, F_sz3, zz16, Option.some.injEq, exists_eq_left', exists_eq_left, Option.map_some, eq_self, reduceCtorEq, and_self, F_ok3, F_ag3, zz8, zzD, Nat.reduceAdd, Nat.zero_add, zzF, zzB, zzE, zz21, gr_v, zz36, evS_call, zz11, grsL, Option.bind_some, oksL, evS_assign, ho, Int.reduceToNat, Int.reduceLT, Int.reduceLE, cast6, Nat.reduceMul, zz6, Nat.reduceEqDiff, ↓reduceIte]
            refine hK2 _ ?_; try clear hK2 K2
            refine awp_keepL [2, 7, 9, 11, 13, 15, 16] ?_
            simp only [zz20, zzI, look_nil, Nat.reduceBEq]
            refine awp_plain F_mixed [some 111, some 112, some 16] rfl ?_
            simp only [List.nil_append, List.cons_append, true_and, and_true, zz0, true_implies, Nat.reduceLT, Nat.reduceLeDiff, zzI, look_nil, Nat.reduceBEq, implies_true, evS_move, zz21, gr_v, zz26, evS_assign, zz6, Nat.reduceEqDiff, ↓reduceIte]
            refine ⟨5, _, by decide, le_SK id [] rfl (l' := [(2, .d (iv q)), (7, .ptr 7 0 0), (9, .d (iv (margV r k.who 0 [onePos k q]))), (11, .d (iv (margV r k.who 0 []))), (13, .d (iv (addL k.inst r.insts))), (15, .d (iv (mx2 0 (lossT (pcs r k.who 0 [onePos k q]) 0)))), (16, .d (iv 1))]) (m' := [(7, (⟨True, 31, 6, true, false, 7, [[.d (iv (lossV r k.who 0 [onePos k 1] 0)), .d (iv (lossV r k.who 0 [onePos k 1] 1)), .d (iv (lossV r k.who 0 [onePos k 1] 2)), .d (iv (lossV r k.who 0 [onePos k 1] 3)), .d (iv (lossV r k.who 0 [onePos k 1] 4)), .d (iv (lossV r k.who 0 [onePos k 1] 5))]]⟩ : ARow))]) ?_ ?_ ?_ ?_, .inr (.inl (⟨rfl, rfl⟩))⟩
            · simp only [leV, look_cons, Nat.reduceBEq, cond_true, cond_false]; exact ⟨VLe.refl _, VLe.refl _, VLe.refl _, VLe.refl _, VLe.refl _, VLe.refl _, VLe.refl _, trivial⟩
            · exact ⟨fun _ => ⟨_, rfl, ⟨id, rfl, rfl, rfl, id, .inl, VLess.refl _⟩⟩, fun h => by simp at h, trivial⟩
            · simp [wfV, AV.ids, AV.idsL, lookR]
            · simp [wfR, AV.idsL, AV.ids]
          · intro hb
            simp at hb
        · skip
          refine awp_seq fun K2 hK2 => ?_
          refine awp_seq fun K3 hK3 => ?_
          refine awp_plain F_mixed [some 109, some 110] rfl ?_
          simp only [List.nil_append, List.cons_append, true_and, and_true, zz0, true_implies, Nat.reduceLT, Nat.reduceLeDiff, zzI, look_nil, Nat.reduceBEq, implies_true, evS_move, zz21, gr_v, zz22, zz6, Nat.reduceEqDiff, ↓reduceIte]
          refine hK3 _ ?_; try clear hK3 K3
          refine awp_keepL [2, 7, 9, 11, 13, 15, 16, 110] ?_
          simp only [zz20, zzI, look_nil, Nat.reduceBEq]
          refine awp_condS _ (by decide) (by simp only [look_cons, Nat.reduceBEq, cond_true, cond_false]; rfl) ?_ ?_
          · intro hb
            clear hb
            have ho := o.one 1 (by omega)
            refine awp_skip ?_
            simp only [zz6, Nat.reduceEqDiff, ↓reduceIte]
            refine hK2 _ ?_; try clear hK2 K2
            refine awp_keepL [2, 7, 9, 11, 13, 15, 16] ?_
            simp only [zz20, zzI, look_nil, Nat.reduceBEq]
            refine awp_seq fun K2 hK2 => ?_
            refine awp_block ?_
            refine awp_plain F_mixed [some 113, some 114, some 115, some 116, some 117, some 118, some 119, some 15] rfl ?_
            simp only [List.nil_append, List.cons_append, true_and, and_true, zz0, true_implies, Nat.reduceLT, Nat.reduceLeDiff, zzI, look_nil, Nat.reduceBEq, implies_true, evS_move, evS_indexAddr, zz23, zz15, F_arr31, F_sz3, zz16, Option.some.injEq, exists_eq_left', exists_eq_left, Option.map_some, eq_self, reduceCtorEq, and_self, F_ok3, F_ag3, zz8, zzD, Nat.reduceAdd, Nat.zero_add, zzF, zzB, zzE, zz21, gr_v, zz36, evS_call, zz11, grsL, Option.bind_some, oksL, evS_assign, ho, Int.reduceToNat, Int.reduceLT, Int.reduceLE, cast6, Nat.reduceMul, zz6, Nat.reduceEqDiff, ↓reduceIte]
            refine hK2 _ ?_; try clear hK2 K2
            refine awp_keepL [2, 7, 9, 11, 13, 15, 16] ?_
            simp only [zz20, zzI, look_nil, Nat.reduceBEq]
            refine awp_plain F_mixed [some 111, some 112, some 16] rfl ?_
            simp only [List.nil_append, List.cons_append, true_and, and_true, zz0, true_implies, Nat.reduceLT, Nat.reduceLeDiff, zzI, look_nil, Nat.reduceBEq, implies_true, evS_move, zz21, gr_v, zz26, evS_assign, zz6, Nat.reduceEqDiff, ↓reduceIte]
            refine ⟨4, _, by decide, le_SK id [] rfl (l' := [(2, .d (iv q)), (7, .ptr 7 0 0), (9, .d (iv (margV r k.who 0 [onePos k q]))), (11, .d (iv (margV r k.who 0 []))), (13, .d (iv (addL k.inst r.insts))), (15, .d (iv (mx2 (mx2 0 (lossT (pcs r k.who 0 [onePos k q]) 0)) (lossT (pcs r k.who 0 [onePos k q]) 1)))), (16, .d (iv 2))]) (m' := [(7, (⟨True, 31, 6, true, false, 7, [[.d (iv (lossV r k.who 0 [onePos k 1] 0)), .d (iv (lossV r k.who 0 [onePos k 1] 1)), .d (iv (lossV r k.who 0 [onePos k 1] 2)), .d (iv (lossV r k.who 0 [onePos k 1] 3)), .d (iv (lossV r k.who 0 [onePos k 1] 4)), .d (iv (lossV r k.who 0 [onePos k 1] 5))]]⟩ : ARow))]) ?_ ?_ ?_ ?_, .inr (.inr (.inl (⟨rfl, rfl⟩)))⟩
            · simp only [leV, look_cons, Nat.reduceBEq, cond_true, cond_false]; exact ⟨VLe.refl _, VLe.refl _, VLe.refl _, VLe.refl _, VLe.refl _, VLe.refl _, VLe.refl _, trivial⟩
            · exact ⟨fun _ => ⟨_, rfl, ⟨id, rfl, rfl, rfl, id, .inl, VLess.refl _⟩⟩, fun h => by simp at h, trivial⟩
            · simp [wfV, AV.ids, AV.idsL, lookR]
            · simp [wfR, AV.idsL, AV.ids]
          · intro hb
            simp at hb
        · skip
          refine awp_seq fun K2 hK2 => ?_
          refine awp_seq fun K3 hK3 => ?_
          refine awp_plain F_mixed [some 109, some 110] rfl ?_
          simp only [List.nil_append, List.cons_append, true_and, and_true, zz0, true_implies, Nat.reduceLT, Nat.reduceLeDiff, zzI, look_nil, Nat.reduceBEq, implies_true, evS_move, zz21, gr_v, zz22, zz6, Nat.reduceEqDiff, ↓reduceIte]
          refine hK3 _ ?_; try clear hK3 K3
          refine awp_keepL [2, 7, 9, 11, 13, 15, 16, 110] ?_
          simp only [zz20, zzI, look_nil, Nat.reduceBEq]
          refine awp_condS _ (by decide) (by simp only [look_cons, Nat.reduceBEq, cond_true, cond_false]; rfl) ?_ ?_
          · intro hb
            clear hb
            have ho := o.one 2 (by omega)
            refine awp_skip ?_
            simp only [zz6, Nat.reduceEqDiff, ↓reduceIte]
            refine hK2 _ ?_; try clear hK2 K2
            refine awp_keepL [2, 7, 9, 11, 13, 15, 16] ?_
            simp only [zz20, zzI, look_nil, Nat.reduceBEq]
            refine awp_seq fun K2 hK2 => ?_
            refine awp_block ?_
            refine awp_plain F_mixed [some 113, some 114, some 115, some 116, some 117, some 118, some 119, some 15] rfl ?_
            simp only [List.nil_append, List.cons_append, true_and, and_true, zz0, true_implies, Nat.reduceLT, Nat.reduceLeDiff, zzI, look_nil, Nat.reduceBEq, implies_true, evS_move, evS_indexAddr, zz23, zz15, F_arr31, F_sz3, zz16, Option.some.injEq, exists_eq_left', exists_eq_left, Option.map_some, eq_self, reduceCtorEq, and_self, F_ok3, F_ag3, zz8, zzD, Nat.reduceAdd, Nat.zero_add, zzF, zzB, zzE, zz21, gr_v, zz36, evS_call, zz11, grsL, Option.bind_some, oksL, evS_assign, ho, Int.reduceToNat, Int.reduceLT, Int.reduceLE, cast6, Nat.reduceMul, zz6, Nat.reduceEqDiff, ↓reduceIte]
            refine hK2 _ ?_; try clear hK2 K2
            refine awp_keepL [2, 7, 9, 11, 13, 15, 16] ?_
            simp only [zz20, zzI, look_nil, Nat.reduceBEq]
            refine awp_plain F_mixed [some 111, some 112, some 16] rfl ?_
            simp only [List.nil_append, List.cons_append, true_and, and_true, zz0, true_implies, Nat.reduceLT, Nat.reduceLeDiff, zzI, look_nil, Nat.reduceBEq, implies_true, evS_move, zz21, gr_v, zz26, evS_assign, zz6, Nat.reduceEqDiff, ↓reduceIte]
            refine ⟨3, _, by decide, le_SK id [] rfl (l' := [(2, .d (iv q)), (7, .ptr 7 0 0), (9, .d (iv (margV r k.who 0 [onePos k q]))), (11, .d (iv (margV r k.who 0 []))), (13, .d (iv (addL k.inst r.insts))), (15, .d (iv (mx2 (mx2 (mx2 0 (lossT (pcs r k.who 0 [onePos k q]) 0)) (lossT (pcs r k.who 0 [onePos k q]) 1)) (lossT (pcs r k.who 0 [onePos k q]) 2)))), (16, .d (iv 3))]) (m' := [(7, (⟨True, 31, 6, true, false, 7, [[.d (iv (lossV r k.who 0 [onePos k 1] 0)), .d (iv (lossV r k.who 0 [onePos k 1] 1)), .d (iv (lossV r k.who 0 [onePos k 1] 2)), .d (iv (lossV r k.who 0 [onePos k 1] 3)), .d (iv (lossV r k.who 0 [onePos k 1] 4)), .d (iv (lossV r k.who 0 [onePos k 1] 5))]]⟩ : ARow))]) ?_ ?_ ?_ ?_, .inr (.inr (.inr (.inl (⟨rfl, rfl⟩))))⟩
            · simp only [leV, look_cons, Nat.reduceBEq, cond_true, cond_false]; exact ⟨VLe.refl _, VLe.refl _, VLe.refl _, VLe.refl _, VLe.refl _, VLe.refl _, VLe.refl _, trivial⟩
            · exact ⟨fun _ => ⟨_, rfl, ⟨id, rfl, rfl, rfl, id, .inl, VLess.refl _⟩⟩, fun h => by simp at h, trivial⟩
            · simp [wfV, AV.ids, AV.idsL, lookR]
            · simp [wfR, AV.idsL, AV.ids]
          · intro hb
            simp at hb
        · skip
          refine awp_seq fun K2 hK2 => ?_
          refine awp_seq fun K3 hK3 => ?_
          refine awp_plain F_mixed [some 109, some 110] rfl ?_
          simp only [List.nil_append, List.cons_append, true_and, and_true, zz0, true_implies, Nat.reduceLT, Nat.reduceLeDiff, zzI, look_nil, Nat.reduceBEq, implies_true, evS_move, zz21, gr_v, zz22, zz6, Nat.reduceEqDiff, ↓reduceIte]
          refine hK3 _ ?_; try clear hK3 K3
          refine awp_keepL [2, 7, 9, 11, 13, 15, 16, 110] ?_
          simp only [zz20, zzI, look_nil, Nat.reduceBEq]
          refine awp_condS _ (by decide) (by simp only [look_cons, Nat.reduceBEq, cond_true, cond_false]; rfl) ?_ ?_
          · intro hb
            clear hb
            have ho := o.one 3 (by omega)
            refine awp_skip ?_
            simp only [zz6, Nat.reduceEqDiff, ↓reduceIte]
            refine hK2 _ ?_; try clear hK2 K2
            refine awp_keepL [2, 7, 9, 11, 13, 15, 16] ?_
            simp only [zz20, zzI, look_nil, Nat.reduceBEq]
            refine awp_seq fun K2 hK2 => ?_
            refine awp_block ?_
            refine awp_plain F_mixed [some 113, some 114, some 115, some 116, some 117, some 118, some 119, some 15] rfl ?_
            simp only [List.nil_append, List.cons_append, true_and, and_true, zz0, true_implies, Nat.reduceLT, Nat.reduceLeDiff, zzI, look_nil, Nat.reduceBEq, implies_true, evS_move, evS_indexAddr, zz23, zz15, F_arr31, F_sz3, zz16, Option.some.injEq, exists_eq_left', exists_eq_left, Option.map_some, eq_self, reduceCtorEq, and_self, F_ok3, F_ag3, zz8, zzD, Nat.reduceAdd, Nat.zero_add, zzF, zzB, zzE, zz21, gr_v, zz36, evS_call, zz11, grsL, Option.bind_some, oksL, evS_assign, ho, Int.reduceToNat, Int.reduceLT, Int.reduceLE, cast6, Nat.reduceMul, zz6, Nat.reduceEqDiff, ↓reduceIte]
            refine hK2 _ ?_; try clear hK2 K2
            refine awp_keepL [2, 7, 9, 11, 13, 15, 16] ?_
            simp only [zz20, zzI, look_nil, Nat.reduceBEq]
            refine awp_plain F_mixed [some 111, some 112, some 16] rfl ?_
            simp only [List.nil_append, List.cons_append, true_and, and_true, zz0, true_implies, Nat.reduceLT, Nat.reduceLeDiff, zzI, look_nil, Nat.reduceBEq, implies_true, evS_move, zz21, gr_v, zz26, evS_assign, zz6, Nat.reduceEqDiff, ↓reduceIte]
            refine ⟨2, _, by decide, le_SK id [] rfl (l' := [(2, .d (iv q)), (7, .ptr 7 0 0), (9, .d (iv (margV r k.who 0 [onePos k q]))), (11, .d (iv (margV r k.who 0 []))), (13, .d (iv (addL k.inst r.insts))), (15, .d (iv (mx2 (mx2 (mx2 (mx2 0 (lossT (pcs r k.who 0 [onePos k q]) 0)) (lossT (pcs r k.who 0 [onePos k q]) 1)) (lossT (pcs r k.who 0 [onePos k q]) 2)) (lossT (pcs r k.who 0 [onePos k q]) 3)))), (16, .d (iv 4))]) (m' := [(7, (⟨True, 31, 6, true, false, 7, [[.d (iv (lossV r k.who 0 [onePos k 1] 0)), .d (iv (lossV r k.who 0 [onePos k 1] 1)), .d (iv (lossV r k.who 0 [onePos k 1] 2)), .d (iv (lossV r k.who 0 [onePos k 1] 3)), .d (iv (lossV r k.who 0 [onePos k 1] 4)), .d (iv (lossV r k.who 0 [onePos k 1] 5))]]⟩ : ARow))]) ?_ ?_ ?_ ?_, .inr (.inr (.inr (.inr (.inl (⟨rfl, rfl⟩)))))⟩
            · simp only [leV, look_cons, Nat.reduceBEq, cond_true, cond_false]; exact ⟨VLe.refl _, VLe.refl _, VLe.refl _, VLe.refl _, VLe.refl _, VLe.refl _, VLe.refl _, trivial⟩
            · exact ⟨fun _ => ⟨_, rfl, ⟨id, rfl, rfl, rfl, id, .inl, VLess.refl _⟩⟩, fun h => by simp at h, trivial⟩
            · simp [wfV, AV.ids, AV.idsL, lookR]
            · simp [wfR, AV.idsL, AV.ids]
          · intro hb
            simp at hb
        · skip
          refine awp_seq fun K2 hK2 => ?_
          refine awp_seq fun K3 hK3 => ?_
          refine awp_plain F_mixed [some 109, some 110] rfl ?_
          simp only [List.nil_append, List.cons_append, true_and, and_true, zz0, true_implies, Nat.reduceLT, Nat.reduceLeDiff, zzI, look_nil, Nat.reduceBEq, implies_true, evS_move, zz21, gr_v, zz22, zz6, Nat.reduceEqDiff, ↓reduceIte]
          refine hK3 _ ?_; try clear hK3 K3
          refine awp_keepL [2, 7, 9, 11, 13, 15, 16, 110] ?_
          simp only [zz20, zzI, look_nil, Nat.reduceBEq]
          refine awp_condS _ (by decide) (by simp only [look_cons, Nat.reduceBEq, cond_true, cond_false]; rfl) ?_ ?_
          · intro hb
            clear hb
            have ho := o.one 4 (by omega)
            refine awp_skip ?_
            simp only [zz6, Nat.reduceEqDiff, ↓reduceIte]
            refine hK2 _ ?_; try clear hK2 K2
            refine awp_keepL [2, 7, 9, 11, 13, 15, 16] ?_
            simp only [zz20, zzI, look_nil, Nat.reduceBEq]
            refine awp_seq fun K2 hK2 => ?_
            refine awp_block ?_
            refine awp_plain F_mixed [some 113, some 114, some 115, some 116, some 117, some 118, some 119, some 15] rfl ?_
            simp only [List.nil_append, List.cons_append, true_and, and_true, zz0, true_implies, Nat.reduceLT, Nat.reduceLeDiff, zzI, look_nil, Nat.reduceBEq, implies_true, evS_move, evS_indexAddr, zz23, zz15, F_arr31, F_sz3, zz16, Option.some.injEq, exists_eq_left', exists_eq_left, Option.map_some, eq_self, reduceCtorEq, and_self, F_ok3, F_ag3, zz8, zzD, Nat.reduceAdd, Nat.zero_add, zzF, zzB, zzE, zz21, gr_v, zz36, evS_call, zz11, grsL, Option.bind_some, oksL, evS_assign, ho, Int.reduceToNat, Int.reduceLT, Int.reduceLE, cast6, Nat.reduceMul, zz6, Nat.reduceEqDiff, ↓reduceIte]
            refine hK2 _ ?_; try clear hK2 K2
            refine awp_keepL [2, 7, 9, 11, 13, 15, 16] ?_
            simp only [zz20, zzI, look_nil, Nat.reduceBEq]
            refine awp_plain F_mixed [some 111, some 112, some 16] rfl ?_
            simp only [List.nil_append, List.cons_append, true_and, and_true, zz0, true_implies, Nat.reduceLT, Nat.reduceLeDiff, zzI, look_nil, Nat.reduceBEq, implies_true, evS_move, zz21, gr_v, zz26, evS_assign, zz6, Nat.reduceEqDiff, ↓reduceIte]
            refine ⟨1, _, by decide, le_SK id [] rfl (l' := [(2, .d (iv q)), (7, .ptr 7 0 0), (9, .d (iv (margV r k.who 0 [onePos k q]))), (11, .d (iv (margV r k.who 0 []))), (13, .d (iv (addL k.inst r.insts))), (15, .d (iv (mx2 (mx2 (mx2 (mx2 (mx2 0 (lossT (pcs r k.who 0 [onePos k q]) 0)) (lossT (pcs r k.who 0 [onePos k q]) 1)) (lossT (pcs r k.who 0 [onePos k q]) 2)) (lossT (pcs r k.who 0 [onePos k q]) 3)) (lossT (pcs r k.who 0 [onePos k q]) 4)))), (16, .d (iv 5))]) (m' := [(7, (⟨True, 31, 6, true, false, 7, [[.d (iv (lossV r k.who 0 [onePos k 1] 0)), .d (iv (lossV r k.who 0 [onePos k 1] 1)), .d (iv (lossV r k.who 0 [onePos k 1] 2)), .d (iv (lossV r k.who 0 [onePos k 1] 3)), .d (iv (lossV r k.who 0 [onePos k 1] 4)), .d (iv (lossV r k.who 0 [onePos k 1] 5))]]⟩ : ARow))]) ?_ ?_ ?_ ?_, .inr (.inr (.inr (.inr (.inr (.inl (⟨rfl, rfl⟩))))))⟩
            · simp only [leV, look_cons, Nat.reduceBEq, cond_true, cond_false]; exact ⟨VLe.refl _, VLe.refl _, VLe.refl _, VLe.refl _, VLe.refl _, VLe.refl _, VLe.refl _, trivial⟩
            · exact ⟨fun _ => ⟨_, rfl, ⟨id, rfl, rfl, rfl, id, .inl, VLess.refl _⟩⟩, fun h => by simp at h, trivial⟩
            · simp [wfV, AV.ids, AV.idsL, lookR]
            · simp [wfR, AV.idsL, AV.ids]
          · intro hb
            simp at hb
        · skip
          refine awp_seq fun K2 hK2 => ?_
          refine awp_seq fun K3 hK3 => ?_
          refine awp_plain F_mixed [some 109, some 110] rfl ?_
          simp only [List.nil_append, List.cons_append, true_and, and_true, zz0, true_implies, Nat.reduceLT, Nat.reduceLeDiff, zzI, look_nil, Nat.reduceBEq, implies_true, evS_move, zz21, gr_v, zz22, zz6, Nat.reduceEqDiff, ↓reduceIte]
          refine hK3 _ ?_; try clear hK3 K3
          refine awp_keepL [2, 7, 9, 11, 13, 15, 16, 110] ?_
          simp only [zz20, zzI, look_nil, Nat.reduceBEq]
          refine awp_condS _ (by decide) (by simp only [look_cons, Nat.reduceBEq, cond_true, cond_false]; rfl) ?_ ?_
          · intro hb
            clear hb
            have ho := o.one 5 (by omega)
            refine awp_skip ?_
            simp only [zz6, Nat.reduceEqDiff, ↓reduceIte]
            refine hK2 _ ?_; try clear hK2 K2
            refine awp_keepL [2, 7, 9, 11, 13, 15, 16] ?_
            simp only [zz20, zzI, look_nil, Nat.reduceBEq]
            refine awp_seq fun K2 hK2 => ?_
            refine awp_block ?_
            refine awp_plain F_mixed [some 113, some 114, some 115, some 116, some 117, some 118, some 119, some 15] rfl ?_
            simp only [List.nil_append, List.cons_append, true_and, and_true, zz0, true_implies, Nat.reduceLT, Nat.reduceLeDiff, zzI, look_nil, Nat.reduceBEq, implies_true, evS_move, evS_indexAddr, zz23, zz15, F_arr31, F_sz3, zz16, Option.some.injEq, exists_eq_left', exists_eq_left, Option.map_some, eq_self, reduceCtorEq, and_self, F_ok3, F_ag3, zz8, zzD, Nat.reduceAdd, Nat.zero_add, zzF, zzB, zzE, zz21, gr_v, zz36, evS_call, zz11, grsL, Option.bind_some, oksL, evS_assign, ho, Int.reduceToNat, Int.reduceLT, Int.reduceLE, cast6, Nat.reduceMul, zz6, Nat.reduceEqDiff, ↓reduceIte]
            refine hK2 _ ?_; try clear hK2 K2
            refine awp_keepL [2, 7, 9, 11, 13, 15, 16] ?_
            simp only [zz20, zzI, look_nil, Nat.reduceBEq]
            refine awp_plain F_mixed [some 111, some 112, some 16] rfl ?_
            simp only [List.nil_append, List.cons_append, true_and, and_true, zz0, true_implies, Nat.reduceLT, Nat.reduceLeDiff, zzI, look_nil, Nat.reduceBEq, implies_true, evS_move, zz21, gr_v, zz26, evS_assign, zz6, Nat.reduceEqDiff, ↓reduceIte]
            refine ⟨0, _, by decide, le_SK id [] rfl (l' := [(2, .d (iv q)), (7, .ptr 7 0 0), (9, .d (iv (margV r k.who 0 [onePos k q]))), (11, .d (iv (margV r k.who 0 []))), (13, .d (iv (addL k.inst r.insts))), (15, .d (iv (mx2 (mx2 (mx2 (mx2 (mx2 (mx2 0 (lossT (pcs r k.who 0 [onePos k q]) 0)) (lossT (pcs r k.who 0 [onePos k q]) 1)) (lossT (pcs r k.who 0 [onePos k q]) 2)) (lossT (pcs r k.who 0 [onePos k q]) 3)) (lossT (pcs r k.who 0 [onePos k q]) 4)) (lossT (pcs r k.who 0 [onePos k q]) 5)))), (16, .d (iv 6))]) (m' := [(7, (⟨True, 31, 6, true, false, 7, [[.d (iv (lossV r k.who 0 [onePos k 1] 0)), .d (iv (lossV r k.who 0 [onePos k 1] 1)), .d (iv (lossV r k.who 0 [onePos k 1] 2)), .d (iv (lossV r k.who 0 [onePos k 1] 3)), .d (iv (lossV r k.who 0 [onePos k 1] 4)), .d (iv (lossV r k.who 0 [onePos k 1] 5))]]⟩ : ARow))]) ?_ ?_ ?_ ?_, .inr (.inr (.inr (.inr (.inr (.inr (⟨rfl, rfl⟩))))))⟩
            · simp only [leV, look_cons, Nat.reduceBEq, cond_true, cond_false]; exact ⟨VLe.refl _, VLe.refl _, VLe.refl _, VLe.refl _, VLe.refl _, VLe.refl _, VLe.refl _, trivial⟩
            · exact ⟨fun _ => ⟨_, rfl, ⟨id, rfl, rfl, rfl, id, .inl, VLess.refl _⟩⟩, fun h => by simp at h, trivial⟩
            · simp [wfV, AV.ids, AV.idsL, lookR]
            · simp [wfR, AV.idsL, AV.ids]
          · intro hb
            simp at hb
        · skip
          refine awp_seq fun K2 hK2 => ?_
          refine awp_seq fun K3 hK3 => ?_
          refine awp_plain F_mixed [some 109, some 110] rfl ?_
          simp only [List.nil_append, List.cons_append, true_and, and_true, zz0, true_implies, Nat.reduceLT, Nat.reduceLeDiff, zzI, look_nil, Nat.reduceBEq, implies_true, evS_move, zz21, gr_v, zz22, zz6, Nat.reduceEqDiff, ↓reduceIte]
          refine hK3 _ ?_; try clear hK3 K3
          refine awp_keepL [2, 7, 9, 11, 13, 15, 16, 110] ?_
          simp only [zz20, zzI, look_nil, Nat.reduceBEq]
          refine awp_condS _ (by decide) (by simp only [look_cons, Nat.reduceBEq, cond_true, cond_false]; rfl) ?_ ?_
          · intro hb
            simp at hb
          · intro hb
            clear hb
            refine awp_exit ?_
            simp only [zz6, Nat.reduceEqDiff, ↓reduceIte]
            refine hK0 _ ?_; try clear hK0 K0
            refine awp_keepL [2, 9, 11, 13, 15] ?_
            simp only [zz20, zzI, look_nil, Nat.reduceBEq]
            refine awp_seq fun K0 hK0 => ?_
            refine awp_plain F_mixed [some 120, some 121, some 122, some 123, some 124, some 125, some 126, some 127, some 128, some 129, some 130, some 131, some 132, some 133, some 134, some 135, some 136, some 6] rfl ?_
            simp only [List.nil_append, List.cons_append, true_and, and_true, zz0, true_implies, Nat.reduceLT, Nat.reduceLeDiff, zzI, look_nil, Nat.reduceBEq, implies_true, Nat.reduceSub, S_getD, zz5, and_imp, imp_and, imp_self, and_self, evS_move, zz21, gr_v, zz34, zz29, zz37, evS_call, zz11, grsL, Option.bind_some, Option.map_some, oksL, zz36, zz26, zz13, evC_value, evS_assign, ov, hmx, oa, zz6, Nat.reduceEqDiff, ↓reduceIte]
            refine call_go F_go17 (fun hG => wakes15_) (by simp [AV.ids, AV.idsL]) (by simp) ?_
            simp only [List.nil_append, List.cons_append, true_and, and_true, zz0, true_implies, Nat.reduceLT, Nat.reduceLeDiff, zzI, look_nil, Nat.reduceBEq, implies_true, Nat.reduceSub, S_getD, zz5, and_imp, imp_and, imp_self, and_self, evS_move, zz21, gr_v, zz34, zz29, zz37, evS_call, zz11, grsL, Option.bind_some, Option.map_some, oksL, zz36, zz26, zz13, evC_value, evS_assign, ov, hmx, oa, zz6, Nat.reduceEqDiff, ↓reduceIte, atsL, oksG, freeN, AV.ren, AV.renL, addRows, ORow.row, Nat.reduceMul, Nat.reduceAdd, zz9, Option.bind_some, Option.map_some, forall_eq', D.sl.injEq, zz16, Option.some.injEq, exists_eq_left', exists_eq_left, exists_eq', exists_eq, zzD, zz2]
            refine hK0 _ ?_; try clear hK0 K0
            refine awp_keepL [6] ?_
            simp only [zz20, zzI, look_nil, Nat.reduceBEq]
            refine awp_ret ?_
            simp only [zz6, Nat.reduceEqDiff, ↓reduceIte]
            refine done0 (by simp only [resCs, resC]; trivial) ?_ (by simp [flatA, flatAs, flatD]) (by simp [AV.ids, AV.idsL])
            simp only [List.map_cons, List.map_nil, resA, S_getD, Nat.reduceLT, Nat.reduceLeDiff, look_cons, Nat.reduceBEq, cond_true, cond_false, resAll]
            unfold lossM; simp
end Go.Proofs.Ytcpiojfhbebfiaa
