import Derived.Test.YtcpiojfhbebfiaaWpV
namespace Go.Proofs.Ytcpiojfhbebfiaa
open Go.RowKit
set_option linter.unusedVariables false
set_option linter.unusedSimpArgs false
theorem F_go8 : goFn Try.prog 8 := ⟨_, Try.func8, rfl, rfl⟩
theorem F_go17 : goFn Try.prog 17 := ⟨_, Try.func17, rfl, rfl⟩
theorem F_go10 : goFn Try.prog 10 := ⟨_, Try.func10, rfl, rfl⟩
set_option maxRecDepth 100000 in
set_option maxHeartbeats 4000000 in
theorem gridJoins_ (r : RollV) (who cur : Int) (l k : List PosV) : ACalls Try.prog 5 [.agg (rollC r), iv who, iv cur, poss l, poss k] [] (bv true) := by
  refine acalls_S (rs := [.tmp 10]) Try.func5 rfl rfl 155 [(0, .d (.agg (rollC r))), (1, .d (iv who)), (2, .d (iv cur)), (3, .d (poss l)), (4, .d (poss k))] rfl (by simp) rfl ?_
  refine awp_seq fun K0 hK0 => ?_
  refine awp_plain F_mixed [some 5, some 10] rfl ?_
  simp only [List.nil_append, List.cons_append, true_and, and_true, zz0, true_implies, Nat.reduceLT, Nat.reduceLeDiff, zzI, look_nil, Nat.reduceBEq, implies_true, zz35, newRow1, zz1, zzG, zzD, zz16, Option.some.injEq, exists_eq_left', exists_eq_left, Option.map_some, eq_self, reduceCtorEq, and_self, Nat.reduceAdd, Nat.zero_add, zzF, zzB, zzE, evS_assign, rollC, memsD, instsD, assetsD, zz6, Nat.reduceEqDiff, ↓reduceIte]
  refine hK0 _ ?_; try clear hK0 K0
  refine awp_keepL [1, 2, 3, 4, 5] ?_
  simp only [zz20, zzI, look_nil, Nat.reduceBEq]
  refine awp_seq fun K0 hK0 => ?_
  refine awp_seq fun K1 hK1 => ?_
  refine awp_plain F_mixed [some 24, some 25, some 26, some 27, some 28, some 29, some 30, some 31, some 32, some 33, some 34, some 35] rfl ?_
  simp only [List.nil_append, List.cons_append, true_and, and_true, zz0, true_implies, Nat.reduceLT, Nat.reduceLeDiff, zzI, look_nil, Nat.reduceBEq, implies_true, Nat.reduceSub, S_getD, zz5, and_imp, imp_and, imp_self, and_self, F_ok26, F_ag26, F_sz26, zz8, zz23, zzD, Nat.reduceAdd, Nat.zero_add, zzF, zzB, zzE, zz16, Option.some.injEq, exists_eq_left', exists_eq_left, Option.map_some, eq_self, reduceCtorEq, evS_call, evC_value, evS_move, zz12, F_sl27, Option.isSome_some, zz21, gr_v, zz25, zz13, poss, len_map, memsD, instsD, assetsD, rollC, D.agg.injEq, memA, memC, instA, instC, zzG, zz6, Nat.reduceEqDiff, ↓reduceIte]
  refine call_go F_go8 (fun hG => heavy_ r) (by simp [AV.ids, AV.idsL]) (by simp) ?_
  simp only [List.nil_append, List.cons_append, true_and, and_true, zz0, true_implies, Nat.reduceLT, Nat.reduceLeDiff, zzI, look_nil, Nat.reduceBEq, implies_true, Nat.reduceSub, S_getD, zz5, and_imp, imp_and, imp_self, and_self, F_ok26, F_ag26, F_sz26, zz8, zz23, zzD, Nat.reduceAdd, Nat.zero_add, zzF, zzB, zzE, zz16, Option.some.injEq, exists_eq_left', exists_eq_left, Option.map_some, eq_self, reduceCtorEq, evS_call, evC_value, evS_move, zz12, F_sl27, Option.isSome_some, zz21, gr_v, zz25, zz13, poss, len_map, memsD, instsD, assetsD, rollC, D.agg.injEq, memA, memC, instA, instC, zzG, zz6, Nat.reduceEqDiff, ↓reduceIte, atsL, oksG, freeN, AV.ren, AV.renL, addRows, ORow.row, Nat.reduceMul, Nat.reduceAdd, zz9, Option.bind_some, Option.map_some, forall_eq', D.sl.injEq, S_mem, Option.some.injEq, exists_eq_left', exists_eq_left, exists_eq', exists_eq, List.length_cons, zz2]
  refine hK1 _ ?_; try clear hK1 K1
  refine awp_keepL [1, 2, 3, 4, 5, 35] ?_
  simp only [zz20, zzI, look_nil, Nat.reduceBEq]
  refine awp_condS _ (by decide) (by simp only [look_cons, Nat.reduceBEq, cond_true, cond_false]; rfl) ?_ ?_
  · intro hb
    clear hb
    refine awp_seq fun K2 hK2 => ?_
    refine awp_plain F_mixed [some 10] rfl ?_
    simp only [List.nil_append, List.cons_append, true_and, and_true, zz0, true_implies, Nat.reduceLT, Nat.reduceLeDiff, zzI, look_nil, Nat.reduceBEq, implies_true, evS_assign, zz6, Nat.reduceEqDiff, ↓reduceIte]
    refine hK2 _ ?_; try clear hK2 K2
    refine awp_keepL [10] ?_
    simp only [zz20, zzI, look_nil, Nat.reduceBEq]
    refine awp_ret ?_
    simp only [zz6, Nat.reduceEqDiff, ↓reduceIte]
    refine done0 (by simp only [resCs, resC]; trivial) ?_ (by simp [flatA, flatAs, flatD]) (by simp [AV.ids, AV.idsL])
    simp only [List.map_cons, List.map_nil, resA, S_getD, Nat.reduceLT, Nat.reduceLeDiff, look_cons, Nat.reduceBEq, cond_true, cond_false, resAll]
    
  · intro hb
    simp only [Bool.or_eq_false_iff] at hb
    have h := small_of hb.1.1
    have hl : l.length ≤ 300 := by have := hb.1.2; simp at this; omega
    have hk : k.length ≤ 300 := by have := hb.2; simp at this; omega
    clear hb
    refine awp_skip ?_
    simp only [zz6, Nat.reduceEqDiff, ↓reduceIte]
    refine hK0 _ ?_; try clear hK0 K0
    refine awp_keepL [1, 2, 3, 4, 5] ?_
    simp only [zz20, zzI, look_nil, Nat.reduceBEq]
    refine awp_seq fun K0 hK0 => ?_
    refine awp_plain F_mixed [some 37, some 38, some 39, some 40, some 41, some 36, some 42, some 43, some 11, none, some 12] rfl ?_
    simp only [List.nil_append, List.cons_append, true_and, and_true, zz0, true_implies, Nat.reduceLT, Nat.reduceLeDiff, zzI, look_nil, Nat.reduceBEq, implies_true, F_ok26, F_ag26, F_sz26, zz8, zz23, zzD, Nat.reduceAdd, Nat.zero_add, zzF, zzB, zzE, zz16, Option.some.injEq, exists_eq_left', exists_eq_left, Option.map_some, eq_self, reduceCtorEq, and_self, evS_move, evS_call, evC_value, zz14, zz32, newRow1, F_zero31, zz10, zz18, F_ok31, F_sz31, splice, List.append_nil, zz1, zzG, evS_assign, poss, lossA, memsD, instsD, assetsD, rollC, D.agg.injEq, memA, memC, instA, instC, List.map_cons, zz6, Nat.reduceEqDiff, ↓reduceIte]
    refine call_go F_go11 (fun hG => Losses_ r who cur l h (by omega)) (by simp [AV.ids, AV.idsL, lossA]) (by simp) ?_
    simp only [List.nil_append, List.cons_append, true_and, and_true, zz0, true_implies, Nat.reduceLT, Nat.reduceLeDiff, zzI, look_nil, Nat.reduceBEq, implies_true, F_ok26, F_ag26, F_sz26, zz8, zz23, zzD, Nat.reduceAdd, Nat.zero_add, zzF, zzB, zzE, zz16, Option.some.injEq, exists_eq_left', exists_eq_left, Option.map_some, eq_self, reduceCtorEq, and_self, evS_move, evS_call, evC_value, zz14, zz32, newRow1, F_zero31, zz10, zz18, F_ok31, F_sz31, splice, List.append_nil, zz1, zzG, evS_assign, poss, lossA, memsD, instsD, assetsD, rollC, D.agg.injEq, memA, memC, instA, instC, List.map_cons, zz6, Nat.reduceEqDiff, ↓reduceIte, atsL, oksG, freeN, AV.ren, AV.renL, addRows, ORow.row, Nat.reduceMul, Nat.reduceAdd, zz9, Option.bind_some, Option.map_some, forall_eq', D.sl.injEq, S_mem, Option.some.injEq, exists_eq_left', exists_eq_left, exists_eq', exists_eq, List.length_cons, zz2]
    refine hK0 _ ?_; try clear hK0 K0
    refine awp_keepL [1, 2, 3, 4, 5, 11, 12] ?_
    simp only [zz20, zzI, look_nil, Nat.reduceBEq]
    refine awp_seq fun K0 hK0 => ?_
    refine awp_plain F_mixed [some 45, some 46, some 47, some 48, some 49, some 44, some 50, some 51, some 13, none, some 14] rfl ?_
    simp only [List.nil_append, List.cons_append, true_and, and_true, zz0, true_implies, Nat.reduceLT, Nat.reduceLeDiff, zzI, look_nil, Nat.reduceBEq, implies_true, F_ok26, F_ag26, F_sz26, zz8, zz23, zzD, Nat.reduceAdd, Nat.zero_add, zzF, zzB, zzE, zz16, Option.some.injEq, exists_eq_left', exists_eq_left, Option.map_some, eq_self, reduceCtorEq, and_self, evS_move, evS_call, evC_value, zz14, zz32, newRow1, F_zero31, zz10, zz18, F_ok31, F_sz31, splice, List.append_nil, zz1, zzG, evS_assign, poss, lossA, memsD, instsD, assetsD, rollC, D.agg.injEq, memA, memC, instA, instC, List.map_cons, zz6, Nat.reduceEqDiff, ↓reduceIte]
    refine call_go F_go11 (fun hG => Losses_ r who cur k h (by omega)) (by simp [AV.ids, AV.idsL, lossA]) (by simp) ?_
    simp only [List.nil_append, List.cons_append, true_and, and_true, zz0, true_implies, Nat.reduceLT, Nat.reduceLeDiff, zzI, look_nil, Nat.reduceBEq, implies_true, F_ok26, F_ag26, F_sz26, zz8, zz23, zzD, Nat.reduceAdd, Nat.zero_add, zzF, zzB, zzE, zz16, Option.some.injEq, exists_eq_left', exists_eq_left, Option.map_some, eq_self, reduceCtorEq, and_self, evS_move, evS_call, evC_value, zz14, zz32, newRow1, F_zero31, zz10, zz18, F_ok31, F_sz31, splice, List.append_nil, zz1, zzG, evS_assign, poss, lossA, memsD, instsD, assetsD, rollC, D.agg.injEq, memA, memC, instA, instC, List.map_cons, zz6, Nat.reduceEqDiff, ↓reduceIte, atsL, oksG, freeN, AV.ren, AV.renL, addRows, ORow.row, Nat.reduceMul, Nat.reduceAdd, zz9, Option.bind_some, Option.map_some, forall_eq', D.sl.injEq, S_mem, Option.some.injEq, exists_eq_left', exists_eq_left, exists_eq', exists_eq, List.length_cons, zz2]
    refine hK0 _ ?_; try clear hK0 K0
    refine awp_keepL [1, 2, 3, 4, 5, 11, 12, 13, 14] ?_
    simp only [zz20, zzI, look_nil, Nat.reduceBEq]
    refine awp_seq fun K0 hK0 => ?_
    refine awp_plain F_mixed [some 53, some 54, some 55, some 56, some 57, some 52, some 58, some 59, some 15, some 16] rfl ?_
    simp only [List.nil_append, List.cons_append, true_and, and_true, zz0, true_implies, Nat.reduceLT, Nat.reduceLeDiff, zzI, look_nil, Nat.reduceBEq, implies_true, F_ok26, F_ag26, F_sz26, zz8, zz23, zzD, Nat.reduceAdd, Nat.zero_add, zzF, zzB, zzE, zz16, Option.some.injEq, exists_eq_left', exists_eq_left, Option.map_some, eq_self, reduceCtorEq, and_self, evS_move, evS_call, evC_value, zz14, evS_assign, poss, memsD, instsD, assetsD, rollC, D.agg.injEq, memA, memC, instA, instC, zzG, zz6, Nat.reduceEqDiff, ↓reduceIte]
    refine call_go F_go13 (fun hG => Margin_ r who cur l h (by omega)) (by simp [AV.ids, AV.idsL]) (by simp) ?_
    simp only [List.nil_append, List.cons_append, true_and, and_true, zz0, true_implies, Nat.reduceLT, Nat.reduceLeDiff, zzI, look_nil, Nat.reduceBEq, implies_true, F_ok26, F_ag26, F_sz26, zz8, zz23, zzD, Nat.reduceAdd, Nat.zero_add, zzF, zzB, zzE, zz16, Option.some.injEq, exists_eq_left', exists_eq_left, Option.map_some, eq_self, reduceCtorEq, and_self, evS_move, evS_call, evC_value, zz14, evS_assign, poss, memsD, instsD, assetsD, rollC, D.agg.injEq, memA, memC, instA, instC, zzG, zz6, Nat.reduceEqDiff, ↓reduceIte, atsL, oksG, freeN, AV.ren, AV.renL, addRows, ORow.row, Nat.reduceMul, Nat.reduceAdd, zz9, Option.bind_some, Option.map_some, forall_eq', D.sl.injEq, S_mem, Option.some.injEq, exists_eq_left', exists_eq_left, exists_eq', exists_eq, List.length_cons, zz2]
    refine hK0 _ ?_; try clear hK0 K0
    refine awp_keepL [1, 2, 3, 4, 5, 11, 12, 13, 14, 15, 16] ?_
    simp only [zz20, zzI, look_nil, Nat.reduceBEq]
    refine awp_seq fun K0 hK0 => ?_
    refine awp_plain F_mixed [some 61, some 62, some 63, some 64, some 65, some 60, some 66, some 67, some 17, some 18] rfl ?_
    simp only [List.nil_append, List.cons_append, true_and, and_true, zz0, true_implies, Nat.reduceLT, Nat.reduceLeDiff, zzI, look_nil, Nat.reduceBEq, implies_true, F_ok26, F_ag26, F_sz26, zz8, zz23, zzD, Nat.reduceAdd, Nat.zero_add, zzF, zzB, zzE, zz16, Option.some.injEq, exists_eq_left', exists_eq_left, Option.map_some, eq_self, reduceCtorEq, and_self, evS_move, evS_call, evC_value, zz14, evS_assign, poss, memsD, instsD, assetsD, rollC, D.agg.injEq, memA, memC, instA, instC, zzG, zz6, Nat.reduceEqDiff, ↓reduceIte]
    refine call_go F_go13 (fun hG => Margin_ r who cur k h (by omega)) (by simp [AV.ids, AV.idsL]) (by simp) ?_
    simp only [List.nil_append, List.cons_append, true_and, and_true, zz0, true_implies, Nat.reduceLT, Nat.reduceLeDiff, zzI, look_nil, Nat.reduceBEq, implies_true, F_ok26, F_ag26, F_sz26, zz8, zz23, zzD, Nat.reduceAdd, Nat.zero_add, zzF, zzB, zzE, zz16, Option.some.injEq, exists_eq_left', exists_eq_left, Option.map_some, eq_self, reduceCtorEq, and_self, evS_move, evS_call, evC_value, zz14, evS_assign, poss, memsD, instsD, assetsD, rollC, D.agg.injEq, memA, memC, instA, instC, zzG, zz6, Nat.reduceEqDiff, ↓reduceIte, atsL, oksG, freeN, AV.ren, AV.renL, addRows, ORow.row, Nat.reduceMul, Nat.reduceAdd, zz9, Option.bind_some, Option.map_some, forall_eq', D.sl.injEq, S_mem, Option.some.injEq, exists_eq_left', exists_eq_left, exists_eq', exists_eq, List.length_cons, zz2]
    refine hK0 _ ?_; try clear hK0 K0
    refine awp_keepL [1, 2, 3, 4, 5, 11, 12, 13, 14, 15, 16, 17, 18] ?_
    simp only [zz20, zzI, look_nil, Nat.reduceBEq]
    refine awp_seq fun K0 hK0 => ?_
    refine awp_seq fun K1 hK1 => ?_
    refine awp_plain F_mixed [some 68, some 69, some 70, some 71, some 72, some 73, some 74, some 75, some 76, some 77, some 78, some 79, some 80, some 81, some 82, some 83, some 84, some 85, some 86, some 87, some 88, some 89] rfl ?_
    simp only [List.nil_append, List.cons_append, true_and, and_true, zz0, true_implies, Nat.reduceLT, Nat.reduceLeDiff, zzI, look_nil, Nat.reduceBEq, implies_true, Nat.reduceSub, S_getD, zz5, and_imp, imp_and, imp_self, and_self, evS_move, zz21, gr_v, zz28, zz13, zz25, zz6, Nat.reduceEqDiff, ↓reduceIte]
    refine hK1 _ ?_; try clear hK1 K1
    refine awp_keepL [1, 2, 3, 4, 5, 11, 13, 15, 17, 89] ?_
    simp only [zz20, zzI, look_nil, Nat.reduceBEq]
    refine awp_condS _ (by decide) (by simp only [look_cons, Nat.reduceBEq, cond_true, cond_false]; rfl) ?_ ?_
    · intro hb
      clear hb
      refine awp_seq fun K2 hK2 => ?_
      refine awp_plain F_mixed [some 90, some 10] rfl ?_
      simp only [List.nil_append, List.cons_append, true_and, and_true, zz0, true_implies, Nat.reduceLT, Nat.reduceLeDiff, zzI, look_nil, Nat.reduceBEq, implies_true, evS_call, evC_value, evS_assign, zz6, Nat.reduceEqDiff, ↓reduceIte]
      refine call_go F_go17 (fun hG => wakes15_) (by simp [AV.ids, AV.idsL]) (by simp) ?_
      simp only [List.nil_append, List.cons_append, true_and, and_true, zz0, true_implies, Nat.reduceLT, Nat.reduceLeDiff, zzI, look_nil, Nat.reduceBEq, implies_true, evS_call, evC_value, evS_assign, zz6, Nat.reduceEqDiff, ↓reduceIte, atsL, oksG, freeN, AV.ren, AV.renL, addRows, ORow.row, Nat.reduceMul, Nat.reduceAdd, zz9, Option.bind_some, Option.map_some, forall_eq', D.sl.injEq, zz16, Option.some.injEq, exists_eq_left', exists_eq_left, exists_eq', exists_eq, zzD, zz2]
      refine hK2 _ ?_; try clear hK2 K2
      refine awp_keepL [10] ?_
      simp only [zz20, zzI, look_nil, Nat.reduceBEq]
      refine awp_ret ?_
      simp only [zz6, Nat.reduceEqDiff, ↓reduceIte]
      refine done0 (by simp only [resCs, resC]; trivial) ?_ (by simp [flatA, flatAs, flatD]) (by simp [AV.ids, AV.idsL])
      simp only [List.map_cons, List.map_nil, resA, S_getD, Nat.reduceLT, Nat.reduceLeDiff, look_cons, Nat.reduceBEq, cond_true, cond_false, resAll]
      
    · intro hb
      simp only [Bool.or_eq_false_iff, bne_eq_false_iff_eq, decide_eq_false_iff_not] at hb
      obtain ⟨⟨⟨⟨⟨q1, q2⟩, q3⟩, q4⟩, q5⟩, q6⟩ := hb
      refine awp_skip ?_
      simp only [zz6, Nat.reduceEqDiff, ↓reduceIte]
      refine hK0 _ ?_; try clear hK0 K0
      refine awp_keepL [1, 2, 3, 4, 5, 11, 13, 15, 17] ?_
      simp only [zz20, zzI, look_nil, Nat.reduceBEq]
      refine awp_seq fun K0 hK0 => ?_
      refine awp_seq fun K1 hK1 => ?_
      refine awp_plain F_mixed [some 19] rfl ?_
      simp only [List.nil_append, List.cons_append, true_and, and_true, zz0, true_implies, Nat.reduceLT, Nat.reduceLeDiff, zzI, look_nil, Nat.reduceBEq, implies_true, evS_assign, zz6, Nat.reduceEqDiff, ↓reduceIte]
      refine hK1 _ ?_; try clear hK1 K1
      refine awp_keepL [1, 2, 3, 4, 5, 11, 13, 15, 17, 19] ?_
      simp only [zz20, zzI, look_nil, Nat.reduceBEq]
      refine awp_block ?_
      refine awp_loop (fun m s => (m = 6 ∧ s = S 155 [(1, .d (iv who)), (2, .d (iv cur)), (3, .d (poss l)), (4, .d (poss k)), (5, .ptr 5 0 0), (11, .ptr 11 0 0), (13, .ptr 13 0 0), (15, .d (iv (margV r who cur l))), (17, .d (iv (margV r who cur k))), (19, .d (iv 0))] [(5, (⟨True, 26, 3, true, false, 5, [[.d (.sl 3 (r.mems.map memC)), .d (.sl 12 (r.insts.map instC)), .d (.sl 4 (r.assets.map assetC))]]⟩ : ARow)), (11, (⟨True, 31, 6, true, false, 11, [[.d (iv (lossV r who cur l 0)), .d (iv (lossV r who cur l 1)), .d (iv (lossV r who cur l 2)), .d (iv (lossV r who cur l 3)), .d (iv (lossV r who cur l 4)), .d (iv (lossV r who cur l 5))]]⟩ : ARow)), (13, (⟨True, 31, 6, true, false, 13, [[.d (iv (lossV r who cur k 0)), .d (iv (lossV r who cur k 1)), .d (iv (lossV r who cur k 2)), .d (iv (lossV r who cur k 3)), .d (iv (lossV r who cur k 4)), .d (iv (lossV r who cur k 5))]]⟩ : ARow))]) ∨ (m = 5 ∧ (¬ lossV r who cur l 0 < -288230376151711744 ∧ ¬ lossV r who cur k 0 < -288230376151711744) ∧ s = S 155 [(1, .d (iv who)), (2, .d (iv cur)), (3, .d (poss l)), (4, .d (poss k)), (5, .ptr 5 0 0), (11, .ptr 11 0 0), (13, .ptr 13 0 0), (15, .d (iv (margV r who cur l))), (17, .d (iv (margV r who cur k))), (19, .d (iv 1))] [(5, (⟨True, 26, 3, true, false, 5, [[.d (.sl 3 (r.mems.map memC)), .d (.sl 12 (r.insts.map instC)), .d (.sl 4 (r.assets.map assetC))]]⟩ : ARow)), (11, (⟨True, 31, 6, true, false, 11, [[.d (iv (lossV r who cur l 0)), .d (iv (lossV r who cur l 1)), .d (iv (lossV r who cur l 2)), .d (iv (lossV r who cur l 3)), .d (iv (lossV r who cur l 4)), .d (iv (lossV r who cur l 5))]]⟩ : ARow)), (13, (⟨True, 31, 6, true, false, 13, [[.d (iv (lossV r who cur k 0)), .d (iv (lossV r who cur k 1)), .d (iv (lossV r who cur k 2)), .d (iv (lossV r who cur k 3)), .d (iv (lossV r who cur k 4)), .d (iv (lossV r who cur k 5))]]⟩ : ARow))]) ∨ (m = 4 ∧ (¬ lossV r who cur l 0 < -288230376151711744 ∧ ¬ lossV r who cur k 0 < -288230376151711744) ∧ (¬ lossV r who cur l 1 < -288230376151711744 ∧ ¬ lossV r who cur k 1 < -288230376151711744) ∧ s = S 155 [(1, .d (iv who)), (2, .d (iv cur)), (3, .d (poss l)), (4, .d (poss k)), (5, .ptr 5 0 0), (11, .ptr 11 0 0), (13, .ptr 13 0 0), (15, .d (iv (margV r who cur l))), (17, .d (iv (margV r who cur k))), (19, .d (iv 2))] [(5, (⟨True, 26, 3, true, false, 5, [[.d (.sl 3 (r.mems.map memC)), .d (.sl 12 (r.insts.map instC)), .d (.sl 4 (r.assets.map assetC))]]⟩ : ARow)), (11, (⟨True, 31, 6, true, false, 11, [[.d (iv (lossV r who cur l 0)), .d (iv (lossV r who cur l 1)), .d (iv (lossV r who cur l 2)), .d (iv (lossV r who cur l 3)), .d (iv (lossV r who cur l 4)), .d (iv (lossV r who cur l 5))]]⟩ : ARow)), (13, (⟨True, 31, 6, true, false, 13, [[.d (iv (lossV r who cur k 0)), .d (iv (lossV r who cur k 1)), .d (iv (lossV r who cur k 2)), .d (iv (lossV r who cur k 3)), .d (iv (lossV r who cur k 4)), .d (iv (lossV r who cur k 5))]]⟩ : ARow))]) ∨ (m = 3 ∧ (¬ lossV r who cur l 0 < -288230376151711744 ∧ ¬ lossV r who cur k 0 < -288230376151711744) ∧ (¬ lossV r who cur l 1 < -288230376151711744 ∧ ¬ lossV r who cur k 1 < -288230376151711744) ∧ (¬ lossV r who cur l 2 < -288230376151711744 ∧ ¬ lossV r who cur k 2 < -288230376151711744) ∧ s = S 155 [(1, .d (iv who)), (2, .d (iv cur)), (3, .d (poss l)), (4, .d (poss k)), (5, .ptr 5 0 0), (11, .ptr 11 0 0), (13, .ptr 13 0 0), (15, .d (iv (margV r who cur l))), (17, .d (iv (margV r who cur k))), (19, .d (iv 3))] [(5, (⟨True, 26, 3, true, false, 5, [[.d (.sl 3 (r.mems.map memC)), .d (.sl 12 (r.insts.map instC)), .d (.sl 4 (r.assets.map assetC))]]⟩ : ARow)), (11, (⟨True, 31, 6, true, false, 11, [[.d (iv (lossV r who cur l 0)), .d (iv (lossV r who cur l 1)), .d (iv (lossV r who cur l 2)), .d (iv (lossV r who cur l 3)), .d (iv (lossV r who cur l 4)), .d (iv (lossV r who cur l 5))]]⟩ : ARow)), (13, (⟨True, 31, 6, true, false, 13, [[.d (iv (lossV r who cur k 0)), .d (iv (lossV r who cur k 1)), .d (iv (lossV r who cur k 2)), .d (iv (lossV r who cur k 3)), .d (iv (lossV r who cur k 4)), .d (iv (lossV r who cur k 5))]]⟩ : ARow))]) ∨ (m = 2 ∧ (¬ lossV r who cur l 0 < -288230376151711744 ∧ ¬ lossV r who cur k 0 < -288230376151711744) ∧ (¬ lossV r who cur l 1 < -288230376151711744 ∧ ¬ lossV r who cur k 1 < -288230376151711744) ∧ (¬ lossV r who cur l 2 < -288230376151711744 ∧ ¬ lossV r who cur k 2 < -288230376151711744) ∧ (¬ lossV r who cur l 3 < -288230376151711744 ∧ ¬ lossV r who cur k 3 < -288230376151711744) ∧ s = S 155 [(1, .d (iv who)), (2, .d (iv cur)), (3, .d (poss l)), (4, .d (poss k)), (5, .ptr 5 0 0), (11, .ptr 11 0 0), (13, .ptr 13 0 0), (15, .d (iv (margV r who cur l))), (17, .d (iv (margV r who cur k))), (19, .d (iv 4))] [(5, (⟨True, 26, 3, true, false, 5, [[.d (.sl 3 (r.mems.map memC)), .d (.sl 12 (r.insts.map instC)), .d (.sl 4 (r.assets.map assetC))]]⟩ : ARow)), (11, (⟨True, 31, 6, true, false, 11, [[.d (iv (lossV r who cur l 0)), .d (iv (lossV r who cur l 1)), .d (iv (lossV r who cur l 2)), .d (iv (lossV r who cur l 3)), .d (iv (lossV r who cur l 4)), .d (iv (lossV r who cur l 5))]]⟩ : ARow)), (13, (⟨True, 31, 6, true, false, 13, [[.d (iv (lossV r who cur k 0)), .d (iv (lossV r who cur k 1)), .d (iv (lossV r who cur k 2)), .d (iv (lossV r who cur k 3)), .d (iv (lossV r who cur k 4)), .d (iv (lossV r who cur k 5))]]⟩ : ARow))]) ∨ (m = 1 ∧ (¬ lossV r who cur l 0 < -288230376151711744 ∧ ¬ lossV r who cur k 0 < -288230376151711744) ∧ (¬ lossV r who cur l 1 < -288230376151711744 ∧ ¬ lossV r who cur k 1 < -288230376151711744) ∧ (¬ lossV r who cur l 2 < -288230376151711744 ∧ ¬ lossV r who cur k 2 < -288230376151711744) ∧ (¬ lossV r who cur l 3 < -288230376151711744 ∧ ¬ lossV r who cur k 3 < -288230376151711744) ∧ (¬ lossV r who cur l 4 < -288230376151711744 ∧ ¬ lossV r who cur k 4 < -288230376151711744) ∧ s = S 155 [(1, .d (iv who)), (2, .d (iv cur)), (3, .d (poss l)), (4, .d (poss k)), (5, .ptr 5 0 0), (11, .ptr 11 0 0), (13, .ptr 13 0 0), (15, .d (iv (margV r who cur l))), (17, .d (iv (margV r who cur k))), (19, .d (iv 5))] [(5, (⟨True, 26, 3, true, false, 5, [[.d (.sl 3 (r.mems.map memC)), .d (.sl 12 (r.insts.map instC)), .d (.sl 4 (r.assets.map assetC))]]⟩ : ARow)), (11, (⟨True, 31, 6, true, false, 11, [[.d (iv (lossV r who cur l 0)), .d (iv (lossV r who cur l 1)), .d (iv (lossV r who cur l 2)), .d (iv (lossV r who cur l 3)), .d (iv (lossV r who cur l 4)), .d (iv (lossV r who cur l 5))]]⟩ : ARow)), (13, (⟨True, 31, 6, true, false, 13, [[.d (iv (lossV r who cur k 0)), .d (iv (lossV r who cur k 1)), .d (iv (lossV r who cur k 2)), .d (iv (lossV r who cur k 3)), .d (iv (lossV r who cur k 4)), .d (iv (lossV r who cur k 5))]]⟩ : ARow))]) ∨ (m = 0 ∧ (¬ lossV r who cur l 0 < -288230376151711744 ∧ ¬ lossV r who cur k 0 < -288230376151711744) ∧ (¬ lossV r who cur l 1 < -288230376151711744 ∧ ¬ lossV r who cur k 1 < -288230376151711744) ∧ (¬ lossV r who cur l 2 < -288230376151711744 ∧ ¬ lossV r who cur k 2 < -288230376151711744) ∧ (¬ lossV r who cur l 3 < -288230376151711744 ∧ ¬ lossV r who cur k 3 < -288230376151711744) ∧ (¬ lossV r who cur l 4 < -288230376151711744 ∧ ¬ lossV r who cur k 4 < -288230376151711744) ∧ (¬ lossV r who cur l 5 < -288230376151711744 ∧ ¬ lossV r who cur k 5 < -288230376151711744) ∧ s = S 155 [(1, .d (iv who)), (2, .d (iv cur)), (3, .d (poss l)), (4, .d (poss k)), (5, .ptr 5 0 0), (11, .ptr 11 0 0), (13, .ptr 13 0 0), (15, .d (iv (margV r who cur l))), (17, .d (iv (margV r who cur k))), (19, .d (iv 6))] [(5, (⟨True, 26, 3, true, false, 5, [[.d (.sl 3 (r.mems.map memC)), .d (.sl 12 (r.insts.map instC)), .d (.sl 4 (r.assets.map assetC))]]⟩ : ARow)), (11, (⟨True, 31, 6, true, false, 11, [[.d (iv (lossV r who cur l 0)), .d (iv (lossV r who cur l 1)), .d (iv (lossV r who cur l 2)), .d (iv (lossV r who cur l 3)), .d (iv (lossV r who cur l 4)), .d (iv (lossV r who cur l 5))]]⟩ : ARow)), (13, (⟨True, 31, 6, true, false, 13, [[.d (iv (lossV r who cur k 0)), .d (iv (lossV r who cur k 1)), .d (iv (lossV r who cur k 2)), .d (iv (lossV r who cur k 3)), .d (iv (lossV r who cur k 4)), .d (iv (lossV r who cur k 5))]]⟩ : ARow))])) 6 _ (le_SK id [] rfl (l' := [(1, .d (iv who)), (2, .d (iv cur)), (3, .d (poss l)), (4, .d (poss k)), (5, .ptr 5 0 0), (11, .ptr 11 0 0), (13, .ptr 13 0 0), (15, .d (iv (margV r who cur l))), (17, .d (iv (margV r who cur k))), (19, .d (iv 0))]) (m' := [(5, (⟨True, 26, 3, true, false, 5, [[.d (.sl 3 (r.mems.map memC)), .d (.sl 12 (r.insts.map instC)), .d (.sl 4 (r.assets.map assetC))]]⟩ : ARow)), (11, (⟨True, 31, 6, true, false, 11, [[.d (iv (lossV r who cur l 0)), .d (iv (lossV r who cur l 1)), .d (iv (lossV r who cur l 2)), .d (iv (lossV r who cur l 3)), .d (iv (lossV r who cur l 4)), .d (iv (lossV r who cur l 5))]]⟩ : ARow)), (13, (⟨True, 31, 6, true, false, 13, [[.d (iv (lossV r who cur k 0)), .d (iv (lossV r who cur k 1)), .d (iv (lossV r who cur k 2)), .d (iv (lossV r who cur k 3)), .d (iv (lossV r who cur k 4)), .d (iv (lossV r who cur k 5))]]⟩ : ARow))]) ?_ ?_ ?_ ?_) (.inl (⟨rfl, rfl⟩)) ?_
      · simp only [leV, look_cons, Nat.reduceBEq, cond_true, cond_false]; exact ⟨VLe.refl _, VLe.refl _, VLe.refl _, VLe.refl _, VLe.refl _, VLe.refl _, VLe.refl _, VLe.refl _, VLe.refl _, VLe.refl _, trivial⟩
      · exact ⟨fun _ => ⟨_, rfl, ⟨id, rfl, rfl, rfl, id, .inl, VLess.refl _⟩⟩, fun h => by simp at h, fun _ => ⟨_, rfl, ⟨id, rfl, rfl, rfl, id, .inl, VLess.refl _⟩⟩, fun h => by simp at h, fun _ => ⟨_, rfl, ⟨id, rfl, rfl, rfl, id, .inl, VLess.refl _⟩⟩, fun h => by simp at h, trivial⟩
      · simp [wfV, AV.ids, AV.idsL, lookR]
      · simp [wfR, AV.idsL, AV.ids]
      rintro m s (⟨rfl, rfl⟩ | ⟨rfl, h0, rfl⟩ | ⟨rfl, h0, h1, rfl⟩ | ⟨rfl, h0, h1, h2, rfl⟩ | ⟨rfl, h0, h1, h2, h3, rfl⟩ | ⟨rfl, h0, h1, h2, h3, h4, rfl⟩ | ⟨rfl, h0, h1, h2, h3, h4, h5, rfl⟩)
      · skip
        refine awp_seq fun K2 hK2 => ?_
        refine awp_seq fun K3 hK3 => ?_
        refine awp_plain F_mixed [some 91, some 92] rfl ?_
        simp only [List.nil_append, List.cons_append, true_and, and_true, zz0, true_implies, Nat.reduceLT, Nat.reduceLeDiff, zzI, look_nil, Nat.reduceBEq, implies_true, evS_move, zz21, gr_v, zz22, zz6, Nat.reduceEqDiff, ↓reduceIte]
        refine hK3 _ ?_; try clear hK3 K3
        refine awp_keepL [1, 2, 3, 4, 5, 11, 13, 15, 17, 19, 92] ?_
        simp only [zz20, zzI, look_nil, Nat.reduceBEq]
        refine awp_condS _ (by decide) (by simp only [look_cons, Nat.reduceBEq, cond_true, cond_false]; rfl) ?_ ?_
        · intro hb
          clear hb
          refine awp_skip ?_
          simp only [zz6, Nat.reduceEqDiff, ↓reduceIte]
          refine hK2 _ ?_; try clear hK2 K2
          refine awp_keepL [1, 2, 3, 4, 5, 11, 13, 15, 17, 19] ?_
          simp only [zz20, zzI, look_nil, Nat.reduceBEq]
          refine awp_seq fun K2 hK2 => ?_
          refine awp_block ?_
          refine awp_seq fun K3 hK3 => ?_
          refine awp_plain F_mixed [some 95, some 96, some 97, some 98, some 99, some 100, some 101, some 102, some 103, some 104] rfl ?_
          simp only [List.nil_append, List.cons_append, true_and, and_true, zz0, true_implies, Nat.reduceLT, Nat.reduceLeDiff, zzI, look_nil, Nat.reduceBEq, implies_true, Nat.reduceSub, S_getD, zz5, and_imp, imp_and, imp_self, and_self, evS_move, evS_indexAddr, zz23, zz15, F_arr31, F_sz3, zz16, Option.some.injEq, exists_eq_left', exists_eq_left, Option.map_some, eq_self, reduceCtorEq, F_ok3, F_ag3, zz8, zzD, Nat.reduceAdd, Nat.zero_add, zzF, zzB, zzE, zz21, gr_v, zz22, zz13, Int.reduceToNat, Int.reduceLT, Int.reduceLE, cast6, Nat.reduceMul, zz6, Nat.reduceEqDiff, ↓reduceIte]
          refine hK3 _ ?_; try clear hK3 K3
          refine awp_keepL [1, 2, 3, 4, 5, 11, 13, 15, 17, 19, 104] ?_
          simp only [zz20, zzI, look_nil, Nat.reduceBEq]
          refine awp_condS _ (by decide) (by simp only [look_cons, Nat.reduceBEq, cond_true, cond_false]; rfl) ?_ ?_
          · intro hb
            clear hb
            refine awp_seq fun K4 hK4 => ?_
            refine awp_plain F_mixed [some 105, some 10] rfl ?_
            simp only [List.nil_append, List.cons_append, true_and, and_true, zz0, true_implies, Nat.reduceLT, Nat.reduceLeDiff, zzI, look_nil, Nat.reduceBEq, implies_true, evS_call, evC_value, evS_assign, zz6, Nat.reduceEqDiff, ↓reduceIte]
            refine call_go F_go17 (fun hG => wakes15_) (by simp [AV.ids, AV.idsL]) (by simp) ?_
            simp only [List.nil_append, List.cons_append, true_and, and_true, zz0, true_implies, Nat.reduceLT, Nat.reduceLeDiff, zzI, look_nil, Nat.reduceBEq, implies_true, evS_call, evC_value, evS_assign, zz6, Nat.reduceEqDiff, ↓reduceIte, atsL, oksG, freeN, AV.ren, AV.renL, addRows, ORow.row, Nat.reduceMul, Nat.reduceAdd, zz9, Option.bind_some, Option.map_some, forall_eq', D.sl.injEq, zz16, Option.some.injEq, exists_eq_left', exists_eq_left, exists_eq', exists_eq, zzD, zz2]
            refine hK4 _ ?_; try clear hK4 K4
            refine awp_keepL [10] ?_
            simp only [zz20, zzI, look_nil, Nat.reduceBEq]
            refine awp_ret ?_
            simp only [zz6, Nat.reduceEqDiff, ↓reduceIte]
            refine done0 (by simp only [resCs, resC]; trivial) ?_ (by simp [flatA, flatAs, flatD]) (by simp [AV.ids, AV.idsL])
            simp only [List.map_cons, List.map_nil, resA, S_getD, Nat.reduceLT, Nat.reduceLeDiff, look_cons, Nat.reduceBEq, cond_true, cond_false, resAll]
            
          · intro hb
            simp only [Bool.or_eq_false_iff, decide_eq_false_iff_not] at hb
            refine awp_skip ?_
            simp only [zz6, Nat.reduceEqDiff, ↓reduceIte]
            refine hK2 _ ?_; try clear hK2 K2
            refine awp_keepL [1, 2, 3, 4, 5, 11, 13, 15, 17, 19] ?_
            simp only [zz20, zzI, look_nil, Nat.reduceBEq]
            refine awp_plain F_mixed [some 93, some 94, some 19] rfl ?_
            simp only [List.nil_append, List.cons_append, true_and, and_true, zz0, true_implies, Nat.reduceLT, Nat.reduceLeDiff, zzI, look_nil, Nat.reduceBEq, implies_true, evS_move, zz21, gr_v, zz26, evS_assign, zz6, Nat.reduceEqDiff, ↓reduceIte]
            refine ⟨5, _, by decide, le_SK id [] rfl (l' := [(1, .d (iv who)), (2, .d (iv cur)), (3, .d (poss l)), (4, .d (poss k)), (5, .ptr 5 0 0), (11, .ptr 11 0 0), (13, .ptr 13 0 0), (15, .d (iv (margV r who cur l))), (17, .d (iv (margV r who cur k))), (19, .d (iv 1))]) (m' := [(5, (⟨True, 26, 3, true, false, 5, [[.d (.sl 3 (r.mems.map memC)), .d (.sl 12 (r.insts.map instC)), .d (.sl 4 (r.assets.map assetC))]]⟩ : ARow)), (11, (⟨True, 31, 6, true, false, 11, [[.d (iv (lossV r who cur l 0)), .d (iv (lossV r who cur l 1)), .d (iv (lossV r who cur l 2)), .d (iv (lossV r who cur l 3)), .d (iv (lossV r who cur l 4)), .d (iv (lossV r who cur l 5))]]⟩ : ARow)), (13, (⟨True, 31, 6, true, false, 13, [[.d (iv (lossV r who cur k 0)), .d (iv (lossV r who cur k 1)), .d (iv (lossV r who cur k 2)), .d (iv (lossV r who cur k 3)), .d (iv (lossV r who cur k 4)), .d (iv (lossV r who cur k 5))]]⟩ : ARow))]) ?_ ?_ ?_ ?_, .inr (.inl (⟨rfl, hb, rfl⟩))⟩
            · simp only [leV, look_cons, Nat.reduceBEq, cond_true, cond_false]; exact ⟨VLe.refl _, VLe.refl _, VLe.refl _, VLe.refl _, VLe.refl _, VLe.refl _, VLe.refl _, VLe.refl _, VLe.refl _, VLe.refl _, trivial⟩
            · exact ⟨fun _ => ⟨_, rfl, ⟨id, rfl, rfl, rfl, id, .inl, VLess.refl _⟩⟩, fun h => by simp at h, fun _ => ⟨_, rfl, ⟨id, rfl, rfl, rfl, id, .inl, VLess.refl _⟩⟩, fun h => by simp at h, fun _ => ⟨_, rfl, ⟨id, rfl, rfl, rfl, id, .inl, VLess.refl _⟩⟩, fun h => by simp at h, trivial⟩
            · simp [wfV, AV.ids, AV.idsL, lookR]
            · simp [wfR, AV.idsL, AV.ids]
        · intro hb
          simp at hb
      · skip
        refine awp_seq fun K2 hK2 => ?_
        refine awp_seq fun K3 hK3 => ?_
        refine awp_plain F_mixed [some 91, some 92] rfl ?_
        simp only [List.nil_append, List.cons_append, true_and, and_true, zz0, true_implies, Nat.reduceLT, Nat.reduceLeDiff, zzI, look_nil, Nat.reduceBEq, implies_true, evS_move, zz21, gr_v, zz22, zz6, Nat.reduceEqDiff, ↓reduceIte]
        refine hK3 _ ?_; try clear hK3 K3
        refine awp_keepL [1, 2, 3, 4, 5, 11, 13, 15, 17, 19, 92] ?_
        simp only [zz20, zzI, look_nil, Nat.reduceBEq]
        refine awp_condS _ (by decide) (by simp only [look_cons, Nat.reduceBEq, cond_true, cond_false]; rfl) ?_ ?_
        · intro hb
          clear hb
          refine awp_skip ?_
          simp only [zz6, Nat.reduceEqDiff, ↓reduceIte]
          refine hK2 _ ?_; try clear hK2 K2
          refine awp_keepL [1, 2, 3, 4, 5, 11, 13, 15, 17, 19] ?_
          simp only [zz20, zzI, look_nil, Nat.reduceBEq]
          refine awp_seq fun K2 hK2 => ?_
          refine awp_block ?_
          refine awp_seq fun K3 hK3 => ?_
          refine awp_plain F_mixed [some 95, some 96, some 97, some 98, some 99, some 100, some 101, some 102, some 103, some 104] rfl ?_
          simp only [List.nil_append, List.cons_append, true_and, and_true, zz0, true_implies, Nat.reduceLT, Nat.reduceLeDiff, zzI, look_nil, Nat.reduceBEq, implies_true, Nat.reduceSub, S_getD, zz5, and_imp, imp_and, imp_self, and_self, evS_move, evS_indexAddr, zz23, zz15, F_arr31, F_sz3, zz16, Option.some.injEq, exists_eq_left', exists_eq_left, Option.map_some, eq_self, reduceCtorEq, F_ok3, F_ag3, zz8, zzD, Nat.reduceAdd, Nat.zero_add, zzF, zzB, zzE, zz21, gr_v, zz22, zz13, Int.reduceToNat, Int.reduceLT, Int.reduceLE, cast6, Nat.reduceMul, zz6, Nat.reduceEqDiff, ↓reduceIte]
          refine hK3 _ ?_; try clear hK3 K3
          refine awp_keepL [1, 2, 3, 4, 5, 11, 13, 15, 17, 19, 104] ?_
          simp only [zz20, zzI, look_nil, Nat.reduceBEq]
          refine awp_condS _ (by decide) (by simp only [look_cons, Nat.reduceBEq, cond_true, cond_false]; rfl) ?_ ?_
          · intro hb
            clear hb
            refine awp_seq fun K4 hK4 => ?_
            refine awp_plain F_mixed [some 105, some 10] rfl ?_
            simp only [List.nil_append, List.cons_append, true_and, and_true, zz0, true_implies, Nat.reduceLT, Nat.reduceLeDiff, zzI, look_nil, Nat.reduceBEq, implies_true, evS_call, evC_value, evS_assign, zz6, Nat.reduceEqDiff, ↓reduceIte]
            refine call_go F_go17 (fun hG => wakes15_) (by simp [AV.ids, AV.idsL]) (by simp) ?_
            simp only [List.nil_append, List.cons_append, true_and, and_true, zz0, true_implies, Nat.reduceLT, Nat.reduceLeDiff, zzI, look_nil, Nat.reduceBEq, implies_true, evS_call, evC_value, evS_assign, zz6, Nat.reduceEqDiff, ↓reduceIte, atsL, oksG, freeN, AV.ren, AV.renL, addRows, ORow.row, Nat.reduceMul, Nat.reduceAdd, zz9, Option.bind_some, Option.map_some, forall_eq', D.sl.injEq, zz16, Option.some.injEq, exists_eq_left', exists_eq_left, exists_eq', exists_eq, zzD, zz2]
            refine hK4 _ ?_; try clear hK4 K4
            refine awp_keepL [10] ?_
            simp only [zz20, zzI, look_nil, Nat.reduceBEq]
            refine awp_ret ?_
            simp only [zz6, Nat.reduceEqDiff, ↓reduceIte]
            refine done0 (by simp only [resCs, resC]; trivial) ?_ (by simp [flatA, flatAs, flatD]) (by simp [AV.ids, AV.idsL])
            simp only [List.map_cons, List.map_nil, resA, S_getD, Nat.reduceLT, Nat.reduceLeDiff, look_cons, Nat.reduceBEq, cond_true, cond_false, resAll]
            
          · intro hb
            simp only [Bool.or_eq_false_iff, decide_eq_false_iff_not] at hb
            refine awp_skip ?_
            simp only [zz6, Nat.reduceEqDiff, ↓reduceIte]
            refine hK2 _ ?_; try clear hK2 K2
            refine awp_keepL [1, 2, 3, 4, 5, 11, 13, 15, 17, 19] ?_
            simp only [zz20, zzI, look_nil, Nat.reduceBEq]
            refine awp_plain F_mixed [some 93, some 94, some 19] rfl ?_
            simp only [List.nil_append, List.cons_append, true_and, and_true, zz0, true_implies, Nat.reduceLT, Nat.reduceLeDiff, zzI, look_nil, Nat.reduceBEq, implies_true, evS_move, zz21, gr_v, zz26, evS_assign, zz6, Nat.reduceEqDiff, ↓reduceIte]
            refine ⟨4, _, by decide, le_SK id [] rfl (l' := [(1, .d (iv who)), (2, .d (iv cur)), (3, .d (poss l)), (4, .d (poss k)), (5, .ptr 5 0 0), (11, .ptr 11 0 0), (13, .ptr 13 0 0), (15, .d (iv (margV r who cur l))), (17, .d (iv (margV r who cur k))), (19, .d (iv 2))]) (m' := [(5, (⟨True, 26, 3, true, false, 5, [[.d (.sl 3 (r.mems.map memC)), .d (.sl 12 (r.insts.map instC)), .d (.sl 4 (r.assets.map assetC))]]⟩ : ARow)), (11, (⟨True, 31, 6, true, false, 11, [[.d (iv (lossV r who cur l 0)), .d (iv (lossV r who cur l 1)), .d (iv (lossV r who cur l 2)), .d (iv (lossV r who cur l 3)), .d (iv (lossV r who cur l 4)), .d (iv (lossV r who cur l 5))]]⟩ : ARow)), (13, (⟨True, 31, 6, true, false, 13, [[.d (iv (lossV r who cur k 0)), .d (iv (lossV r who cur k 1)), .d (iv (lossV r who cur k 2)), .d (iv (lossV r who cur k 3)), .d (iv (lossV r who cur k 4)), .d (iv (lossV r who cur k 5))]]⟩ : ARow))]) ?_ ?_ ?_ ?_, .inr (.inr (.inl (⟨rfl, h0, hb, rfl⟩)))⟩
            · simp only [leV, look_cons, Nat.reduceBEq, cond_true, cond_false]; exact ⟨VLe.refl _, VLe.refl _, VLe.refl _, VLe.refl _, VLe.refl _, VLe.refl _, VLe.refl _, VLe.refl _, VLe.refl _, VLe.refl _, trivial⟩
            · exact ⟨fun _ => ⟨_, rfl, ⟨id, rfl, rfl, rfl, id, .inl, VLess.refl _⟩⟩, fun h => by simp at h, fun _ => ⟨_, rfl, ⟨id, rfl, rfl, rfl, id, .inl, VLess.refl _⟩⟩, fun h => by simp at h, fun _ => ⟨_, rfl, ⟨id, rfl, rfl, rfl, id, .inl, VLess.refl _⟩⟩, fun h => by simp at h, trivial⟩
            · simp [wfV, AV.ids, AV.idsL, lookR]
            · simp [wfR, AV.idsL, AV.ids]
        · intro hb
          simp at hb
      · skip
        refine awp_seq fun K2 hK2 => ?_
        refine awp_seq fun K3 hK3 => ?_
        refine awp_plain F_mixed [some 91, some 92] rfl ?_
        simp only [List.nil_append, List.cons_append, true_and, and_true, zz0, true_implies, Nat.reduceLT, Nat.reduceLeDiff, zzI, look_nil, Nat.reduceBEq, implies_true, evS_move, zz21, gr_v, zz22, zz6, Nat.reduceEqDiff, ↓reduceIte]
        refine hK3 _ ?_; try clear hK3 K3
        refine awp_keepL [1, 2, 3, 4, 5, 11, 13, 15, 17, 19, 92] ?_
        simp only [zz20, zzI, look_nil, Nat.reduceBEq]
        refine awp_condS _ (by decide) (by simp only [look_cons, Nat.reduceBEq, cond_true, cond_false]; rfl) ?_ ?_
        · intro hb
          clear hb
          refine awp_skip ?_
          simp only [zz6, Nat.reduceEqDiff, ↓reduceIte]
          refine hK2 _ ?_; try clear hK2 K2
          refine awp_keepL [1, 2, 3, 4, 5, 11, 13, 15, 17, 19] ?_
          simp only [zz20, zzI, look_nil, Nat.reduceBEq]
          refine awp_seq fun K2 hK2 => ?_
          refine awp_block ?_
          refine awp_seq fun K3 hK3 => ?_
          refine awp_plain F_mixed [some 95, some 96, some 97, some 98, some 99, some 100, some 101, some 102, some 103, some 104] rfl ?_
          simp only [List.nil_append, List.cons_append, true_and, and_true, zz0, true_implies, Nat.reduceLT, Nat.reduceLeDiff, zzI, look_nil, Nat.reduceBEq, implies_true, Nat.reduceSub, S_getD, zz5, and_imp, imp_and, imp_self, and_self, evS_move, evS_indexAddr, zz23, zz15, F_arr31, F_sz3, zz16, Option.some.injEq, exists_eq_left', exists_eq_left, Option.map_some, eq_self, reduceCtorEq, F_ok3, F_ag3, zz8, zzD, Nat.reduceAdd, Nat.zero_add, zzF, zzB, zzE, zz21, gr_v, zz22, zz13, Int.reduceToNat, Int.reduceLT, Int.reduceLE, cast6, Nat.reduceMul, zz6, Nat.reduceEqDiff, ↓reduceIte]
          refine hK3 _ ?_; try clear hK3 K3
          refine awp_keepL [1, 2, 3, 4, 5, 11, 13, 15, 17, 19, 104] ?_
          simp only [zz20, zzI, look_nil, Nat.reduceBEq]
          refine awp_condS _ (by decide) (by simp only [look_cons, Nat.reduceBEq, cond_true, cond_false]; rfl) ?_ ?_
          · intro hb
            clear hb
            refine awp_seq fun K4 hK4 => ?_
            refine awp_plain F_mixed [some 105, some 10] rfl ?_
            simp only [List.nil_append, List.cons_append, true_and, and_true, zz0, true_implies, Nat.reduceLT, Nat.reduceLeDiff, zzI, look_nil, Nat.reduceBEq, implies_true, evS_call, evC_value, evS_assign, zz6, Nat.reduceEqDiff, ↓reduceIte]
            refine call_go F_go17 (fun hG => wakes15_) (by simp [AV.ids, AV.idsL]) (by simp) ?_
            simp only [List.nil_append, List.cons_append, true_and, and_true, zz0, true_implies, Nat.reduceLT, Nat.reduceLeDiff, zzI, look_nil, Nat.reduceBEq, implies_true, evS_call, evC_value, evS_assign, zz6, Nat.reduceEqDiff, ↓reduceIte, atsL, oksG, freeN, AV.ren, AV.renL, addRows, ORow.row, Nat.reduceMul, Nat.reduceAdd, zz9, Option.bind_some, Option.map_some, forall_eq', D.sl.injEq, zz16, Option.some.injEq, exists_eq_left', exists_eq_left, exists_eq', exists_eq, zzD, zz2]
            refine hK4 _ ?_; try clear hK4 K4
            refine awp_keepL [10] ?_
            simp only [zz20, zzI, look_nil, Nat.reduceBEq]
            refine awp_ret ?_
            simp only [zz6, Nat.reduceEqDiff, ↓reduceIte]
            refine done0 (by simp only [resCs, resC]; trivial) ?_ (by simp [flatA, flatAs, flatD]) (by simp [AV.ids, AV.idsL])
            simp only [List.map_cons, List.map_nil, resA, S_getD, Nat.reduceLT, Nat.reduceLeDiff, look_cons, Nat.reduceBEq, cond_true, cond_false, resAll]
            
          · intro hb
            simp only [Bool.or_eq_false_iff, decide_eq_false_iff_not] at hb
            refine awp_skip ?_
            simp only [zz6, Nat.reduceEqDiff, ↓reduceIte]
            refine hK2 _ ?_; try clear hK2 K2
            refine awp_keepL [1, 2, 3, 4, 5, 11, 13, 15, 17, 19] ?_
            simp only [zz20, zzI, look_nil, Nat.reduceBEq]
            refine awp_plain F_mixed [some 93, some 94, some 19] rfl ?_
            simp only [List.nil_append, List.cons_append, true_and, and_true, zz0, true_implies, Nat.reduceLT, Nat.reduceLeDiff, zzI, look_nil, Nat.reduceBEq, implies_true, evS_move, zz21, gr_v, zz26, evS_assign, zz6, Nat.reduceEqDiff, ↓reduceIte]
            refine ⟨3, _, by decide, le_SK id [] rfl (l' := [(1, .d (iv who)), (2, .d (iv cur)), (3, .d (poss l)), (4, .d (poss k)), (5, .ptr 5 0 0), (11, .ptr 11 0 0), (13, .ptr 13 0 0), (15, .d (iv (margV r who cur l))), (17, .d (iv (margV r who cur k))), (19, .d (iv 3))]) (m' := [(5, (⟨True, 26, 3, true, false, 5, [[.d (.sl 3 (r.mems.map memC)), .d (.sl 12 (r.insts.map instC)), .d (.sl 4 (r.assets.map assetC))]]⟩ : ARow)), (11, (⟨True, 31, 6, true, false, 11, [[.d (iv (lossV r who cur l 0)), .d (iv (lossV r who cur l 1)), .d (iv (lossV r who cur l 2)), .d (iv (lossV r who cur l 3)), .d (iv (lossV r who cur l 4)), .d (iv (lossV r who cur l 5))]]⟩ : ARow)), (13, (⟨True, 31, 6, true, false, 13, [[.d (iv (lossV r who cur k 0)), .d (iv (lossV r who cur k 1)), .d (iv (lossV r who cur k 2)), .d (iv (lossV r who cur k 3)), .d (iv (lossV r who cur k 4)), .d (iv (lossV r who cur k 5))]]⟩ : ARow))]) ?_ ?_ ?_ ?_, .inr (.inr (.inr (.inl (⟨rfl, h0, h1, hb, rfl⟩))))⟩
            · simp only [leV, look_cons, Nat.reduceBEq, cond_true, cond_false]; exact ⟨VLe.refl _, VLe.refl _, VLe.refl _, VLe.refl _, VLe.refl _, VLe.refl _, VLe.refl _, VLe.refl _, VLe.refl _, VLe.refl _, trivial⟩
            · exact ⟨fun _ => ⟨_, rfl, ⟨id, rfl, rfl, rfl, id, .inl, VLess.refl _⟩⟩, fun h => by simp at h, fun _ => ⟨_, rfl, ⟨id, rfl, rfl, rfl, id, .inl, VLess.refl _⟩⟩, fun h => by simp at h, fun _ => ⟨_, rfl, ⟨id, rfl, rfl, rfl, id, .inl, VLess.refl _⟩⟩, fun h => by simp at h, trivial⟩
            · simp [wfV, AV.ids, AV.idsL, lookR]
            · simp [wfR, AV.idsL, AV.ids]
        · intro hb
          simp at hb
      · skip
        refine awp_seq fun K2 hK2 => ?_
        refine awp_seq fun K3 hK3 => ?_
        refine awp_plain F_mixed [some 91, some 92] rfl ?_
        simp only [List.nil_append, List.cons_append, true_and, and_true, zz0, true_implies, Nat.reduceLT, Nat.reduceLeDiff, zzI, look_nil, Nat.reduceBEq, implies_true, evS_move, zz21, gr_v, zz22, zz6, Nat.reduceEqDiff, ↓reduceIte]
        refine hK3 _ ?_; try clear hK3 K3
        refine awp_keepL [1, 2, 3, 4, 5, 11, 13, 15, 17, 19, 92] ?_
        simp only [zz20, zzI, look_nil, Nat.reduceBEq]
        refine awp_condS _ (by decide) (by simp only [look_cons, Nat.reduceBEq, cond_true, cond_false]; rfl) ?_ ?_
        · intro hb
          clear hb
          refine awp_skip ?_
          simp only [zz6, Nat.reduceEqDiff, ↓reduceIte]
          refine hK2 _ ?_; try clear hK2 K2
          refine awp_keepL [1, 2, 3, 4, 5, 11, 13, 15, 17, 19] ?_
          simp only [zz20, zzI, look_nil, Nat.reduceBEq]
          refine awp_seq fun K2 hK2 => ?_
          refine awp_block ?_
          refine awp_seq fun K3 hK3 => ?_
          refine awp_plain F_mixed [some 95, some 96, some 97, some 98, some 99, some 100, some 101, some 102, some 103, some 104] rfl ?_
          simp only [List.nil_append, List.cons_append, true_and, and_true, zz0, true_implies, Nat.reduceLT, Nat.reduceLeDiff, zzI, look_nil, Nat.reduceBEq, implies_true, Nat.reduceSub, S_getD, zz5, and_imp, imp_and, imp_self, and_self, evS_move, evS_indexAddr, zz23, zz15, F_arr31, F_sz3, zz16, Option.some.injEq, exists_eq_left', exists_eq_left, Option.map_some, eq_self, reduceCtorEq, F_ok3, F_ag3, zz8, zzD, Nat.reduceAdd, Nat.zero_add, zzF, zzB, zzE, zz21, gr_v, zz22, zz13, Int.reduceToNat, Int.reduceLT, Int.reduceLE, cast6, Nat.reduceMul, zz6, Nat.reduceEqDiff, ↓reduceIte]
          refine hK3 _ ?_; try clear hK3 K3
          refine awp_keepL [1, 2, 3, 4, 5, 11, 13, 15, 17, 19, 104] ?_
          simp only [zz20, zzI, look_nil, Nat.reduceBEq]
          refine awp_condS _ (by decide) (by simp only [look_cons, Nat.reduceBEq, cond_true, cond_false]; rfl) ?_ ?_
          · intro hb
            clear hb
            refine awp_seq fun K4 hK4 => ?_
            refine awp_plain F_mixed [some 105, some 10] rfl ?_
            simp only [List.nil_append, List.cons_append, true_and, and_true, zz0, true_implies, Nat.reduceLT, Nat.reduceLeDiff, zzI, look_nil, Nat.reduceBEq, implies_true, evS_call, evC_value, evS_assign, zz6, Nat.reduceEqDiff, ↓reduceIte]
            refine call_go F_go17 (fun hG => wakes15_) (by simp [AV.ids, AV.idsL]) (by simp) ?_
            simp only [List.nil_append, List.cons_append, true_and, and_true, zz0, true_implies, Nat.reduceLT, Nat.reduceLeDiff, zzI, look_nil, Nat.reduceBEq, implies_true, evS_call, evC_value, evS_assign, zz6, Nat.reduceEqDiff, ↓reduceIte, atsL, oksG, freeN, AV.ren, AV.renL, addRows, ORow.row, Nat.reduceMul, Nat.reduceAdd, zz9, Option.bind_some, Option.map_some, forall_eq', D.sl.injEq, zz16, Option.some.injEq, exists_eq_left', exists_eq_left, exists_eq', exists_eq, zzD, zz2]
            refine hK4 _ ?_; try clear hK4 K4
            refine awp_keepL [10] ?_
            simp only [zz20, zzI, look_nil, Nat.reduceBEq]
            refine awp_ret ?_
            simp only [zz6, Nat.reduceEqDiff, ↓reduceIte]
            refine done0 (by simp only [resCs, resC]; trivial) ?_ (by simp [flatA, flatAs, flatD]) (by simp [AV.ids, AV.idsL])
            simp only [List.map_cons, List.map_nil, resA, S_getD, Nat.reduceLT, Nat.reduceLeDiff, look_cons, Nat.reduceBEq, cond_true, cond_false, resAll]
            
          · intro hb
            simp only [Bool.or_eq_false_iff, decide_eq_false_iff_not] at hb
            refine awp_skip ?_
            simp only [zz6, Nat.reduceEqDiff, ↓reduceIte]
            refine hK2 _ ?_; try clear hK2 K2
            refine awp_keepL [1, 2, 3, 4, 5, 11, 13, 15, 17, 19] ?_
            simp only [zz20, zzI, look_nil, Nat.reduceBEq]
            refine awp_plain F_mixed [some 93, some 94, some 19] rfl ?_
            simp only [List.nil_append, List.cons_append, true_and, and_true, zz0, true_implies, Nat.reduceLT, Nat.reduceLeDiff, zzI, look_nil, Nat.reduceBEq, implies_true, evS_move, zz21, gr_v, zz26, evS_assign, zz6, Nat.reduceEqDiff, ↓reduceIte]
            refine ⟨2, _, by decide, le_SK id [] rfl (l' := [(1, .d (iv who)), (2, .d (iv cur)), (3, .d (poss l)), (4, .d (poss k)), (5, .ptr 5 0 0), (11, .ptr 11 0 0), (13, .ptr 13 0 0), (15, .d (iv (margV r who cur l))), (17, .d (iv (margV r who cur k))), (19, .d (iv 4))]) (m' := [(5, (⟨True, 26, 3, true, false, 5, [[.d (.sl 3 (r.mems.map memC)), .d (.sl 12 (r.insts.map instC)), .d (.sl 4 (r.assets.map assetC))]]⟩ : ARow)), (11, (⟨True, 31, 6, true, false, 11, [[.d (iv (lossV r who cur l 0)), .d (iv (lossV r who cur l 1)), .d (iv (lossV r who cur l 2)), .d (iv (lossV r who cur l 3)), .d (iv (lossV r who cur l 4)), .d (iv (lossV r who cur l 5))]]⟩ : ARow)), (13, (⟨True, 31, 6, true, false, 13, [[.d (iv (lossV r who cur k 0)), .d (iv (lossV r who cur k 1)), .d (iv (lossV r who cur k 2)), .d (iv (lossV r who cur k 3)), .d (iv (lossV r who cur k 4)), .d (iv (lossV r who cur k 5))]]⟩ : ARow))]) ?_ ?_ ?_ ?_, .inr (.inr (.inr (.inr (.inl (⟨rfl, h0, h1, h2, hb, rfl⟩)))))⟩
            · simp only [leV, look_cons, Nat.reduceBEq, cond_true, cond_false]; exact ⟨VLe.refl _, VLe.refl _, VLe.refl _, VLe.refl _, VLe.refl _, VLe.refl _, VLe.refl _, VLe.refl _, VLe.refl _, VLe.refl _, trivial⟩
            · exact ⟨fun _ => ⟨_, rfl, ⟨id, rfl, rfl, rfl, id, .inl, VLess.refl _⟩⟩, fun h => by simp at h, fun _ => ⟨_, rfl, ⟨id, rfl, rfl, rfl, id, .inl, VLess.refl _⟩⟩, fun h => by simp at h, fun _ => ⟨_, rfl, ⟨id, rfl, rfl, rfl, id, .inl, VLess.refl _⟩⟩, fun h => by simp at h, trivial⟩
            · simp [wfV, AV.ids, AV.idsL, lookR]
            · simp [wfR, AV.idsL, AV.ids]
        · intro hb
          simp at hb
      · skip
        refine awp_seq fun K2 hK2 => ?_
        refine awp_seq fun K3 hK3 => ?_
        refine awp_plain F_mixed [some 91, some 92] rfl ?_
        simp only [List.nil_append, List.cons_append, true_and, and_true, zz0, true_implies, Nat.reduceLT, Nat.reduceLeDiff, zzI, look_nil, Nat.reduceBEq, implies_true, evS_move, zz21, gr_v, zz22, zz6, Nat.reduceEqDiff, ↓reduceIte]
        refine hK3 _ ?_; try clear hK3 K3
        refine awp_keepL [1, 2, 3, 4, 5, 11, 13, 15, 17, 19, 92] ?_
        simp only [zz20, zzI, look_nil, Nat.reduceBEq]
        refine awp_condS _ (by decide) (by simp only [look_cons, Nat.reduceBEq, cond_true, cond_false]; rfl) ?_ ?_
        · intro hb
          clear hb
          refine awp_skip ?_
          simp only [zz6, Nat.reduceEqDiff, ↓reduceIte]
          refine hK2 _ ?_; try clear hK2 K2
          refine awp_keepL [1, 2, 3, 4, 5, 11, 13, 15, 17, 19] ?_
          simp only [zz20, zzI, look_nil, Nat.reduceBEq]
          refine awp_seq fun K2 hK2 => ?_
          refine awp_block ?_
          refine awp_seq fun K3 hK3 => ?_
          refine awp_plain F_mixed [some 95, some 96, some 97, some 98, some 99, some 100, some 101, some 102, some 103, some 104] rfl ?_
          simp only [List.nil_append, List.cons_append, true_and, and_true, zz0, true_implies, Nat.reduceLT, Nat.reduceLeDiff, zzI, look_nil, Nat.reduceBEq, implies_true, Nat.reduceSub, S_getD, zz5, and_imp, imp_and, imp_self, and_self, evS_move, evS_indexAddr, zz23, zz15, F_arr31, F_sz3, zz16, Option.some.injEq, exists_eq_left', exists_eq_left, Option.map_some, eq_self, reduceCtorEq, F_ok3, F_ag3, zz8, zzD, Nat.reduceAdd, Nat.zero_add, zzF, zzB, zzE, zz21, gr_v, zz22, zz13, Int.reduceToNat, Int.reduceLT, Int.reduceLE, cast6, Nat.reduceMul, zz6, Nat.reduceEqDiff, ↓reduceIte]
          refine hK3 _ ?_; try clear hK3 K3
          refine awp_keepL [1, 2, 3, 4, 5, 11, 13, 15, 17, 19, 104] ?_
          simp only [zz20, zzI, look_nil, Nat.reduceBEq]
          refine awp_condS _ (by decide) (by simp only [look_cons, Nat.reduceBEq, cond_true, cond_false]; rfl) ?_ ?_
          · intro hb
            clear hb
            refine awp_seq fun K4 hK4 => ?_
            refine awp_plain F_mixed [some 105, some 10] rfl ?_
            simp only [List.nil_append, List.cons_append, true_and, and_true, zz0, true_implies, Nat.reduceLT, Nat.reduceLeDiff, zzI, look_nil, Nat.reduceBEq, implies_true, evS_call, evC_value, evS_assign, zz6, Nat.reduceEqDiff, ↓reduceIte]
            refine call_go F_go17 (fun hG => wakes15_) (by simp [AV.ids, AV.idsL]) (by simp) ?_
            simp only [List.nil_append, List.cons_append, true_and, and_true, zz0, true_implies, Nat.reduceLT, Nat.reduceLeDiff, zzI, look_nil, Nat.reduceBEq, implies_true, evS_call, evC_value, evS_assign, zz6, Nat.reduceEqDiff, ↓reduceIte, atsL, oksG, freeN, AV.ren, AV.renL, addRows, ORow.row, Nat.reduceMul, Nat.reduceAdd, zz9, Option.bind_some, Option.map_some, forall_eq', D.sl.injEq, zz16, Option.some.injEq, exists_eq_left', exists_eq_left, exists_eq', exists_eq, zzD, zz2]
            refine hK4 _ ?_; try clear hK4 K4
            refine awp_keepL [10] ?_
            simp only [zz20, zzI, look_nil, Nat.reduceBEq]
            refine awp_ret ?_
            simp only [zz6, Nat.reduceEqDiff, ↓reduceIte]
            refine done0 (by simp only [resCs, resC]; trivial) ?_ (by simp [flatA, flatAs, flatD]) (by simp [AV.ids, AV.idsL])
            simp only [List.map_cons, List.map_nil, resA, S_getD, Nat.reduceLT, Nat.reduceLeDiff, look_cons, Nat.reduceBEq, cond_true, cond_false, resAll]
            
          · intro hb
            simp only [Bool.or_eq_false_iff, decide_eq_false_iff_not] at hb
            refine awp_skip ?_
            simp only [zz6, Nat.reduceEqDiff, ↓reduceIte]
            refine hK2 _ ?_; try clear hK2 K2
            refine awp_keepL [1, 2, 3, 4, 5, 11, 13, 15, 17, 19] ?_
            simp only [zz20, zzI, look_nil, Nat.reduceBEq]
            refine awp_plain F_mixed [some 93, some 94, some 19] rfl ?_
            simp only [List.nil_append, List.cons_append, true_and, and_true, zz0, true_implies, Nat.reduceLT, Nat.reduceLeDiff, zzI, look_nil, Nat.reduceBEq, implies_true, evS_move, zz21, gr_v, zz26, evS_assign, zz6, Nat.reduceEqDiff, ↓reduceIte]
            refine ⟨1, _, by decide, le_SK id [] rfl (l' := [(1, .d (iv who)), (2, .d (iv cur)), (3, .d (poss l)), (4, .d (poss k)), (5, .ptr 5 0 0), (11, .ptr 11 0 0), (13, .ptr 13 0 0), (15, .d (iv (margV r who cur l))), (17, .d (iv (margV r who cur k))), (19, .d (iv 5))]) (m' := [(5, (⟨True, 26, 3, true, false, 5, [[.d (.sl 3 (r.mems.map memC)), .d (.sl 12 (r.insts.map instC)), .d (.sl 4 (r.assets.map assetC))]]⟩ : ARow)), (11, (⟨True, 31, 6, true, false, 11, [[.d (iv (lossV r who cur l 0)), .d (iv (lossV r who cur l 1)), .d (iv (lossV r who cur l 2)), .d (iv (lossV r who cur l 3)), .d (iv (lossV r who cur l 4)), .d (iv (lossV r who cur l 5))]]⟩ : ARow)), (13, (⟨True, 31, 6, true, false, 13, [[.d (iv (lossV r who cur k 0)), .d (iv (lossV r who cur k 1)), .d (iv (lossV r who cur k 2)), .d (iv (lossV r who cur k 3)), .d (iv (lossV r who cur k 4)), .d (iv (lossV r who cur k 5))]]⟩ : ARow))]) ?_ ?_ ?_ ?_, .inr (.inr (.inr (.inr (.inr (.inl (⟨rfl, h0, h1, h2, h3, hb, rfl⟩))))))⟩
            · simp only [leV, look_cons, Nat.reduceBEq, cond_true, cond_false]; exact ⟨VLe.refl _, VLe.refl _, VLe.refl _, VLe.refl _, VLe.refl _, VLe.refl _, VLe.refl _, VLe.refl _, VLe.refl _, VLe.refl _, trivial⟩
            · exact ⟨fun _ => ⟨_, rfl, ⟨id, rfl, rfl, rfl, id, .inl, VLess.refl _⟩⟩, fun h => by simp at h, fun _ => ⟨_, rfl, ⟨id, rfl, rfl, rfl, id, .inl, VLess.refl _⟩⟩, fun h => by simp at h, fun _ => ⟨_, rfl, ⟨id, rfl, rfl, rfl, id, .inl, VLess.refl _⟩⟩, fun h => by simp at h, trivial⟩
            · simp [wfV, AV.ids, AV.idsL, lookR]
            · simp [wfR, AV.idsL, AV.ids]
        · intro hb
          simp at hb
      · skip
        refine awp_seq fun K2 hK2 => ?_
        refine awp_seq fun K3 hK3 => ?_
        refine awp_plain F_mixed [some 91, some 92] rfl ?_
        simp only [List.nil_append, List.cons_append, true_and, and_true, zz0, true_implies, Nat.reduceLT, Nat.reduceLeDiff, zzI, look_nil, Nat.reduceBEq, implies_true, evS_move, zz21, gr_v, zz22, zz6, Nat.reduceEqDiff, ↓reduceIte]
        refine hK3 _ ?_; try clear hK3 K3
        refine awp_keepL [1, 2, 3, 4, 5, 11, 13, 15, 17, 19, 92] ?_
        simp only [zz20, zzI, look_nil, Nat.reduceBEq]
        refine awp_condS _ (by decide) (by simp only [look_cons, Nat.reduceBEq, cond_true, cond_false]; rfl) ?_ ?_
        · intro hb
          clear hb
          refine awp_skip ?_
          simp only [zz6, Nat.reduceEqDiff, ↓reduceIte]
          refine hK2 _ ?_; try clear hK2 K2
          refine awp_keepL [1, 2, 3, 4, 5, 11, 13, 15, 17, 19] ?_
          simp only [zz20, zzI, look_nil, Nat.reduceBEq]
          refine awp_seq fun K2 hK2 => ?_
          refine awp_block ?_
          refine awp_seq fun K3 hK3 => ?_
          refine awp_plain F_mixed [some 95, some 96, some 97, some 98, some 99, some 100, some 101, some 102, some 103, some 104] rfl ?_
          simp only [List.nil_append, List.cons_append, true_and, and_true, zz0, true_implies, Nat.reduceLT, Nat.reduceLeDiff, zzI, look_nil, Nat.reduceBEq, implies_true, Nat.reduceSub, S_getD, zz5, and_imp, imp_and, imp_self, and_self, evS_move, evS_indexAddr, zz23, zz15, F_arr31, F_sz3, zz16, Option.some.injEq, exists_eq_left', exists_eq_left, Option.map_some, eq_self, reduceCtorEq, F_ok3, F_ag3, zz8, zzD, Nat.reduceAdd, Nat.zero_add, zzF, zzB, zzE, zz21, gr_v, zz22, zz13, Int.reduceToNat, Int.reduceLT, Int.reduceLE, cast6, Nat.reduceMul, zz6, Nat.reduceEqDiff, ↓reduceIte]
          refine hK3 _ ?_; try clear hK3 K3
          refine awp_keepL [1, 2, 3, 4, 5, 11, 13, 15, 17, 19, 104] ?_
          simp only [zz20, zzI, look_nil, Nat.reduceBEq]
          refine awp_condS _ (by decide) (by simp only [look_cons, Nat.reduceBEq, cond_true, cond_false]; rfl) ?_ ?_
          · intro hb
            clear hb
            refine awp_seq fun K4 hK4 => ?_
            refine awp_plain F_mixed [some 105, some 10] rfl ?_
            simp only [List.nil_append, List.cons_append, true_and, and_true, zz0, true_implies, Nat.reduceLT, Nat.reduceLeDiff, zzI, look_nil, Nat.reduceBEq, implies_true, evS_call, evC_value, evS_assign, zz6, Nat.reduceEqDiff, ↓reduceIte]
            refine call_go F_go17 (fun hG => wakes15_) (by simp [AV.ids, AV.idsL]) (by simp) ?_
            simp only [List.nil_append, List.cons_append, true_and, and_true, zz0, true_implies, Nat.reduceLT, Nat.reduceLeDiff, zzI, look_nil, Nat.reduceBEq, implies_true, evS_call, evC_value, evS_assign, zz6, Nat.reduceEqDiff, ↓reduceIte, atsL, oksG, freeN, AV.ren, AV.renL, addRows, ORow.row, Nat.reduceMul, Nat.reduceAdd, zz9, Option.bind_some, Option.map_some, forall_eq', D.sl.injEq, zz16, Option.some.injEq, exists_eq_left', exists_eq_left, exists_eq', exists_eq, zzD, zz2]
            refine hK4 _ ?_; try clear hK4 K4
            refine awp_keepL [10] ?_
            simp only [zz20, zzI, look_nil, Nat.reduceBEq]
            refine awp_ret ?_
            simp only [zz6, Nat.reduceEqDiff, ↓reduceIte]
            refine done0 (by simp only [resCs, resC]; trivial) ?_ (by simp [flatA, flatAs, flatD]) (by simp [AV.ids, AV.idsL])
            simp only [List.map_cons, List.map_nil, resA, S_getD, Nat.reduceLT, Nat.reduceLeDiff, look_cons, Nat.reduceBEq, cond_true, cond_false, resAll]
            
          · intro hb
            simp only [Bool.or_eq_false_iff, decide_eq_false_iff_not] at hb
            refine awp_skip ?_
            simp only [zz6, Nat.reduceEqDiff, ↓reduceIte]
            refine hK2 _ ?_; try clear hK2 K2
            refine awp_keepL [1, 2, 3, 4, 5, 11, 13, 15, 17, 19] ?_
            simp only [zz20, zzI, look_nil, Nat.reduceBEq]
            refine awp_plain F_mixed [some 93, some 94, some 19] rfl ?_
            simp only [List.nil_append, List.cons_append, true_and, and_true, zz0, true_implies, Nat.reduceLT, Nat.reduceLeDiff, zzI, look_nil, Nat.reduceBEq, implies_true, evS_move, zz21, gr_v, zz26, evS_assign, zz6, Nat.reduceEqDiff, ↓reduceIte]
            refine ⟨0, _, by decide, le_SK id [] rfl (l' := [(1, .d (iv who)), (2, .d (iv cur)), (3, .d (poss l)), (4, .d (poss k)), (5, .ptr 5 0 0), (11, .ptr 11 0 0), (13, .ptr 13 0 0), (15, .d (iv (margV r who cur l))), (17, .d (iv (margV r who cur k))), (19, .d (iv 6))]) (m' := [(5, (⟨True, 26, 3, true, false, 5, [[.d (.sl 3 (r.mems.map memC)), .d (.sl 12 (r.insts.map instC)), .d (.sl 4 (r.assets.map assetC))]]⟩ : ARow)), (11, (⟨True, 31, 6, true, false, 11, [[.d (iv (lossV r who cur l 0)), .d (iv (lossV r who cur l 1)), .d (iv (lossV r who cur l 2)), .d (iv (lossV r who cur l 3)), .d (iv (lossV r who cur l 4)), .d (iv (lossV r who cur l 5))]]⟩ : ARow)), (13, (⟨True, 31, 6, true, false, 13, [[.d (iv (lossV r who cur k 0)), .d (iv (lossV r who cur k 1)), .d (iv (lossV r who cur k 2)), .d (iv (lossV r who cur k 3)), .d (iv (lossV r who cur k 4)), .d (iv (lossV r who cur k 5))]]⟩ : ARow))]) ?_ ?_ ?_ ?_, .inr (.inr (.inr (.inr (.inr (.inr (⟨rfl, h0, h1, h2, h3, h4, hb, rfl⟩))))))⟩
            · simp only [leV, look_cons, Nat.reduceBEq, cond_true, cond_false]; exact ⟨VLe.refl _, VLe.refl _, VLe.refl _, VLe.refl _, VLe.refl _, VLe.refl _, VLe.refl _, VLe.refl _, VLe.refl _, VLe.refl _, trivial⟩
            · exact ⟨fun _ => ⟨_, rfl, ⟨id, rfl, rfl, rfl, id, .inl, VLess.refl _⟩⟩, fun h => by simp at h, fun _ => ⟨_, rfl, ⟨id, rfl, rfl, rfl, id, .inl, VLess.refl _⟩⟩, fun h => by simp at h, fun _ => ⟨_, rfl, ⟨id, rfl, rfl, rfl, id, .inl, VLess.refl _⟩⟩, fun h => by simp at h, trivial⟩
            · simp [wfV, AV.ids, AV.idsL, lookR]
            · simp [wfR, AV.idsL, AV.ids]
        · intro hb
          simp at hb
      · skip
        refine awp_seq fun K2 hK2 => ?_
        refine awp_seq fun K3 hK3 => ?_
        refine awp_plain F_mixed [some 91, some 92] rfl ?_
        simp only [List.nil_append, List.cons_append, true_and, and_true, zz0, true_implies, Nat.reduceLT, Nat.reduceLeDiff, zzI, look_nil, Nat.reduceBEq, implies_true, evS_move, zz21, gr_v, zz22, zz6, Nat.reduceEqDiff, ↓reduceIte]
        refine hK3 _ ?_; try clear hK3 K3
        refine awp_keepL [1, 2, 3, 4, 5, 11, 13, 15, 17, 19, 92] ?_
        simp only [zz20, zzI, look_nil, Nat.reduceBEq]
        refine awp_condS _ (by decide) (by simp only [look_cons, Nat.reduceBEq, cond_true, cond_false]; rfl) ?_ ?_
        · intro hb
          simp at hb
        · intro hb
          clear hb
          obtain ⟨c1, c2, c3, c4⟩ := joins_law q1 q2 q3 q4 (by omega) (by omega) (six (by omega) (by omega) (by omega) (by omega) (by omega) (by omega)) (six (by omega) (by omega) (by omega) (by omega) (by omega) (by omega))
          refine awp_exit ?_
          simp only [zz6, Nat.reduceEqDiff, ↓reduceIte]
          refine hK0 _ ?_; try clear hK0 K0
          refine awp_keepL [1, 2, 3, 4, 5, 11, 13, 15, 17] ?_
          simp only [zz20, zzI, look_nil, Nat.reduceBEq]
          refine awp_seq fun K0 hK0 => ?_
          refine awp_plain F_mixed [some 106, some 107, some 108, some 109, some 20] rfl ?_
          simp only [List.nil_append, List.cons_append, true_and, and_true, zz0, true_implies, Nat.reduceLT, Nat.reduceLeDiff, zzI, look_nil, Nat.reduceBEq, implies_true, evS_move, evS_call, evC_value, F_sl27, F_zero46, F_sz46, F_by46, zz4, maxLen_le, Nat.reduceMul, newRow1, zz9, Option.bind_some, Option.map_some, zz16, Option.some.injEq, exists_eq_left', exists_eq_left, eq_self, reduceCtorEq, and_self, zzD, Nat.reduceAdd, Nat.zero_add, zzF, zzB, zzE, evS_assign, poss, len_map, zz6, Nat.reduceEqDiff, ↓reduceIte]
          refine call_go F_go10 (fun hG => twinPoss_ l (by omega)) (by simp [AV.ids, AV.idsL]) (by simp) ?_
          simp only [List.nil_append, List.cons_append, true_and, and_true, zz0, true_implies, Nat.reduceLT, Nat.reduceLeDiff, zzI, look_nil, Nat.reduceBEq, implies_true, evS_move, evS_call, evC_value, F_sl27, F_zero46, F_sz46, F_by46, zz4, maxLen_le, Nat.reduceMul, newRow1, zz9, Option.bind_some, Option.map_some, zz16, Option.some.injEq, exists_eq_left', exists_eq_left, eq_self, reduceCtorEq, and_self, zzD, Nat.reduceAdd, Nat.zero_add, zzF, zzB, zzE, evS_assign, poss, len_map, zz6, Nat.reduceEqDiff, ↓reduceIte, atsL, oksG, freeN, AV.ren, AV.renL, addRows, ORow.row, Nat.reduceMul, Nat.reduceAdd, unDs_cons, Option.bind_some, Option.map_some, forall_eq', D.sl.injEq, S_mem, Option.some.injEq, exists_eq_left', exists_eq_left, exists_eq', exists_eq, List.length_cons, zz2]
          have hm : l.length + k.length ≤ 1000000 := by omega
          first | refine ⟨le_maxLen hm, by omega, ?_⟩ | refine ⟨by simp, le_maxLen hm, by omega, ?_⟩
          clear hm
          refine hK0 _ ?_; try clear hK0 K0
          refine awp_keepL [1, 2, 5, 11, 13, 15, 17, 20] ?_
          simp only [zz20, zzI, look_nil, Nat.reduceBEq]
          refine awp_seq fun K0 hK0 => ?_
          refine awp_plain F_mixed [some 111, some 112, some 113, some 114, some 115, some 110, some 116, some 117, some 21, none, some 12] rfl ?_
          simp only [List.nil_append, List.cons_append, true_and, and_true, zz0, true_implies, Nat.reduceLT, Nat.reduceLeDiff, zzI, look_nil, Nat.reduceBEq, implies_true, F_ok26, F_ag26, F_sz26, zz8, zz23, zzD, Nat.reduceAdd, Nat.zero_add, zzF, zzB, zzE, zz16, Option.some.injEq, exists_eq_left', exists_eq_left, Option.map_some, eq_self, reduceCtorEq, and_self, evS_move, evS_call, evC_value, zz14, zz32, newRow1, F_zero31, zz10, zz18, F_ok31, F_sz31, splice, List.append_nil, zz1, zzG, evS_assign, poss, lossA, posC_app, List.length_append, len_map, memsD, instsD, assetsD, rollC, D.agg.injEq, memA, memC, instA, instC, List.map_cons, zz6, Nat.reduceEqDiff, ↓reduceIte]
          refine call_go F_go11 (fun hG => Losses_ r who cur (l ++ k) h (by simp; omega)) (by simp [AV.ids, AV.idsL, lossA]) (by simp) ?_
          simp only [List.nil_append, List.cons_append, true_and, and_true, zz0, true_implies, Nat.reduceLT, Nat.reduceLeDiff, zzI, look_nil, Nat.reduceBEq, implies_true, F_ok26, F_ag26, F_sz26, zz8, zz23, zzD, Nat.reduceAdd, Nat.zero_add, zzF, zzB, zzE, zz16, Option.some.injEq, exists_eq_left', exists_eq_left, Option.map_some, eq_self, reduceCtorEq, and_self, evS_move, evS_call, evC_value, zz14, zz32, newRow1, F_zero31, zz10, zz18, F_ok31, F_sz31, splice, List.append_nil, zz1, zzG, evS_assign, poss, lossA, posC_app, List.length_append, len_map, memsD, instsD, assetsD, rollC, D.agg.injEq, memA, memC, instA, instC, List.map_cons, zz6, Nat.reduceEqDiff, ↓reduceIte, atsL, oksG, freeN, AV.ren, AV.renL, addRows, ORow.row, Nat.reduceMul, Nat.reduceAdd, zz9, Option.bind_some, Option.map_some, forall_eq', D.sl.injEq, S_mem, Option.some.injEq, exists_eq_left', exists_eq_left, exists_eq', exists_eq, List.length_cons, zz2]
          refine hK0 _ ?_; try clear hK0 K0
          refine awp_keepL [1, 2, 5, 11, 12, 13, 15, 17, 20, 21] ?_
          simp only [zz20, zzI, look_nil, Nat.reduceBEq]
          refine awp_seq fun K0 hK0 => ?_
          refine awp_plain F_mixed [some 119, some 120, some 121, some 122, some 123, some 118, some 124, some 125, some 22, some 14] rfl ?_
          simp only [List.nil_append, List.cons_append, true_and, and_true, zz0, true_implies, Nat.reduceLT, Nat.reduceLeDiff, zzI, look_nil, Nat.reduceBEq, implies_true, F_ok26, F_ag26, F_sz26, zz8, zz23, zzD, Nat.reduceAdd, Nat.zero_add, zzF, zzB, zzE, zz16, Option.some.injEq, exists_eq_left', exists_eq_left, Option.map_some, eq_self, reduceCtorEq, and_self, evS_move, evS_call, evC_value, zz14, evS_assign, poss, posC_app, List.length_append, len_map, memsD, instsD, assetsD, rollC, D.agg.injEq, memA, memC, instA, instC, zzG, zz6, Nat.reduceEqDiff, ↓reduceIte]
          refine call_go F_go13 (fun hG => Margin_ r who cur (l ++ k) h (by simp; omega)) (by simp [AV.ids, AV.idsL]) (by simp) ?_
          simp only [List.nil_append, List.cons_append, true_and, and_true, zz0, true_implies, Nat.reduceLT, Nat.reduceLeDiff, zzI, look_nil, Nat.reduceBEq, implies_true, F_ok26, F_ag26, F_sz26, zz8, zz23, zzD, Nat.reduceAdd, Nat.zero_add, zzF, zzB, zzE, zz16, Option.some.injEq, exists_eq_left', exists_eq_left, Option.map_some, eq_self, reduceCtorEq, and_self, evS_move, evS_call, evC_value, zz14, evS_assign, poss, posC_app, List.length_append, len_map, memsD, instsD, assetsD, rollC, D.agg.injEq, memA, memC, instA, instC, zzG, zz6, Nat.reduceEqDiff, ↓reduceIte, atsL, oksG, freeN, AV.ren, AV.renL, addRows, ORow.row, Nat.reduceMul, Nat.reduceAdd, zz9, Option.bind_some, Option.map_some, forall_eq', D.sl.injEq, S_mem, Option.some.injEq, exists_eq_left', exists_eq_left, exists_eq', exists_eq, List.length_cons, zz2]
          refine hK0 _ ?_; try clear hK0 K0
          refine awp_keepL [11, 12, 13, 14, 15, 17, 21, 22] ?_
          simp only [zz20, zzI, look_nil, Nat.reduceBEq]
          refine awp_seq fun K0 hK0 => ?_
          refine awp_seq fun K1 hK1 => ?_
          refine awp_plain F_mixed [some 126, some 127, some 128, some 129, some 130, some 131, some 132, some 133, some 134, some 135, some 136, some 137, some 138] rfl ?_
          simp only [List.nil_append, List.cons_append, true_and, and_true, zz0, true_implies, Nat.reduceLT, Nat.reduceLeDiff, zzI, look_nil, Nat.reduceBEq, implies_true, Nat.reduceSub, S_getD, zz5, and_imp, imp_and, imp_self, and_self, evS_move, zz21, gr_v, zz28, zz13, zz26, zz25, zz6, Nat.reduceEqDiff, ↓reduceIte]
          refine hK1 _ ?_; try clear hK1 K1
          refine awp_keepL [11, 13, 21, 138] ?_
          simp only [zz20, zzI, look_nil, Nat.reduceBEq]
          refine awp_condS _ (by decide) (by simp only [look_cons, Nat.reduceBEq, cond_true, cond_false]; rfl) ?_ ?_
          · intro hb
            rw [c1, c2] at hb; simp at hb; omega
          · intro hb
            clear hb
            refine awp_skip ?_
            simp only [zz6, Nat.reduceEqDiff, ↓reduceIte]
            refine hK0 _ ?_; try clear hK0 K0
            refine awp_keepL [11, 13, 21] ?_
            simp only [zz20, zzI, look_nil, Nat.reduceBEq]
            refine awp_seq fun K0 hK0 => ?_
            refine awp_seq fun K1 hK1 => ?_
            refine awp_plain F_mixed [some 23] rfl ?_
            simp only [List.nil_append, List.cons_append, true_and, and_true, zz0, true_implies, Nat.reduceLT, Nat.reduceLeDiff, zzI, look_nil, Nat.reduceBEq, implies_true, evS_assign, zz6, Nat.reduceEqDiff, ↓reduceIte]
            refine hK1 _ ?_; try clear hK1 K1
            refine awp_keepL [11, 13, 21, 23] ?_
            simp only [zz20, zzI, look_nil, Nat.reduceBEq]
            refine awp_block ?_
            refine awp_loop (fun m s => (m = 6 ∧ s = S 155 [(11, .ptr 11 0 0), (13, .ptr 13 0 0), (21, .ptr 21 0 0), (23, .d (iv 0))] [(11, (⟨True, 31, 6, true, false, 11, [[.d (iv (lossV r who cur l 0)), .d (iv (lossV r who cur l 1)), .d (iv (lossV r who cur l 2)), .d (iv (lossV r who cur l 3)), .d (iv (lossV r who cur l 4)), .d (iv (lossV r who cur l 5))]]⟩ : ARow)), (13, (⟨True, 31, 6, true, false, 13, [[.d (iv (lossV r who cur k 0)), .d (iv (lossV r who cur k 1)), .d (iv (lossV r who cur k 2)), .d (iv (lossV r who cur k 3)), .d (iv (lossV r who cur k 4)), .d (iv (lossV r who cur k 5))]]⟩ : ARow)), (21, (⟨True, 31, 6, true, false, 21, [[.d (iv (lossV r who cur (l ++ k) 0)), .d (iv (lossV r who cur (l ++ k) 1)), .d (iv (lossV r who cur (l ++ k) 2)), .d (iv (lossV r who cur (l ++ k) 3)), .d (iv (lossV r who cur (l ++ k) 4)), .d (iv (lossV r who cur (l ++ k) 5))]]⟩ : ARow))]) ∨ (m = 5 ∧ s = S 155 [(11, .ptr 11 0 0), (13, .ptr 13 0 0), (21, .ptr 21 0 0), (23, .d (iv 1))] [(11, (⟨True, 31, 6, true, false, 11, [[.d (iv (lossV r who cur l 0)), .d (iv (lossV r who cur l 1)), .d (iv (lossV r who cur l 2)), .d (iv (lossV r who cur l 3)), .d (iv (lossV r who cur l 4)), .d (iv (lossV r who cur l 5))]]⟩ : ARow)), (13, (⟨True, 31, 6, true, false, 13, [[.d (iv (lossV r who cur k 0)), .d (iv (lossV r who cur k 1)), .d (iv (lossV r who cur k 2)), .d (iv (lossV r who cur k 3)), .d (iv (lossV r who cur k 4)), .d (iv (lossV r who cur k 5))]]⟩ : ARow)), (21, (⟨True, 31, 6, true, false, 21, [[.d (iv (lossV r who cur (l ++ k) 0)), .d (iv (lossV r who cur (l ++ k) 1)), .d (iv (lossV r who cur (l ++ k) 2)), .d (iv (lossV r who cur (l ++ k) 3)), .d (iv (lossV r who cur (l ++ k) 4)), .d (iv (lossV r who cur (l ++ k) 5))]]⟩ : ARow))]) ∨ (m = 4 ∧ s = S 155 [(11, .ptr 11 0 0), (13, .ptr 13 0 0), (21, .ptr 21 0 0), (23, .d (iv 2))] [(11, (⟨True, 31, 6, true, false, 11, [[.d (iv (lossV r who cur l 0)), .d (iv (lossV r who cur l 1)), .d (iv (lossV r who cur l 2)), .d (iv (lossV r who cur l 3)), .d (iv (lossV r who cur l 4)), .d (iv (lossV r who cur l 5))]]⟩ : ARow)), (13, (⟨True, 31, 6, true, false, 13, [[.d (iv (lossV r who cur k 0)), .d (iv (lossV r who cur k 1)), .d (iv (lossV r who cur k 2)), .d (iv (lossV r who cur k 3)), .d (iv (lossV r who cur k 4)), .d (iv (lossV r who cur k 5))]]⟩ : ARow)), (21, (⟨True, 31, 6, true, false, 21, [[.d (iv (lossV r who cur (l ++ k) 0)), .d (iv (lossV r who cur (l ++ k) 1)), .d (iv (lossV r who cur (l ++ k) 2)), .d (iv (lossV r who cur (l ++ k) 3)), .d (iv (lossV r who cur (l ++ k) 4)), .d (iv (lossV r who cur (l ++ k) 5))]]⟩ : ARow))]) ∨ (m = 3 ∧ s = S 155 [(11, .ptr 11 0 0), (13, .ptr 13 0 0), (21, .ptr 21 0 0), (23, .d (iv 3))] [(11, (⟨True, 31, 6, true, false, 11, [[.d (iv (lossV r who cur l 0)), .d (iv (lossV r who cur l 1)), .d (iv (lossV r who cur l 2)), .d (iv (lossV r who cur l 3)), .d (iv (lossV r who cur l 4)), .d (iv (lossV r who cur l 5))]]⟩ : ARow)), (13, (⟨True, 31, 6, true, false, 13, [[.d (iv (lossV r who cur k 0)), .d (iv (lossV r who cur k 1)), .d (iv (lossV r who cur k 2)), .d (iv (lossV r who cur k 3)), .d (iv (lossV r who cur k 4)), .d (iv (lossV r who cur k 5))]]⟩ : ARow)), (21, (⟨True, 31, 6, true, false, 21, [[.d (iv (lossV r who cur (l ++ k) 0)), .d (iv (lossV r who cur (l ++ k) 1)), .d (iv (lossV r who cur (l ++ k) 2)), .d (iv (lossV r who cur (l ++ k) 3)), .d (iv (lossV r who cur (l ++ k) 4)), .d (iv (lossV r who cur (l ++ k) 5))]]⟩ : ARow))]) ∨ (m = 2 ∧ s = S 155 [(11, .ptr 11 0 0), (13, .ptr 13 0 0), (21, .ptr 21 0 0), (23, .d (iv 4))] [(11, (⟨True, 31, 6, true, false, 11, [[.d (iv (lossV r who cur l 0)), .d (iv (lossV r who cur l 1)), .d (iv (lossV r who cur l 2)), .d (iv (lossV r who cur l 3)), .d (iv (lossV r who cur l 4)), .d (iv (lossV r who cur l 5))]]⟩ : ARow)), (13, (⟨True, 31, 6, true, false, 13, [[.d (iv (lossV r who cur k 0)), .d (iv (lossV r who cur k 1)), .d (iv (lossV r who cur k 2)), .d (iv (lossV r who cur k 3)), .d (iv (lossV r who cur k 4)), .d (iv (lossV r who cur k 5))]]⟩ : ARow)), (21, (⟨True, 31, 6, true, false, 21, [[.d (iv (lossV r who cur (l ++ k) 0)), .d (iv (lossV r who cur (l ++ k) 1)), .d (iv (lossV r who cur (l ++ k) 2)), .d (iv (lossV r who cur (l ++ k) 3)), .d (iv (lossV r who cur (l ++ k) 4)), .d (iv (lossV r who cur (l ++ k) 5))]]⟩ : ARow))]) ∨ (m = 1 ∧ s = S 155 [(11, .ptr 11 0 0), (13, .ptr 13 0 0), (21, .ptr 21 0 0), (23, .d (iv 5))] [(11, (⟨True, 31, 6, true, false, 11, [[.d (iv (lossV r who cur l 0)), .d (iv (lossV r who cur l 1)), .d (iv (lossV r who cur l 2)), .d (iv (lossV r who cur l 3)), .d (iv (lossV r who cur l 4)), .d (iv (lossV r who cur l 5))]]⟩ : ARow)), (13, (⟨True, 31, 6, true, false, 13, [[.d (iv (lossV r who cur k 0)), .d (iv (lossV r who cur k 1)), .d (iv (lossV r who cur k 2)), .d (iv (lossV r who cur k 3)), .d (iv (lossV r who cur k 4)), .d (iv (lossV r who cur k 5))]]⟩ : ARow)), (21, (⟨True, 31, 6, true, false, 21, [[.d (iv (lossV r who cur (l ++ k) 0)), .d (iv (lossV r who cur (l ++ k) 1)), .d (iv (lossV r who cur (l ++ k) 2)), .d (iv (lossV r who cur (l ++ k) 3)), .d (iv (lossV r who cur (l ++ k) 4)), .d (iv (lossV r who cur (l ++ k) 5))]]⟩ : ARow))]) ∨ (m = 0 ∧ s = S 155 [(11, .ptr 11 0 0), (13, .ptr 13 0 0), (21, .ptr 21 0 0), (23, .d (iv 6))] [(11, (⟨True, 31, 6, true, false, 11, [[.d (iv (lossV r who cur l 0)), .d (iv (lossV r who cur l 1)), .d (iv (lossV r who cur l 2)), .d (iv (lossV r who cur l 3)), .d (iv (lossV r who cur l 4)), .d (iv (lossV r who cur l 5))]]⟩ : ARow)), (13, (⟨True, 31, 6, true, false, 13, [[.d (iv (lossV r who cur k 0)), .d (iv (lossV r who cur k 1)), .d (iv (lossV r who cur k 2)), .d (iv (lossV r who cur k 3)), .d (iv (lossV r who cur k 4)), .d (iv (lossV r who cur k 5))]]⟩ : ARow)), (21, (⟨True, 31, 6, true, false, 21, [[.d (iv (lossV r who cur (l ++ k) 0)), .d (iv (lossV r who cur (l ++ k) 1)), .d (iv (lossV r who cur (l ++ k) 2)), .d (iv (lossV r who cur (l ++ k) 3)), .d (iv (lossV r who cur (l ++ k) 4)), .d (iv (lossV r who cur (l ++ k) 5))]]⟩ : ARow))])) 6 _ (le_SK id [] rfl (l' := [(11, .ptr 11 0 0), (13, .ptr 13 0 0), (21, .ptr 21 0 0), (23, .d (iv 0))]) (m' := [(11, (⟨True, 31, 6, true, false, 11, [[.d (iv (lossV r who cur l 0)), .d (iv (lossV r who cur l 1)), .d (iv (lossV r who cur l 2)), .d (iv (lossV r who cur l 3)), .d (iv (lossV r who cur l 4)), .d (iv (lossV r who cur l 5))]]⟩ : ARow)), (13, (⟨True, 31, 6, true, false, 13, [[.d (iv (lossV r who cur k 0)), .d (iv (lossV r who cur k 1)), .d (iv (lossV r who cur k 2)), .d (iv (lossV r who cur k 3)), .d (iv (lossV r who cur k 4)), .d (iv (lossV r who cur k 5))]]⟩ : ARow)), (21, (⟨True, 31, 6, true, false, 21, [[.d (iv (lossV r who cur (l ++ k) 0)), .d (iv (lossV r who cur (l ++ k) 1)), .d (iv (lossV r who cur (l ++ k) 2)), .d (iv (lossV r who cur (l ++ k) 3)), .d (iv (lossV r who cur (l ++ k) 4)), .d (iv (lossV r who cur (l ++ k) 5))]]⟩ : ARow))]) ?_ ?_ ?_ ?_) (.inl (⟨rfl, rfl⟩)) ?_
            · simp only [leV, look_cons, Nat.reduceBEq, cond_true, cond_false]; exact ⟨VLe.refl _, VLe.refl _, VLe.refl _, VLe.refl _, trivial⟩
            · exact ⟨fun _ => ⟨_, rfl, ⟨id, rfl, rfl, rfl, id, .inl, VLess.refl _⟩⟩, fun h => by simp at h, fun _ => ⟨_, rfl, ⟨id, rfl, rfl, rfl, id, .inl, VLess.refl _⟩⟩, fun h => by simp at h, fun _ => ⟨_, rfl, ⟨id, rfl, rfl, rfl, id, .inl, VLess.refl _⟩⟩, fun h => by simp at h, trivial⟩
            · simp [wfV, AV.ids, AV.idsL, lookR]
            · simp [wfR, AV.idsL, AV.ids]
            rintro m s (⟨rfl, rfl⟩ | ⟨rfl, rfl⟩ | ⟨rfl, rfl⟩ | ⟨rfl, rfl⟩ | ⟨rfl, rfl⟩ | ⟨rfl, rfl⟩ | ⟨rfl, rfl⟩)
            · skip
              refine awp_seq fun K2 hK2 => ?_
              refine awp_seq fun K3 hK3 => ?_
              refine awp_plain F_mixed [some 139, some 140] rfl ?_
              simp only [List.nil_append, List.cons_append, true_and, and_true, zz0, true_implies, Nat.reduceLT, Nat.reduceLeDiff, zzI, look_nil, Nat.reduceBEq, implies_true, evS_move, zz21, gr_v, zz22, zz6, Nat.reduceEqDiff, ↓reduceIte]
              refine hK3 _ ?_; try clear hK3 K3
              refine awp_keepL [11, 13, 21, 23, 140] ?_
              simp only [zz20, zzI, look_nil, Nat.reduceBEq]
              refine awp_condS _ (by decide) (by simp only [look_cons, Nat.reduceBEq, cond_true, cond_false]; rfl) ?_ ?_
              · intro hb
                clear hb
                refine awp_skip ?_
                simp only [zz6, Nat.reduceEqDiff, ↓reduceIte]
                refine hK2 _ ?_; try clear hK2 K2
                refine awp_keepL [11, 13, 21, 23] ?_
                simp only [zz20, zzI, look_nil, Nat.reduceBEq]
                refine awp_seq fun K2 hK2 => ?_
                refine awp_block ?_
                refine awp_seq fun K3 hK3 => ?_
                refine awp_draw F_mixed [some 143, some 144, some 145, some 146, some 147, some 148, some 149, some 150, some 151, some 152, some 153] rfl (by kernel_rfl) ?_
                simp only [List.nil_append, List.cons_append, true_and, and_true, zz0, true_implies, Nat.reduceLT, Nat.reduceLeDiff, zzI, look_nil, Nat.reduceBEq, implies_true, evS_move, evS_indexAddr, zz23, zz15, F_arr31, F_sz3, zz16, Option.some.injEq, exists_eq_left', exists_eq_left, Option.map_some, eq_self, reduceCtorEq, and_self, F_ok3, F_ag3, zz8, zzD, Nat.reduceAdd, Nat.zero_add, zzF, zzB, zzE, zz21, gr_v, zz26, zz28, Int.reduceToNat, Int.reduceLT, Int.reduceLE, cast6, Nat.reduceMul, zz6, Nat.reduceEqDiff, ↓reduceIte]
                refine hK3 _ ?_; try clear hK3 K3
                refine awp_keepL [11, 13, 21, 23, 153] ?_
                simp only [zz20, zzI, look_nil, Nat.reduceBEq]
                refine awp_condS _ (by decide) (by simp only [look_cons, Nat.reduceBEq, cond_true, cond_false]; rfl) ?_ ?_
                · intro hb
                  simp [c4 0 (by omega)] at hb
                · intro hb
                  clear hb
                  refine awp_skip ?_
                  simp only [zz6, Nat.reduceEqDiff, ↓reduceIte]
                  refine hK2 _ ?_; try clear hK2 K2
                  refine awp_keepL [11, 13, 21, 23] ?_
                  simp only [zz20, zzI, look_nil, Nat.reduceBEq]
                  refine awp_plain F_mixed [some 141, some 142, some 23] rfl ?_
                  simp only [List.nil_append, List.cons_append, true_and, and_true, zz0, true_implies, Nat.reduceLT, Nat.reduceLeDiff, zzI, look_nil, Nat.reduceBEq, implies_true, evS_move, zz21, gr_v, zz26, evS_assign, zz6, Nat.reduceEqDiff, ↓reduceIte]
                  refine ⟨5, _, by decide, le_SK id [] rfl (l' := [(11, .ptr 11 0 0), (13, .ptr 13 0 0), (21, .ptr 21 0 0), (23, .d (iv 1))]) (m' := [(11, (⟨True, 31, 6, true, false, 11, [[.d (iv (lossV r who cur l 0)), .d (iv (lossV r who cur l 1)), .d (iv (lossV r who cur l 2)), .d (iv (lossV r who cur l 3)), .d (iv (lossV r who cur l 4)), .d (iv (lossV r who cur l 5))]]⟩ : ARow)), (13, (⟨True, 31, 6, true, false, 13, [[.d (iv (lossV r who cur k 0)), .d (iv (lossV r who cur k 1)), .d (iv (lossV r who cur k 2)), .d (iv (lossV r who cur k 3)), .d (iv (lossV r who cur k 4)), .d (iv (lossV r who cur k 5))]]⟩ : ARow)), (21, (⟨True, 31, 6, true, false, 21, [[.d (iv (lossV r who cur (l ++ k) 0)), .d (iv (lossV r who cur (l ++ k) 1)), .d (iv (lossV r who cur (l ++ k) 2)), .d (iv (lossV r who cur (l ++ k) 3)), .d (iv (lossV r who cur (l ++ k) 4)), .d (iv (lossV r who cur (l ++ k) 5))]]⟩ : ARow))]) ?_ ?_ ?_ ?_, .inr (.inl (⟨rfl, rfl⟩))⟩
                  · simp only [leV, look_cons, Nat.reduceBEq, cond_true, cond_false]; exact ⟨VLe.refl _, VLe.refl _, VLe.refl _, VLe.refl _, trivial⟩
                  · exact ⟨fun _ => ⟨_, rfl, ⟨id, rfl, rfl, rfl, id, .inl, VLess.refl _⟩⟩, fun h => by simp at h, fun _ => ⟨_, rfl, ⟨id, rfl, rfl, rfl, id, .inl, VLess.refl _⟩⟩, fun h => by simp at h, fun _ => ⟨_, rfl, ⟨id, rfl, rfl, rfl, id, .inl, VLess.refl _⟩⟩, fun h => by simp at h, trivial⟩
                  · simp [wfV, AV.ids, AV.idsL, lookR]
                  · simp [wfR, AV.idsL, AV.ids]
              · intro hb
                simp at hb
            · skip
              refine awp_seq fun K2 hK2 => ?_
              refine awp_seq fun K3 hK3 => ?_
              refine awp_plain F_mixed [some 139, some 140] rfl ?_
              simp only [List.nil_append, List.cons_append, true_and, and_true, zz0, true_implies, Nat.reduceLT, Nat.reduceLeDiff, zzI, look_nil, Nat.reduceBEq, implies_true, evS_move, zz21, gr_v, zz22, zz6, Nat.reduceEqDiff, ↓reduceIte]
              refine hK3 _ ?_; try clear hK3 K3
              refine awp_keepL [11, 13, 21, 23, 140] ?_
              simp only [zz20, zzI, look_nil, Nat.reduceBEq]
              refine awp_condS _ (by decide) (by simp only [look_cons, Nat.reduceBEq, cond_true, cond_false]; rfl) ?_ ?_
              · intro hb
                clear hb
                refine awp_skip ?_
                simp only [zz6, Nat.reduceEqDiff, ↓reduceIte]
                refine hK2 _ ?_; try clear hK2 K2
                refine awp_keepL [11, 13, 21, 23] ?_
                simp only [zz20, zzI, look_nil, Nat.reduceBEq]
                refine awp_seq fun K2 hK2 => ?_
                refine awp_block ?_
                refine awp_seq fun K3 hK3 => ?_
                refine awp_draw F_mixed [some 143, some 144, some 145, some 146, some 147, some 148, some 149, some 150, some 151, some 152, some 153] rfl (by kernel_rfl) ?_
                simp only [List.nil_append, List.cons_append, true_and, and_true, zz0, true_implies, Nat.reduceLT, Nat.reduceLeDiff, zzI, look_nil, Nat.reduceBEq, implies_true, evS_move, evS_indexAddr, zz23, zz15, F_arr31, F_sz3, zz16, Option.some.injEq, exists_eq_left', exists_eq_left, Option.map_some, eq_self, reduceCtorEq, and_self, F_ok3, F_ag3, zz8, zzD, Nat.reduceAdd, Nat.zero_add, zzF, zzB, zzE, zz21, gr_v, zz26, zz28, Int.reduceToNat, Int.reduceLT, Int.reduceLE, cast6, Nat.reduceMul, zz6, Nat.reduceEqDiff, ↓reduceIte]
                refine hK3 _ ?_; try clear hK3 K3
                refine awp_keepL [11, 13, 21, 23, 153] ?_
                simp only [zz20, zzI, look_nil, Nat.reduceBEq]
                refine awp_condS _ (by decide) (by simp only [look_cons, Nat.reduceBEq, cond_true, cond_false]; rfl) ?_ ?_
                · intro hb
                  simp [c4 1 (by omega)] at hb
                · intro hb
                  clear hb
                  refine awp_skip ?_
                  simp only [zz6, Nat.reduceEqDiff, ↓reduceIte]
                  refine hK2 _ ?_; try clear hK2 K2
                  refine awp_keepL [11, 13, 21, 23] ?_
                  simp only [zz20, zzI, look_nil, Nat.reduceBEq]
                  refine awp_plain F_mixed [some 141, some 142, some 23] rfl ?_
                  simp only [List.nil_append, List.cons_append, true_and, and_true, zz0, true_implies, Nat.reduceLT, Nat.reduceLeDiff, zzI, look_nil, Nat.reduceBEq, implies_true, evS_move, zz21, gr_v, zz26, evS_assign, zz6, Nat.reduceEqDiff, ↓reduceIte]
                  refine ⟨4, _, by decide, le_SK id [] rfl (l' := [(11, .ptr 11 0 0), (13, .ptr 13 0 0), (21, .ptr 21 0 0), (23, .d (iv 2))]) (m' := [(11, (⟨True, 31, 6, true, false, 11, [[.d (iv (lossV r who cur l 0)), .d (iv (lossV r who cur l 1)), .d (iv (lossV r who cur l 2)), .d (iv (lossV r who cur l 3)), .d (iv (lossV r who cur l 4)), .d (iv (lossV r who cur l 5))]]⟩ : ARow)), (13, (⟨True, 31, 6, true, false, 13, [[.d (iv (lossV r who cur k 0)), .d (iv (lossV r who cur k 1)), .d (iv (lossV r who cur k 2)), .d (iv (lossV r who cur k 3)), .d (iv (lossV r who cur k 4)), .d (iv (lossV r who cur k 5))]]⟩ : ARow)), (21, (⟨True, 31, 6, true, false, 21, [[.d (iv (lossV r who cur (l ++ k) 0)), .d (iv (lossV r who cur (l ++ k) 1)), .d (iv (lossV r who cur (l ++ k) 2)), .d (iv (lossV r who cur (l ++ k) 3)), .d (iv (lossV r who cur (l ++ k) 4)), .d (iv (lossV r who cur (l ++ k) 5))]]⟩ : ARow))]) ?_ ?_ ?_ ?_, .inr (.inr (.inl (⟨rfl, rfl⟩)))⟩
                  · simp only [leV, look_cons, Nat.reduceBEq, cond_true, cond_false]; exact ⟨VLe.refl _, VLe.refl _, VLe.refl _, VLe.refl _, trivial⟩
                  · exact ⟨fun _ => ⟨_, rfl, ⟨id, rfl, rfl, rfl, id, .inl, VLess.refl _⟩⟩, fun h => by simp at h, fun _ => ⟨_, rfl, ⟨id, rfl, rfl, rfl, id, .inl, VLess.refl _⟩⟩, fun h => by simp at h, fun _ => ⟨_, rfl, ⟨id, rfl, rfl, rfl, id, .inl, VLess.refl _⟩⟩, fun h => by simp at h, trivial⟩
                  · simp [wfV, AV.ids, AV.idsL, lookR]
                  · simp [wfR, AV.idsL, AV.ids]
              · intro hb
                simp at hb
            · skip
              refine awp_seq fun K2 hK2 => ?_
              refine awp_seq fun K3 hK3 => ?_
              refine awp_plain F_mixed [some 139, some 140] rfl ?_
              simp only [List.nil_append, List.cons_append, true_and, and_true, zz0, true_implies, Nat.reduceLT, Nat.reduceLeDiff, zzI, look_nil, Nat.reduceBEq, implies_true, evS_move, zz21, gr_v, zz22, zz6, Nat.reduceEqDiff, ↓reduceIte]
              refine hK3 _ ?_; try clear hK3 K3
              refine awp_keepL [11, 13, 21, 23, 140] ?_
              simp only [zz20, zzI, look_nil, Nat.reduceBEq]
              refine awp_condS _ (by decide) (by simp only [look_cons, Nat.reduceBEq, cond_true, cond_false]; rfl) ?_ ?_
              · intro hb
                clear hb
                refine awp_skip ?_
                simp only [zz6, Nat.reduceEqDiff, ↓reduceIte]
                refine hK2 _ ?_; try clear hK2 K2
                refine awp_keepL [11, 13, 21, 23] ?_
                simp only [zz20, zzI, look_nil, Nat.reduceBEq]
                refine awp_seq fun K2 hK2 => ?_
                refine awp_block ?_
                refine awp_seq fun K3 hK3 => ?_
                refine awp_draw F_mixed [some 143, some 144, some 145, some 146, some 147, some 148, some 149, some 150, some 151, some 152, some 153] rfl (by kernel_rfl) ?_
                simp only [List.nil_append, List.cons_append, true_and, and_true, zz0, true_implies, Nat.reduceLT, Nat.reduceLeDiff, zzI, look_nil, Nat.reduceBEq, implies_true, evS_move, evS_indexAddr, zz23, zz15, F_arr31, F_sz3, zz16, Option.some.injEq, exists_eq_left', exists_eq_left, Option.map_some, eq_self, reduceCtorEq, and_self, F_ok3, F_ag3, zz8, zzD, Nat.reduceAdd, Nat.zero_add, zzF, zzB, zzE, zz21, gr_v, zz26, zz28, Int.reduceToNat, Int.reduceLT, Int.reduceLE, cast6, Nat.reduceMul, zz6, Nat.reduceEqDiff, ↓reduceIte]
                refine hK3 _ ?_; try clear hK3 K3
                refine awp_keepL [11, 13, 21, 23, 153] ?_
                simp only [zz20, zzI, look_nil, Nat.reduceBEq]
                refine awp_condS _ (by decide) (by simp only [look_cons, Nat.reduceBEq, cond_true, cond_false]; rfl) ?_ ?_
                · intro hb
                  simp [c4 2 (by omega)] at hb
                · intro hb
                  clear hb
                  refine awp_skip ?_
                  simp only [zz6, Nat.reduceEqDiff, ↓reduceIte]
                  refine hK2 _ ?_; try clear hK2 K2
                  refine awp_keepL [11, 13, 21, 23] ?_
                  simp only [zz20, zzI, look_nil, Nat.reduceBEq]
                  refine awp_plain F_mixed [some 141, some 142, some 23] rfl ?_
                  simp only [List.nil_append, List.cons_append, true_and, and_true, zz0, true_implies, Nat.reduceLT, Nat.reduceLeDiff, zzI, look_nil, Nat.reduceBEq, implies_true, evS_move, zz21, gr_v, zz26, evS_assign, zz6, Nat.reduceEqDiff, ↓reduceIte]
                  refine ⟨3, _, by decide, le_SK id [] rfl (l' := [(11, .ptr 11 0 0), (13, .ptr 13 0 0), (21, .ptr 21 0 0), (23, .d (iv 3))]) (m' := [(11, (⟨True, 31, 6, true, false, 11, [[.d (iv (lossV r who cur l 0)), .d (iv (lossV r who cur l 1)), .d (iv (lossV r who cur l 2)), .d (iv (lossV r who cur l 3)), .d (iv (lossV r who cur l 4)), .d (iv (lossV r who cur l 5))]]⟩ : ARow)), (13, (⟨True, 31, 6, true, false, 13, [[.d (iv (lossV r who cur k 0)), .d (iv (lossV r who cur k 1)), .d (iv (lossV r who cur k 2)), .d (iv (lossV r who cur k 3)), .d (iv (lossV r who cur k 4)), .d (iv (lossV r who cur k 5))]]⟩ : ARow)), (21, (⟨True, 31, 6, true, false, 21, [[.d (iv (lossV r who cur (l ++ k) 0)), .d (iv (lossV r who cur (l ++ k) 1)), .d (iv (lossV r who cur (l ++ k) 2)), .d (iv (lossV r who cur (l ++ k) 3)), .d (iv (lossV r who cur (l ++ k) 4)), .d (iv (lossV r who cur (l ++ k) 5))]]⟩ : ARow))]) ?_ ?_ ?_ ?_, .inr (.inr (.inr (.inl (⟨rfl, rfl⟩))))⟩
                  · simp only [leV, look_cons, Nat.reduceBEq, cond_true, cond_false]; exact ⟨VLe.refl _, VLe.refl _, VLe.refl _, VLe.refl _, trivial⟩
                  · exact ⟨fun _ => ⟨_, rfl, ⟨id, rfl, rfl, rfl, id, .inl, VLess.refl _⟩⟩, fun h => by simp at h, fun _ => ⟨_, rfl, ⟨id, rfl, rfl, rfl, id, .inl, VLess.refl _⟩⟩, fun h => by simp at h, fun _ => ⟨_, rfl, ⟨id, rfl, rfl, rfl, id, .inl, VLess.refl _⟩⟩, fun h => by simp at h, trivial⟩
                  · simp [wfV, AV.ids, AV.idsL, lookR]
                  · simp [wfR, AV.idsL, AV.ids]
              · intro hb
                simp at hb
            · skip
              refine awp_seq fun K2 hK2 => ?_
              refine awp_seq fun K3 hK3 => ?_
              refine awp_plain F_mixed [some 139, some 140] rfl ?_
              simp only [List.nil_append, List.cons_append, true_and, and_true, zz0, true_implies, Nat.reduceLT, Nat.reduceLeDiff, zzI, look_nil, Nat.reduceBEq, implies_true, evS_move, zz21, gr_v, zz22, zz6, Nat.reduceEqDiff, ↓reduceIte]
              refine hK3 _ ?_; try clear hK3 K3
              refine awp_keepL [11, 13, 21, 23, 140] ?_
              simp only [zz20, zzI, look_nil, Nat.reduceBEq]
              refine awp_condS _ (by decide) (by simp only [look_cons, Nat.reduceBEq, cond_true, cond_false]; rfl) ?_ ?_
              · intro hb
                clear hb
                refine awp_skip ?_
                simp only [zz6, Nat.reduceEqDiff, ↓reduceIte]
                refine hK2 _ ?_; try clear hK2 K2
                refine awp_keepL [11, 13, 21, 23] ?_
                simp only [zz20, zzI, look_nil, Nat.reduceBEq]
                refine awp_seq fun K2 hK2 => ?_
                refine awp_block ?_
                refine awp_seq fun K3 hK3 => ?_
                refine awp_draw F_mixed [some 143, some 144, some 145, some 146, some 147, some 148, some 149, some 150, some 151, some 152, some 153] rfl (by kernel_rfl) ?_
                simp only [List.nil_append, List.cons_append, true_and, and_true, zz0, true_implies, Nat.reduceLT, Nat.reduceLeDiff, zzI, look_nil, Nat.reduceBEq, implies_true, evS_move, evS_indexAddr, zz23, zz15, F_arr31, F_sz3, zz16, Option.some.injEq, exists_eq_left', exists_eq_left, Option.map_some, eq_self, reduceCtorEq, and_self, F_ok3, F_ag3, zz8, zzD, Nat.reduceAdd, Nat.zero_add, zzF, zzB, zzE, zz21, gr_v, zz26, zz28, Int.reduceToNat, Int.reduceLT, Int.reduceLE, cast6, Nat.reduceMul, zz6, Nat.reduceEqDiff, ↓reduceIte]
                refine hK3 _ ?_; try clear hK3 K3
                refine awp_keepL [11, 13, 21, 23, 153] ?_
                simp only [zz20, zzI, look_nil, Nat.reduceBEq]
                refine awp_condS _ (by decide) (by simp only [look_cons, Nat.reduceBEq, cond_true, cond_false]; rfl) ?_ ?_
                · intro hb
                  simp [c4 3 (by omega)] at hb
                · intro hb
                  clear hb
                  refine awp_skip ?_
                  simp only [zz6, Nat.reduceEqDiff, ↓reduceIte]
                  refine hK2 _ ?_; try clear hK2 K2
                  refine awp_keepL [11, 13, 21, 23] ?_
                  simp only [zz20, zzI, look_nil, Nat.reduceBEq]
                  refine awp_plain F_mixed [some 141, some 142, some 23] rfl ?_
                  simp only [List.nil_append, List.cons_append, true_and, and_true, zz0, true_implies, Nat.reduceLT, Nat.reduceLeDiff, zzI, look_nil, Nat.reduceBEq, implies_true, evS_move, zz21, gr_v, zz26, evS_assign, zz6, Nat.reduceEqDiff, ↓reduceIte]
                  refine ⟨2, _, by decide, le_SK id [] rfl (l' := [(11, .ptr 11 0 0), (13, .ptr 13 0 0), (21, .ptr 21 0 0), (23, .d (iv 4))]) (m' := [(11, (⟨True, 31, 6, true, false, 11, [[.d (iv (lossV r who cur l 0)), .d (iv (lossV r who cur l 1)), .d (iv (lossV r who cur l 2)), .d (iv (lossV r who cur l 3)), .d (iv (lossV r who cur l 4)), .d (iv (lossV r who cur l 5))]]⟩ : ARow)), (13, (⟨True, 31, 6, true, false, 13, [[.d (iv (lossV r who cur k 0)), .d (iv (lossV r who cur k 1)), .d (iv (lossV r who cur k 2)), .d (iv (lossV r who cur k 3)), .d (iv (lossV r who cur k 4)), .d (iv (lossV r who cur k 5))]]⟩ : ARow)), (21, (⟨True, 31, 6, true, false, 21, [[.d (iv (lossV r who cur (l ++ k) 0)), .d (iv (lossV r who cur (l ++ k) 1)), .d (iv (lossV r who cur (l ++ k) 2)), .d (iv (lossV r who cur (l ++ k) 3)), .d (iv (lossV r who cur (l ++ k) 4)), .d (iv (lossV r who cur (l ++ k) 5))]]⟩ : ARow))]) ?_ ?_ ?_ ?_, .inr (.inr (.inr (.inr (.inl (⟨rfl, rfl⟩)))))⟩
                  · simp only [leV, look_cons, Nat.reduceBEq, cond_true, cond_false]; exact ⟨VLe.refl _, VLe.refl _, VLe.refl _, VLe.refl _, trivial⟩
                  · exact ⟨fun _ => ⟨_, rfl, ⟨id, rfl, rfl, rfl, id, .inl, VLess.refl _⟩⟩, fun h => by simp at h, fun _ => ⟨_, rfl, ⟨id, rfl, rfl, rfl, id, .inl, VLess.refl _⟩⟩, fun h => by simp at h, fun _ => ⟨_, rfl, ⟨id, rfl, rfl, rfl, id, .inl, VLess.refl _⟩⟩, fun h => by simp at h, trivial⟩
                  · simp [wfV, AV.ids, AV.idsL, lookR]
                  · simp [wfR, AV.idsL, AV.ids]
              · intro hb
                simp at hb
            · skip
              refine awp_seq fun K2 hK2 => ?_
              refine awp_seq fun K3 hK3 => ?_
              refine awp_plain F_mixed [some 139, some 140] rfl ?_
              simp only [List.nil_append, List.cons_append, true_and, and_true, zz0, true_implies, Nat.reduceLT, Nat.reduceLeDiff, zzI, look_nil, Nat.reduceBEq, implies_true, evS_move, zz21, gr_v, zz22, zz6, Nat.reduceEqDiff, ↓reduceIte]
              refine hK3 _ ?_; try clear hK3 K3
              refine awp_keepL [11, 13, 21, 23, 140] ?_
              simp only [zz20, zzI, look_nil, Nat.reduceBEq]
              refine awp_condS _ (by decide) (by simp only [look_cons, Nat.reduceBEq, cond_true, cond_false]; rfl) ?_ ?_
              · intro hb
                clear hb
                refine awp_skip ?_
                simp only [zz6, Nat.reduceEqDiff, ↓reduceIte]
                refine hK2 _ ?_; try clear hK2 K2
                refine awp_keepL [11, 13, 21, 23] ?_
                simp only [zz20, zzI, look_nil, Nat.reduceBEq]
                refine awp_seq fun K2 hK2 => ?_
                refine awp_block ?_
                refine awp_seq fun K3 hK3 => ?_
                refine awp_draw F_mixed [some 143, some 144, some 145, some 146, some 147, some 148, some 149, some 150, some 151, some 152, some 153] rfl (by kernel_rfl) ?_
                simp only [List.nil_append, List.cons_append, true_and, and_true, zz0, true_implies, Nat.reduceLT, Nat.reduceLeDiff, zzI, look_nil, Nat.reduceBEq, implies_true, evS_move, evS_indexAddr, zz23, zz15, F_arr31, F_sz3, zz16, Option.some.injEq, exists_eq_left', exists_eq_left, Option.map_some, eq_self, reduceCtorEq, and_self, F_ok3, F_ag3, zz8, zzD, Nat.reduceAdd, Nat.zero_add, zzF, zzB, zzE, zz21, gr_v, zz26, zz28, Int.reduceToNat, Int.reduceLT, Int.reduceLE, cast6, Nat.reduceMul, zz6, Nat.reduceEqDiff, ↓reduceIte]
                refine hK3 _ ?_; try clear hK3 K3
                refine awp_keepL [11, 13, 21, 23, 153] ?_
                simp only [zz20, zzI, look_nil, Nat.reduceBEq]
                refine awp_condS _ (by decide) (by simp only [look_cons, Nat.reduceBEq, cond_true, cond_false]; rfl) ?_ ?_
                · intro hb
                  simp [c4 4 (by omega)] at hb
                · intro hb
                  clear hb
                  refine awp_skip ?_
                  simp only [zz6, Nat.reduceEqDiff, ↓reduceIte]
                  refine hK2 _ ?_; try clear hK2 K2
                  refine awp_keepL [11, 13, 21, 23] ?_
                  simp only [zz20, zzI, look_nil, Nat.reduceBEq]
                  refine awp_plain F_mixed [some 141, some 142, some 23] rfl ?_
                  simp only [List.nil_append, List.cons_append, true_and, and_true, zz0, true_implies, Nat.reduceLT, Nat.reduceLeDiff, zzI, look_nil, Nat.reduceBEq, implies_true, evS_move, zz21, gr_v, zz26, evS_assign, zz6, Nat.reduceEqDiff, ↓reduceIte]
                  refine ⟨1, _, by decide, le_SK id [] rfl (l' := [(11, .ptr 11 0 0), (13, .ptr 13 0 0), (21, .ptr 21 0 0), (23, .d (iv 5))]) (m' := [(11, (⟨True, 31, 6, true, false, 11, [[.d (iv (lossV r who cur l 0)), .d (iv (lossV r who cur l 1)), .d (iv (lossV r who cur l 2)), .d (iv (lossV r who cur l 3)), .d (iv (lossV r who cur l 4)), .d (iv (lossV r who cur l 5))]]⟩ : ARow)), (13, (⟨True, 31, 6, true, false, 13, [[.d (iv (lossV r who cur k 0)), .d (iv (lossV r who cur k 1)), .d (iv (lossV r who cur k 2)), .d (iv (lossV r who cur k 3)), .d (iv (lossV r who cur k 4)), .d (iv (lossV r who cur k 5))]]⟩ : ARow)), (21, (⟨True, 31, 6, true, false, 21, [[.d (iv (lossV r who cur (l ++ k) 0)), .d (iv (lossV r who cur (l ++ k) 1)), .d (iv (lossV r who cur (l ++ k) 2)), .d (iv (lossV r who cur (l ++ k) 3)), .d (iv (lossV r who cur (l ++ k) 4)), .d (iv (lossV r who cur (l ++ k) 5))]]⟩ : ARow))]) ?_ ?_ ?_ ?_, .inr (.inr (.inr (.inr (.inr (.inl (⟨rfl, rfl⟩))))))⟩
                  · simp only [leV, look_cons, Nat.reduceBEq, cond_true, cond_false]; exact ⟨VLe.refl _, VLe.refl _, VLe.refl _, VLe.refl _, trivial⟩
                  · exact ⟨fun _ => ⟨_, rfl, ⟨id, rfl, rfl, rfl, id, .inl, VLess.refl _⟩⟩, fun h => by simp at h, fun _ => ⟨_, rfl, ⟨id, rfl, rfl, rfl, id, .inl, VLess.refl _⟩⟩, fun h => by simp at h, fun _ => ⟨_, rfl, ⟨id, rfl, rfl, rfl, id, .inl, VLess.refl _⟩⟩, fun h => by simp at h, trivial⟩
                  · simp [wfV, AV.ids, AV.idsL, lookR]
                  · simp [wfR, AV.idsL, AV.ids]
              · intro hb
                simp at hb
            · skip
              refine awp_seq fun K2 hK2 => ?_
              refine awp_seq fun K3 hK3 => ?_
              refine awp_plain F_mixed [some 139, some 140] rfl ?_
              simp only [List.nil_append, List.cons_append, true_and, and_true, zz0, true_implies, Nat.reduceLT, Nat.reduceLeDiff, zzI, look_nil, Nat.reduceBEq, implies_true, evS_move, zz21, gr_v, zz22, zz6, Nat.reduceEqDiff, ↓reduceIte]
              refine hK3 _ ?_; try clear hK3 K3
              refine awp_keepL [11, 13, 21, 23, 140] ?_
              simp only [zz20, zzI, look_nil, Nat.reduceBEq]
              refine awp_condS _ (by decide) (by simp only [look_cons, Nat.reduceBEq, cond_true, cond_false]; rfl) ?_ ?_
              · intro hb
                clear hb
                refine awp_skip ?_
                simp only [zz6, Nat.reduceEqDiff, ↓reduceIte]
                refine hK2 _ ?_; try clear hK2 K2
                refine awp_keepL [11, 13, 21, 23] ?_
                simp only [zz20, zzI, look_nil, Nat.reduceBEq]
                refine awp_seq fun K2 hK2 => ?_
                refine awp_block ?_
                refine awp_seq fun K3 hK3 => ?_
                refine awp_draw F_mixed [some 143, some 144, some 145, some 146, some 147, some 148, some 149, some 150, some 151, some 152, some 153] rfl (by kernel_rfl) ?_
                simp only [List.nil_append, List.cons_append, true_and, and_true, zz0, true_implies, Nat.reduceLT, Nat.reduceLeDiff, zzI, look_nil, Nat.reduceBEq, implies_true, evS_move, evS_indexAddr, zz23, zz15, F_arr31, F_sz3, zz16, Option.some.injEq, exists_eq_left', exists_eq_left, Option.map_some, eq_self, reduceCtorEq, and_self, F_ok3, F_ag3, zz8, zzD, Nat.reduceAdd, Nat.zero_add, zzF, zzB, zzE, zz21, gr_v, zz26, zz28, Int.reduceToNat, Int.reduceLT, Int.reduceLE, cast6, Nat.reduceMul, zz6, Nat.reduceEqDiff, ↓reduceIte]
                refine hK3 _ ?_; try clear hK3 K3
                refine awp_keepL [11, 13, 21, 23, 153] ?_
                simp only [zz20, zzI, look_nil, Nat.reduceBEq]
                refine awp_condS _ (by decide) (by simp only [look_cons, Nat.reduceBEq, cond_true, cond_false]; rfl) ?_ ?_
                · intro hb
                  simp [c4 5 (by omega)] at hb
                · intro hb
                  clear hb
                  refine awp_skip ?_
                  simp only [zz6, Nat.reduceEqDiff, ↓reduceIte]
                  refine hK2 _ ?_; try clear hK2 K2
                  refine awp_keepL [11, 13, 21, 23] ?_
                  simp only [zz20, zzI, look_nil, Nat.reduceBEq]
                  refine awp_plain F_mixed [some 141, some 142, some 23] rfl ?_
                  simp only [List.nil_append, List.cons_append, true_and, and_true, zz0, true_implies, Nat.reduceLT, Nat.reduceLeDiff, zzI, look_nil, Nat.reduceBEq, implies_true, evS_move, zz21, gr_v, zz26, evS_assign, zz6, Nat.reduceEqDiff, ↓reduceIte]
                  refine ⟨0, _, by decide, le_SK id [] rfl (l' := [(11, .ptr 11 0 0), (13, .ptr 13 0 0), (21, .ptr 21 0 0), (23, .d (iv 6))]) (m' := [(11, (⟨True, 31, 6, true, false, 11, [[.d (iv (lossV r who cur l 0)), .d (iv (lossV r who cur l 1)), .d (iv (lossV r who cur l 2)), .d (iv (lossV r who cur l 3)), .d (iv (lossV r who cur l 4)), .d (iv (lossV r who cur l 5))]]⟩ : ARow)), (13, (⟨True, 31, 6, true, false, 13, [[.d (iv (lossV r who cur k 0)), .d (iv (lossV r who cur k 1)), .d (iv (lossV r who cur k 2)), .d (iv (lossV r who cur k 3)), .d (iv (lossV r who cur k 4)), .d (iv (lossV r who cur k 5))]]⟩ : ARow)), (21, (⟨True, 31, 6, true, false, 21, [[.d (iv (lossV r who cur (l ++ k) 0)), .d (iv (lossV r who cur (l ++ k) 1)), .d (iv (lossV r who cur (l ++ k) 2)), .d (iv (lossV r who cur (l ++ k) 3)), .d (iv (lossV r who cur (l ++ k) 4)), .d (iv (lossV r who cur (l ++ k) 5))]]⟩ : ARow))]) ?_ ?_ ?_ ?_, .inr (.inr (.inr (.inr (.inr (.inr (⟨rfl, rfl⟩))))))⟩
                  · simp only [leV, look_cons, Nat.reduceBEq, cond_true, cond_false]; exact ⟨VLe.refl _, VLe.refl _, VLe.refl _, VLe.refl _, trivial⟩
                  · exact ⟨fun _ => ⟨_, rfl, ⟨id, rfl, rfl, rfl, id, .inl, VLess.refl _⟩⟩, fun h => by simp at h, fun _ => ⟨_, rfl, ⟨id, rfl, rfl, rfl, id, .inl, VLess.refl _⟩⟩, fun h => by simp at h, fun _ => ⟨_, rfl, ⟨id, rfl, rfl, rfl, id, .inl, VLess.refl _⟩⟩, fun h => by simp at h, trivial⟩
                  · simp [wfV, AV.ids, AV.idsL, lookR]
                  · simp [wfR, AV.idsL, AV.ids]
              · intro hb
                simp at hb
            · skip
              refine awp_seq fun K2 hK2 => ?_
              refine awp_seq fun K3 hK3 => ?_
              refine awp_plain F_mixed [some 139, some 140] rfl ?_
              simp only [List.nil_append, List.cons_append, true_and, and_true, zz0, true_implies, Nat.reduceLT, Nat.reduceLeDiff, zzI, look_nil, Nat.reduceBEq, implies_true, evS_move, zz21, gr_v, zz22, zz6, Nat.reduceEqDiff, ↓reduceIte]
              refine hK3 _ ?_; try clear hK3 K3
              refine awp_keepL [11, 13, 21, 23, 140] ?_
              simp only [zz20, zzI, look_nil, Nat.reduceBEq]
              refine awp_condS _ (by decide) (by simp only [look_cons, Nat.reduceBEq, cond_true, cond_false]; rfl) ?_ ?_
              · intro hb
                simp at hb
              · intro hb
                clear hb
                refine awp_exit ?_
                simp only [zz6, Nat.reduceEqDiff, ↓reduceIte]
                refine hK0 _ ?_; try clear hK0 K0
                refine awp_keepL [] ?_
                simp only [zz20, zzI, look_nil, Nat.reduceBEq]
                refine awp_seq fun K0 hK0 => ?_
                refine awp_plain F_mixed [some 154, some 10] rfl ?_
                simp only [List.nil_append, List.cons_append, true_and, and_true, zz0, true_implies, Nat.reduceLT, Nat.reduceLeDiff, zzI, look_nil, Nat.reduceBEq, implies_true, evS_call, evC_value, evS_assign, zz6, Nat.reduceEqDiff, ↓reduceIte]
                refine call_go F_go17 (fun hG => wakes15_) (by simp [AV.ids, AV.idsL]) (by simp) ?_
                simp only [List.nil_append, List.cons_append, true_and, and_true, zz0, true_implies, Nat.reduceLT, Nat.reduceLeDiff, zzI, look_nil, Nat.reduceBEq, implies_true, evS_call, evC_value, evS_assign, zz6, Nat.reduceEqDiff, ↓reduceIte, atsL, oksG, freeN, AV.ren, AV.renL, addRows, ORow.row, Nat.reduceMul, Nat.reduceAdd, zz9, Option.bind_some, Option.map_some, forall_eq', D.sl.injEq, zz16, Option.some.injEq, exists_eq_left', exists_eq_left, exists_eq', exists_eq, zzD, zz2]
                refine hK0 _ ?_; try clear hK0 K0
                refine awp_keepL [10] ?_
                simp only [zz20, zzI, look_nil, Nat.reduceBEq]
                refine awp_ret ?_
                simp only [zz6, Nat.reduceEqDiff, ↓reduceIte]
                refine done0 (by simp only [resCs, resC]; trivial) ?_ (by simp [flatA, flatAs, flatD]) (by simp [AV.ids, AV.idsL])
                simp only [List.map_cons, List.map_nil, resA, S_getD, Nat.reduceLT, Nat.reduceLeDiff, look_cons, Nat.reduceBEq, cond_true, cond_false, resAll]
                
end Go.Proofs.Ytcpiojfhbebfiaa
