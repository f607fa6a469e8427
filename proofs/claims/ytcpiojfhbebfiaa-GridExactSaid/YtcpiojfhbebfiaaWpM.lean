import Derived.Test.YtcpiojfhbebfiaaWpL
namespace Go.Proofs.Ytcpiojfhbebfiaa
open Go.RowKit
set_option linter.unusedVariables false
set_option linter.unusedSimpArgs false
theorem F_go8 : goFn Try.prog 8 := ⟨_, Try.func8, rfl, rfl⟩
theorem F_go9 : goFn Try.prog 9 := ⟨_, Try.func9, rfl, rfl⟩
theorem F_go10 : goFn Try.prog 10 := ⟨_, Try.func10, rfl, rfl⟩
theorem F_go14 : goFn Try.prog 14 := ⟨_, Try.func14, rfl, rfl⟩
theorem F_eqi31 (a0 b0 : Int) (a1 b1 : Int) (a2 b2 : Int) (a3 b3 : Int) (a4 b4 : Int) (a5 b5 : Int) (w : World) : (Op.equalIn 10000 31 (.agg #[.int .i64 a0, .int .i64 a1, .int .i64 a2, .int .i64 a3, .int .i64 a4, .int .i64 a5]) (.agg #[.int .i64 b0, .int .i64 b1, .int .i64 b2, .int .i64 b3, .int .i64 b4, .int .i64 b5])).run Try.prog w = .ok (veqL [.int .i64 a0, .int .i64 a1, .int .i64 a2, .int .i64 a3, .int .i64 a4, .int .i64 a5] [.int .i64 b0, .int .i64 b1, .int .i64 b2, .int .i64 b3, .int .i64 b4, .int .i64 b5]) w := by
  have u3 := Try.underlying3
  have g3 := Try.isAgg3
  have z3 := Try.sizeOf3
  rw [show (10000 : Nat) = 9999 + 1 from rfl, arr_step _ _ _ _ _ _ _ _ Try.underlying31]
  have e : ∀ (a b : Int) (w : World), (Op.equalIn 9999 3 (.int .i64 a) (.int .i64 b)).run Try.prog w = .ok (a == b) w := fun a b w => run_equalIn_int w 9998 3 _ _ a b Try.underlying3
  generalize 9999 = d at *
  go_simp
  rw [forIn_all (fun i => [a0, a1, a2, a3, a4, a5].getD i 0 == [b0, b1, b2, b3, b4, b5].getD i 0) _ 6 0 fun i h1 h2 => ?_]
  · simp only [List.range', List.all_cons, List.all_nil, veqL, veq, List.getD_cons_zero, List.getD_cons_succ, Nat.zero_add, Nat.reduceAdd, Bool.and_true]
    generalize (a0 == b0 && (a1 == b1 && (a2 == b2 && (a3 == b3 && (a4 == b4 && (a5 == b5)))))) = q
    cases q <;> simp
  · match i, h2 with
    | 0, _ | 1, _ | 2, _ | 3, _ | 4, _ | 5, _ =>
      simp only [Sem.run_bind, g3, Result.andThen_ok, Bool.false_eq_true, if_false, List.getElem?_cons_zero, List.getElem?_cons_succ, Sem.run_pure, e, List.getD_cons_zero, List.getD_cons_succ]
      split <;> simp_all [Bool.cond_eq_ite]
    | n + 6, h => omega
theorem F_eql31 (a0 b0 : Int) (a1 b1 : Int) (a2 b2 : Int) (a3 b3 : Int) (a4 b4 : Int) (a5 b5 : Int) (x y : Operand) : pureBin Try.prog .eql 31 x y (.agg #[.int .i64 a0, .int .i64 a1, .int .i64 a2, .int .i64 a3, .int .i64 a4, .int .i64 a5]) (.agg #[.int .i64 b0, .int .i64 b1, .int .i64 b2, .int .i64 b3, .int .i64 b4, .int .i64 b5]) = True := by
  have hm : Try.prog.eqGuardType Try.prog.depth 31 = false := by kernel_rfl
  simp only [pureBin, Pure, eq_iff_iff, iff_true]
  intro w
  simp only [Sem.run_bind, run_eqGuard_agg w .eql 31 x y _ _ hm, Result.andThen_ok, run_eql_struct, F_eqi31, binV]
theorem F_go15 : goFn Try.prog 15 := ⟨_, Try.func15, rfl, rfl⟩
theorem F_go16 : goFn Try.prog 16 := ⟨_, Try.func16, rfl, rfl⟩
theorem F_go17 : goFn Try.prog 17 := ⟨_, Try.func17, rfl, rfl⟩
set_option maxRecDepth 100000 in
set_option maxHeartbeats 4000000 in
theorem gridExact_ (r : RollV) (who cur : Int) (l : List PosV) : ACalls Try.prog 3 [.agg (rollC r), iv who, iv cur, poss l] [] (bv true) := by
  refine acalls_S (rs := [.tmp 8]) Try.func3 rfl rfl 93 [(0, .d (.agg (rollC r))), (1, .d (iv who)), (2, .d (iv cur)), (3, .d (poss l))] rfl (by simp) rfl ?_
  refine awp_seq fun K0 hK0 => ?_
  refine awp_plain F_mixed [some 4, some 8] rfl ?_
  simp only [List.nil_append, List.cons_append, true_and, and_true, zz0, true_implies, Nat.reduceLT, Nat.reduceLeDiff, zzI, look_nil, Nat.reduceBEq, implies_true, zz35, newRow1, zz1, zzG, zzD, zz16, Option.some.injEq, exists_eq_left', exists_eq_left, Option.map_some, eq_self, reduceCtorEq, and_self, Nat.reduceAdd, Nat.zero_add, zzF, zzB, zzE, evS_assign, rollC, memsD, instsD, assetsD, zz6, Nat.reduceEqDiff, ↓reduceIte]
  refine hK0 _ ?_; try clear hK0 K0
  refine awp_keepL [1, 2, 3, 4] ?_
  simp only [zz20, zzI, look_nil, Nat.reduceBEq]
  refine awp_seq fun K0 hK0 => ?_
  refine awp_seq fun K1 hK1 => ?_
  refine awp_plain F_mixed [some 19, some 20, some 21, some 22, some 23, some 24, some 25] rfl ?_
  simp only [List.nil_append, List.cons_append, true_and, and_true, zz0, true_implies, Nat.reduceLT, Nat.reduceLeDiff, zzI, look_nil, Nat.reduceBEq, implies_true, Nat.reduceSub, S_getD, zz5, and_imp, imp_and, imp_self, and_self, F_ok26, F_ag26, F_sz26, zz8, zz23, zzD, Nat.reduceAdd, Nat.zero_add, zzF, zzB, zzE, zz16, Option.some.injEq, exists_eq_left', exists_eq_left, Option.map_some, eq_self, reduceCtorEq, evS_call, evC_value, evS_move, zz12, F_sl27, Option.isSome_some, zz21, gr_v, zz25, zz13, poss, len_map, memsD, instsD, assetsD, rollC, D.agg.injEq, memA, memC, instA, instC, zzG, zz6, Nat.reduceEqDiff, ↓reduceIte]
  refine call_go F_go8 (fun hG => heavy_ r) (by simp [AV.ids, AV.idsL]) (by simp) ?_
  simp only [List.nil_append, List.cons_append, true_and, and_true, zz0, true_implies, Nat.reduceLT, Nat.reduceLeDiff, zzI, look_nil, Nat.reduceBEq, implies_true, Nat.reduceSub, S_getD, zz5, and_imp, imp_and, imp_self, and_self, F_ok26, F_ag26, F_sz26, zz8, zz23, zzD, Nat.reduceAdd, Nat.zero_add, zzF, zzB, zzE, zz16, Option.some.injEq, exists_eq_left', exists_eq_left, Option.map_some, eq_self, reduceCtorEq, evS_call, evC_value, evS_move, zz12, F_sl27, Option.isSome_some, zz21, gr_v, zz25, zz13, poss, len_map, memsD, instsD, assetsD, rollC, D.agg.injEq, memA, memC, instA, instC, zzG, zz6, Nat.reduceEqDiff, ↓reduceIte, atsL, oksG, freeN, AV.ren, AV.renL, addRows, ORow.row, Nat.reduceMul, Nat.reduceAdd, zz9, Option.bind_some, Option.map_some, forall_eq', D.sl.injEq, S_mem, Option.some.injEq, exists_eq_left', exists_eq_left, exists_eq', exists_eq, List.length_cons, zz2]
  refine hK1 _ ?_; try clear hK1 K1
  refine awp_keepL [1, 2, 3, 4, 25] ?_
  simp only [zz20, zzI, look_nil, Nat.reduceBEq]
  refine awp_condS _ (by decide) (by simp only [look_cons, Nat.reduceBEq, cond_true, cond_false]; rfl) ?_ ?_
  · intro hb
    clear hb
    refine awp_seq fun K2 hK2 => ?_
    refine awp_plain F_mixed [some 8] rfl ?_
    simp only [List.nil_append, List.cons_append, true_and, and_true, zz0, true_implies, Nat.reduceLT, Nat.reduceLeDiff, zzI, look_nil, Nat.reduceBEq, implies_true, evS_assign, zz6, Nat.reduceEqDiff, ↓reduceIte]
    refine hK2 _ ?_; try clear hK2 K2
    refine awp_keepL [8] ?_
    simp only [zz20, zzI, look_nil, Nat.reduceBEq]
    refine awp_ret ?_
    simp only [zz6, Nat.reduceEqDiff, ↓reduceIte]
    refine done0 (by simp only [resCs, resC]; trivial) ?_ (by simp [flatA, flatAs, flatD]) (by simp [AV.ids, AV.idsL])
    simp only [List.map_cons, List.map_nil, resA, S_getD, Nat.reduceLT, Nat.reduceLeDiff, look_cons, Nat.reduceBEq, cond_true, cond_false, resAll]
    
  · intro hb
    simp only [Bool.or_eq_false_iff] at hb
    have h := small_of hb.1
    have hl : l.length ≤ 300 := by have := hb.2; simp at this; omega
    clear hb
    refine awp_skip ?_
    simp only [zz6, Nat.reduceEqDiff, ↓reduceIte]
    refine hK0 _ ?_; try clear hK0 K0
    refine awp_keepL [1, 2, 3, 4] ?_
    simp only [zz20, zzI, look_nil, Nat.reduceBEq]
    refine awp_seq fun K0 hK0 => ?_
    refine awp_plain F_mixed [some 26, some 27, some 28, some 29, some 9, none, some 10] rfl ?_
    simp only [List.nil_append, List.cons_append, true_and, and_true, zz0, true_implies, Nat.reduceLT, Nat.reduceLeDiff, zzI, look_nil, Nat.reduceBEq, implies_true, F_ok26, F_ag26, F_sz26, zz8, zz23, zzD, Nat.reduceAdd, Nat.zero_add, zzF, zzB, zzE, zz16, Option.some.injEq, exists_eq_left', exists_eq_left, Option.map_some, eq_self, reduceCtorEq, and_self, evS_call, evC_value, evS_move, zz32, newRow1, F_zero26, zz10, zz18, splice, List.append_nil, zz1, zzG, evS_assign, poss, memsD, instsD, assetsD, rollC, D.agg.injEq, memA, memC, instA, instC, List.map_cons, zz6, Nat.reduceEqDiff, ↓reduceIte]
    refine call_go F_go9 (fun hG => twinRollF r h) (by simp [AV.ids, AV.idsL]) (by simp) ?_
    simp only [List.nil_append, List.cons_append, true_and, and_true, zz0, true_implies, Nat.reduceLT, Nat.reduceLeDiff, zzI, look_nil, Nat.reduceBEq, implies_true, F_ok26, F_ag26, F_sz26, zz8, zz23, zzD, Nat.reduceAdd, Nat.zero_add, zzF, zzB, zzE, zz16, Option.some.injEq, exists_eq_left', exists_eq_left, Option.map_some, eq_self, reduceCtorEq, and_self, evS_call, evC_value, evS_move, zz32, newRow1, F_zero26, zz10, zz18, splice, List.append_nil, zz1, zzG, evS_assign, poss, memsD, instsD, assetsD, rollC, D.agg.injEq, memA, memC, instA, instC, List.map_cons, zz6, Nat.reduceEqDiff, ↓reduceIte, atsL, oksG, freeN, AV.ren, AV.renL, addRows, ORow.row, Nat.reduceMul, Nat.reduceAdd, zz9, Option.bind_some, Option.map_some, forall_eq', D.sl.injEq, S_mem, Option.some.injEq, exists_eq_left', exists_eq_left, exists_eq', exists_eq, List.length_cons, zz2]
    refine call_go F_go10 (fun hG => twinPossF l (by omega)) (by simp [AV.ids, AV.idsL]) (by simp) ?_
    simp only [List.nil_append, List.cons_append, true_and, and_true, zz0, true_implies, Nat.reduceLT, Nat.reduceLeDiff, zzI, look_nil, Nat.reduceBEq, implies_true, F_ok26, F_ag26, F_sz26, zz8, zz23, zzD, Nat.reduceAdd, Nat.zero_add, zzF, zzB, zzE, zz16, Option.some.injEq, exists_eq_left', exists_eq_left, Option.map_some, eq_self, reduceCtorEq, and_self, evS_call, evC_value, evS_move, zz32, newRow1, F_zero26, zz10, zz18, splice, List.append_nil, zz1, zzG, evS_assign, poss, memsD, instsD, assetsD, rollC, D.agg.injEq, memA, memC, instA, instC, List.map_cons, zz6, Nat.reduceEqDiff, ↓reduceIte, atsL, oksG, freeN, AV.ren, AV.renL, addRows, ORow.row, Nat.reduceMul, Nat.reduceAdd, zz9, Option.bind_some, Option.map_some, forall_eq', D.sl.injEq, S_mem, Option.some.injEq, exists_eq_left', exists_eq_left, exists_eq', exists_eq, List.length_cons, zz2]
    refine hK0 _ ?_; try clear hK0 K0
    refine awp_keepL [1, 2, 3, 4, 9, 10] ?_
    simp only [zz20, zzI, look_nil, Nat.reduceBEq]
    refine awp_seq fun K0 hK0 => ?_
    refine awp_plain F_mixed [some 31, some 32, some 33, some 34, some 35, some 30, some 36, some 37, some 11, none, some 12] rfl ?_
    simp only [List.nil_append, List.cons_append, true_and, and_true, zz0, true_implies, Nat.reduceLT, Nat.reduceLeDiff, zzI, look_nil, Nat.reduceBEq, implies_true, F_ok26, F_ag26, F_sz26, zz8, zz23, zzD, Nat.reduceAdd, Nat.zero_add, zzF, zzB, zzE, zz16, Option.some.injEq, exists_eq_left', exists_eq_left, Option.map_some, eq_self, reduceCtorEq, and_self, evS_move, evS_call, evC_value, zz14, zz32, newRow1, F_zero31, zz10, zz18, F_ok31, F_sz31, splice, List.append_nil, zz1, zzG, evS_assign, poss, lossA, memsD, instsD, assetsD, rollC, D.agg.injEq, memA, memC, instA, instC, List.map_cons, zz6, Nat.reduceEqDiff, ↓reduceIte]
    refine call_go F_go11 (fun hG => Losses_ r who cur l h (by omega)) (by simp [AV.ids, AV.idsL, lossA]) (by simp) ?_
    simp only [List.nil_append, List.cons_append, true_and, and_true, zz0, true_implies, Nat.reduceLT, Nat.reduceLeDiff, zzI, look_nil, Nat.reduceBEq, implies_true, F_ok26, F_ag26, F_sz26, zz8, zz23, zzD, Nat.reduceAdd, Nat.zero_add, zzF, zzB, zzE, zz16, Option.some.injEq, exists_eq_left', exists_eq_left, Option.map_some, eq_self, reduceCtorEq, and_self, evS_move, evS_call, evC_value, zz14, zz32, newRow1, F_zero31, zz10, zz18, F_ok31, F_sz31, splice, List.append_nil, zz1, zzG, evS_assign, poss, lossA, memsD, instsD, assetsD, rollC, D.agg.injEq, memA, memC, instA, instC, List.map_cons, zz6, Nat.reduceEqDiff, ↓reduceIte, atsL, oksG, freeN, AV.ren, AV.renL, addRows, ORow.row, Nat.reduceMul, Nat.reduceAdd, zz9, Option.bind_some, Option.map_some, forall_eq', D.sl.injEq, S_mem, Option.some.injEq, exists_eq_left', exists_eq_left, exists_eq', exists_eq, List.length_cons, zz2]
    refine hK0 _ ?_; try clear hK0 K0
    refine awp_keepL [1, 2, 3, 4, 9, 10, 11, 12] ?_
    simp only [zz20, zzI, look_nil, Nat.reduceBEq]
    refine awp_seq fun K0 hK0 => ?_
    refine awp_plain F_mixed [some 39, some 40, some 41, some 42, some 43, some 38, some 44, some 45, some 13, none, some 14] rfl ?_
    simp only [List.nil_append, List.cons_append, true_and, and_true, zz0, true_implies, Nat.reduceLT, Nat.reduceLeDiff, zzI, look_nil, Nat.reduceBEq, implies_true, F_ok26, F_ag26, F_sz26, zz8, zz23, zzD, Nat.reduceAdd, Nat.zero_add, zzF, zzB, zzE, zz16, Option.some.injEq, exists_eq_left', exists_eq_left, Option.map_some, eq_self, reduceCtorEq, and_self, evS_move, evS_call, evC_value, zz14, zz32, newRow1, F_zero31, zz10, zz18, F_ok31, F_sz31, splice, List.append_nil, zz1, zzG, evS_assign, poss, lossA, memsD, instsD, assetsD, rollC, D.agg.injEq, memA, memC, instA, instC, List.map_cons, zz6, Nat.reduceEqDiff, ↓reduceIte]
    refine call_go F_go12 (fun hG => rLosses_ r who cur l h (by omega)) (by simp [AV.ids, AV.idsL, lossA]) (by simp) ?_
    simp only [List.nil_append, List.cons_append, true_and, and_true, zz0, true_implies, Nat.reduceLT, Nat.reduceLeDiff, zzI, look_nil, Nat.reduceBEq, implies_true, F_ok26, F_ag26, F_sz26, zz8, zz23, zzD, Nat.reduceAdd, Nat.zero_add, zzF, zzB, zzE, zz16, Option.some.injEq, exists_eq_left', exists_eq_left, Option.map_some, eq_self, reduceCtorEq, and_self, evS_move, evS_call, evC_value, zz14, zz32, newRow1, F_zero31, zz10, zz18, F_ok31, F_sz31, splice, List.append_nil, zz1, zzG, evS_assign, poss, lossA, memsD, instsD, assetsD, rollC, D.agg.injEq, memA, memC, instA, instC, List.map_cons, zz6, Nat.reduceEqDiff, ↓reduceIte, atsL, oksG, freeN, AV.ren, AV.renL, addRows, ORow.row, Nat.reduceMul, Nat.reduceAdd, zz9, Option.bind_some, Option.map_some, forall_eq', D.sl.injEq, S_mem, Option.some.injEq, exists_eq_left', exists_eq_left, exists_eq', exists_eq, List.length_cons, zz2]
    refine hK0 _ ?_; try clear hK0 K0
    refine awp_keepL [1, 2, 3, 4, 9, 10, 11, 12, 13, 14] ?_
    simp only [zz20, zzI, look_nil, Nat.reduceBEq]
    refine awp_seq fun K0 hK0 => ?_
    refine awp_plain F_mixed [some 47, some 48, some 49, some 50, some 51, some 46, some 52, some 53, some 15, some 16] rfl ?_
    simp only [List.nil_append, List.cons_append, true_and, and_true, zz0, true_implies, Nat.reduceLT, Nat.reduceLeDiff, zzI, look_nil, Nat.reduceBEq, implies_true, F_ok26, F_ag26, F_sz26, zz8, zz23, zzD, Nat.reduceAdd, Nat.zero_add, zzF, zzB, zzE, zz16, Option.some.injEq, exists_eq_left', exists_eq_left, Option.map_some, eq_self, reduceCtorEq, and_self, evS_move, evS_call, evC_value, zz14, evS_assign, poss, lossA, memsD, instsD, assetsD, rollC, D.agg.injEq, memA, memC, instA, instC, zzG, zz6, Nat.reduceEqDiff, ↓reduceIte]
    refine call_go F_go13 (fun hG => Margin_ r who cur l h (by omega)) (by simp [AV.ids, AV.idsL, lossA]) (by simp) ?_
    simp only [List.nil_append, List.cons_append, true_and, and_true, zz0, true_implies, Nat.reduceLT, Nat.reduceLeDiff, zzI, look_nil, Nat.reduceBEq, implies_true, F_ok26, F_ag26, F_sz26, zz8, zz23, zzD, Nat.reduceAdd, Nat.zero_add, zzF, zzB, zzE, zz16, Option.some.injEq, exists_eq_left', exists_eq_left, Option.map_some, eq_self, reduceCtorEq, and_self, evS_move, evS_call, evC_value, zz14, evS_assign, poss, lossA, memsD, instsD, assetsD, rollC, D.agg.injEq, memA, memC, instA, instC, zzG, zz6, Nat.reduceEqDiff, ↓reduceIte, atsL, oksG, freeN, AV.ren, AV.renL, addRows, ORow.row, Nat.reduceMul, Nat.reduceAdd, zz9, Option.bind_some, Option.map_some, forall_eq', D.sl.injEq, S_mem, Option.some.injEq, exists_eq_left', exists_eq_left, exists_eq', exists_eq, List.length_cons, zz2]
    refine hK0 _ ?_; try clear hK0 K0
    refine awp_keepL [1, 2, 3, 4, 9, 10, 11, 12, 13, 14, 15, 16] ?_
    simp only [zz20, zzI, look_nil, Nat.reduceBEq]
    refine awp_seq fun K0 hK0 => ?_
    refine awp_plain F_mixed [some 55, some 56, some 57, some 58, some 59, some 54, some 60, some 61, some 17, some 18] rfl ?_
    simp only [List.nil_append, List.cons_append, true_and, and_true, zz0, true_implies, Nat.reduceLT, Nat.reduceLeDiff, zzI, look_nil, Nat.reduceBEq, implies_true, F_ok26, F_ag26, F_sz26, zz8, zz23, zzD, Nat.reduceAdd, Nat.zero_add, zzF, zzB, zzE, zz16, Option.some.injEq, exists_eq_left', exists_eq_left, Option.map_some, eq_self, reduceCtorEq, and_self, evS_move, evS_call, evC_value, zz14, evS_assign, poss, lossA, memsD, instsD, assetsD, rollC, D.agg.injEq, memA, memC, instA, instC, zzG, zz6, Nat.reduceEqDiff, ↓reduceIte]
    refine call_go F_go14 (fun hG => rMargin_ r who cur l h (by omega)) (by simp [AV.ids, AV.idsL, lossA]) (by simp) ?_
    simp only [List.nil_append, List.cons_append, true_and, and_true, zz0, true_implies, Nat.reduceLT, Nat.reduceLeDiff, zzI, look_nil, Nat.reduceBEq, implies_true, F_ok26, F_ag26, F_sz26, zz8, zz23, zzD, Nat.reduceAdd, Nat.zero_add, zzF, zzB, zzE, zz16, Option.some.injEq, exists_eq_left', exists_eq_left, Option.map_some, eq_self, reduceCtorEq, and_self, evS_move, evS_call, evC_value, zz14, evS_assign, poss, lossA, memsD, instsD, assetsD, rollC, D.agg.injEq, memA, memC, instA, instC, zzG, zz6, Nat.reduceEqDiff, ↓reduceIte, atsL, oksG, freeN, AV.ren, AV.renL, addRows, ORow.row, Nat.reduceMul, Nat.reduceAdd, zz9, Option.bind_some, Option.map_some, forall_eq', D.sl.injEq, S_mem, Option.some.injEq, exists_eq_left', exists_eq_left, exists_eq', exists_eq, List.length_cons, zz2]
    refine hK0 _ ?_; try clear hK0 K0
    refine awp_keepL [3, 4, 9, 10, 11, 12, 13, 14, 15, 16, 17, 18] ?_
    simp only [zz20, zzI, look_nil, Nat.reduceBEq]
    refine awp_seq fun K0 hK0 => ?_
    refine awp_plain F_mixed [some 62, some 63, some 64, some 65, some 66, some 67, some 68, some 69, some 70, some 71, some 72, some 73, some 74, some 75, some 76, some 77, some 78, some 79, some 80, some 81, some 82, some 83, some 84, some 85, some 86, some 87, some 88, some 89, some 90, some 91, some 92, some 8] rfl ?_
    simp only [List.nil_append, List.cons_append, true_and, and_true, zz0, true_implies, Nat.reduceLT, Nat.reduceLeDiff, zzI, look_nil, Nat.reduceBEq, implies_true, Nat.reduceSub, S_getD, zz5, and_imp, imp_and, imp_self, and_self, F_ok31, F_ag31, F_sz31, zz8, zz23, zzD, Nat.reduceAdd, Nat.zero_add, zzF, zzB, zzE, zz16, Option.some.injEq, exists_eq_left', exists_eq_left, Option.map_some, eq_self, reduceCtorEq, zz21, gr_v, gr_ag, gr_agg, grL_cons, grL_nil, grD_cons, grD_nil, b_eqla, b_neqa, F_eql31, evS_move, zz34, zz13, F_ok26, F_ag26, F_sz26, evS_call, evC_value, evS_assign, poss, memsD, instsD, assetsD, rollC, D.agg.injEq, memA, memC, instA, instC, zzG, zz6, Nat.reduceEqDiff, ↓reduceIte]
    refine call_go F_go15 (fun hG => kRoll_ r h) (by simp [AV.ids, AV.idsL]) (by simp) ?_
    simp only [List.nil_append, List.cons_append, true_and, and_true, zz0, true_implies, Nat.reduceLT, Nat.reduceLeDiff, zzI, look_nil, Nat.reduceBEq, implies_true, Nat.reduceSub, S_getD, zz5, and_imp, imp_and, imp_self, and_self, F_ok31, F_ag31, F_sz31, zz8, zz23, zzD, Nat.reduceAdd, Nat.zero_add, zzF, zzB, zzE, zz16, Option.some.injEq, exists_eq_left', exists_eq_left, Option.map_some, eq_self, reduceCtorEq, zz21, gr_v, gr_ag, gr_agg, grL_cons, grL_nil, grD_cons, grD_nil, b_eqla, b_neqa, F_eql31, evS_move, zz34, zz13, F_ok26, F_ag26, F_sz26, evS_call, evC_value, evS_assign, poss, memsD, instsD, assetsD, rollC, D.agg.injEq, memA, memC, instA, instC, zzG, zz6, Nat.reduceEqDiff, ↓reduceIte, atsL, oksG, freeN, AV.ren, AV.renL, addRows, ORow.row, Nat.reduceMul, Nat.reduceAdd, zz9, Option.bind_some, Option.map_some, forall_eq', D.sl.injEq, S_mem, Option.some.injEq, exists_eq_left', exists_eq_left, exists_eq', exists_eq, List.length_cons, zz2]
    refine call_go F_go16 (fun hG => kPoss_ l (by omega)) (by simp [AV.ids, AV.idsL]) (by simp) ?_
    simp only [List.nil_append, List.cons_append, true_and, and_true, zz0, true_implies, Nat.reduceLT, Nat.reduceLeDiff, zzI, look_nil, Nat.reduceBEq, implies_true, Nat.reduceSub, S_getD, zz5, and_imp, imp_and, imp_self, and_self, F_ok31, F_ag31, F_sz31, zz8, zz23, zzD, Nat.reduceAdd, Nat.zero_add, zzF, zzB, zzE, zz16, Option.some.injEq, exists_eq_left', exists_eq_left, Option.map_some, eq_self, reduceCtorEq, zz21, gr_v, gr_ag, gr_agg, grL_cons, grL_nil, grD_cons, grD_nil, b_eqla, b_neqa, F_eql31, evS_move, zz34, zz13, F_ok26, F_ag26, F_sz26, evS_call, evC_value, evS_assign, poss, memsD, instsD, assetsD, rollC, D.agg.injEq, memA, memC, instA, instC, zzG, zz6, Nat.reduceEqDiff, ↓reduceIte, atsL, oksG, freeN, AV.ren, AV.renL, addRows, ORow.row, Nat.reduceMul, Nat.reduceAdd, zz9, Option.bind_some, Option.map_some, forall_eq', D.sl.injEq, S_mem, Option.some.injEq, exists_eq_left', exists_eq_left, exists_eq', exists_eq, List.length_cons, zz2]
    refine call_go F_go17 (fun hG => wakes15_) (by simp [AV.ids, AV.idsL]) (by simp) ?_
    simp only [List.nil_append, List.cons_append, true_and, and_true, zz0, true_implies, Nat.reduceLT, Nat.reduceLeDiff, zzI, look_nil, Nat.reduceBEq, implies_true, Nat.reduceSub, S_getD, zz5, and_imp, imp_and, imp_self, and_self, F_ok31, F_ag31, F_sz31, zz8, zz23, zzD, Nat.reduceAdd, Nat.zero_add, zzF, zzB, zzE, zz16, Option.some.injEq, exists_eq_left', exists_eq_left, Option.map_some, eq_self, reduceCtorEq, zz21, gr_v, gr_ag, gr_agg, grL_cons, grL_nil, grD_cons, grD_nil, b_eqla, b_neqa, F_eql31, evS_move, zz34, zz13, F_ok26, F_ag26, F_sz26, evS_call, evC_value, evS_assign, poss, memsD, instsD, assetsD, rollC, D.agg.injEq, memA, memC, instA, instC, zzG, zz6, Nat.reduceEqDiff, ↓reduceIte, atsL, oksG, freeN, AV.ren, AV.renL, addRows, ORow.row, Nat.reduceMul, Nat.reduceAdd, zz9, Option.bind_some, Option.map_some, forall_eq', D.sl.injEq, S_mem, Option.some.injEq, exists_eq_left', exists_eq_left, exists_eq', exists_eq, List.length_cons, zz2]
    refine hK0 _ ?_; try clear hK0 K0
    refine awp_keepL [8] ?_
    simp only [zz20, zzI, look_nil, Nat.reduceBEq]
    refine awp_ret ?_
    simp only [zz6, Nat.reduceEqDiff, ↓reduceIte]
    refine done0 (by simp only [resCs, resC]; trivial) ?_ (by simp [flatA, flatAs, flatD]) (by simp [AV.ids, AV.idsL])
    simp only [List.map_cons, List.map_nil, resA, S_getD, Nat.reduceLT, Nat.reduceLeDiff, look_cons, Nat.reduceBEq, cond_true, cond_false, resAll]
    simp [veqL, veq]
end Go.Proofs.Ytcpiojfhbebfiaa
