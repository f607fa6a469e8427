import Derived.Test.YtcpiojfhbebfiaaWpV
namespace Go.Proofs.Ytcpiojfhbebfiaa
open Go.RowKit
set_option linter.unusedVariables false
set_option linter.unusedSimpArgs false
theorem F_go8 : goFn Try.prog 8 := ⟨_, Try.func8, rfl, rfl⟩
theorem F_go17 : goFn Try.prog 17 := ⟨_, Try.func17, rfl, rfl⟩
theorem F_go10 : goFn Try.prog 10 := ⟨_, Try.func10, rfl, rfl⟩
set_option maxRecDepth 100000 in
set_option maxHeartbeats 4000000 in
theorem gridCovers_ (r : RollV) (who cur : Int) (l : List PosV) : ACalls Try.prog 4 [.agg (rollC r), iv who, iv cur, poss l] [] (bv true) := by
  refine acalls_S (rs := [.tmp 8]) Try.func4 rfl rfl 99 [(0, .d (.agg (rollC r))), (1, .d (iv who)), (2, .d (iv cur)), (3, .d (poss l))] rfl (by simp) rfl ?_
  refine awp_seq fun K0 hK0 => ?_
  refine awp_plain F_mixed [some 4, some 8] rfl ?_
  simp only [List.nil_append, List.cons_append, true_and, and_true, zz0, true_implies, Nat.reduceLT, Nat.reduceLeDiff, zzI, look_nil, Nat.reduceBEq, implies_true, zz35, newRow1, zz1, zzG, zzD, zz16, Option.some.injEq, exists_eq_left', exists_eq_left, Option.map_some, eq_self, reduceCtorEq, and_self, Nat.reduceAdd, Nat.zero_add, zzF, zzB, zzE, evS_assign, rollC, memsD, instsD, assetsD, zz6, Nat.reduceEqDiff, ↓reduceIte]
  refine hK0 _ ?_; try clear hK0 K0
  refine awp_keepL [1, 2, 3, 4] ?_
  simp only [zz20, zzI, look_nil, Nat.reduceBEq]
  refine awp_seq fun K0 hK0 => ?_
  refine awp_seq fun K1 hK1 => ?_
  refine awp_plain F_mixed [some 17, some 18, some 19, some 20, some 21, some 22, some 23] rfl ?_
  simp only [List.nil_append, List.cons_append, true_and, and_true, zz0, true_implies, Nat.reduceLT, Nat.reduceLeDiff, zzI, look_nil, Nat.reduceBEq, implies_true, Nat.reduceSub, S_getD, zz5, and_imp, imp_and, imp_self, and_self, F_ok26, F_ag26, F_sz26, zz8, zz23, zzD, Nat.reduceAdd, Nat.zero_add, zzF, zzB, zzE, zz16, Option.some.injEq, exists_eq_left', exists_eq_left, Option.map_some, eq_self, reduceCtorEq, evS_call, evC_value, evS_move, zz12, F_sl27, Option.isSome_some, zz21, gr_v, zz25, zz13, poss, len_map, memsD, instsD, assetsD, rollC, D.agg.injEq, memA, memC, instA, instC, zzG, zz6, Nat.reduceEqDiff, ↓reduceIte]
  refine call_go F_go8 (fun hG => heavy_ r) (by simp [AV.ids, AV.idsL]) (by simp) ?_
  simp only [List.nil_append, List.cons_append, true_and, and_true, zz0, true_implies, Nat.reduceLT, Nat.reduceLeDiff, zzI, look_nil, Nat.reduceBEq, implies_true, Nat.reduceSub, S_getD, zz5, and_imp, imp_and, imp_self, and_self, F_ok26, F_ag26, F_sz26, zz8, zz23, zzD, Nat.reduceAdd, Nat.zero_add, zzF, zzB, zzE, zz16, Option.some.injEq, exists_eq_left', exists_eq_left, Option.map_some, eq_self, reduceCtorEq, evS_call, evC_value, evS_move, zz12, F_sl27, Option.isSome_some, zz21, gr_v, zz25, zz13, poss, len_map, memsD, instsD, assetsD, rollC, D.agg.injEq, memA, memC, instA, instC, zzG, zz6, Nat.reduceEqDiff, ↓reduceIte, atsL, oksG, freeN, AV.ren, AV.renL, addRows, ORow.row, Nat.reduceMul, Nat.reduceAdd, zz9, Option.bind_some, Option.map_some, forall_eq', D.sl.injEq, S_mem, Option.some.injEq, exists_eq_left', exists_eq_left, exists_eq', exists_eq, List.length_cons, zz2]
  refine hK1 _ ?_; try clear hK1 K1
  refine awp_keepL [1, 2, 3, 4, 23] ?_
  simp only [zz20, zzI, look_nil, Nat.reduceBEq]
  refine awp_condS _ (by decide) (by simp only [look_cons, Nat.reduceBEq, cond_true, cond_false]; rfl) ?_ ?_
  · intro hb
    clear hb
    refine awp_seq fun K2 hK2 => ?_
    refine awp_plain F_mixed [some 8] rfl ?_
    simp only [List.nil_append, List.cons_append, true_and, and_true, zz0, true_implies, Nat.reduceLT, Nat.reduceLeDiff, zzI, look_nil, Nat.reduceBEq, implies_true, evS_assign, zz6, Nat.reduceEqDiff, ↓reduceIte]
    refine hK2 _ ?_; try clear hK2 K2
    refine awp_keepL [8] ?_
    simp only [zz20, zzI, look_nil, Nat.reduceBEq]
    refine awp_ret ?_
    simp only [zz6, Nat.reduceEqDiff, ↓reduceIte]
    refine done0 (by simp only [resCs, resC]; trivial) ?_ (by simp [flatA, flatAs, flatD]) (by simp [AV.ids, AV.idsL])
    simp only [List.map_cons, List.map_nil, resA, S_getD, Nat.reduceLT, Nat.reduceLeDiff, look_cons, Nat.reduceBEq, cond_true, cond_false, resAll]
    
  · intro hb
    simp only [Bool.or_eq_false_iff] at hb
    have h := small_of hb.1
    have hl : l.length ≤ 300 := by have := hb.2; simp at this; omega
    clear hb
    refine awp_skip ?_
    simp only [zz6, Nat.reduceEqDiff, ↓reduceIte]
    refine hK0 _ ?_; try clear hK0 K0
    refine awp_keepL [1, 2, 3, 4] ?_
    simp only [zz20, zzI, look_nil, Nat.reduceBEq]
    refine awp_seq fun K0 hK0 => ?_
    refine awp_plain F_mixed [some 25, some 26, some 27, some 28, some 29, some 24, some 30, some 31, some 9, none, some 10] rfl ?_
    simp only [List.nil_append, List.cons_append, true_and, and_true, zz0, true_implies, Nat.reduceLT, Nat.reduceLeDiff, zzI, look_nil, Nat.reduceBEq, implies_true, F_ok26, F_ag26, F_sz26, zz8, zz23, zzD, Nat.reduceAdd, Nat.zero_add, zzF, zzB, zzE, zz16, Option.some.injEq, exists_eq_left', exists_eq_left, Option.map_some, eq_self, reduceCtorEq, and_self, evS_move, evS_call, evC_value, zz14, zz32, newRow1, F_zero31, zz10, zz18, F_ok31, F_sz31, splice, List.append_nil, zz1, zzG, evS_assign, poss, lossA, memsD, instsD, assetsD, rollC, D.agg.injEq, memA, memC, instA, instC, List.map_cons, zz6, Nat.reduceEqDiff, ↓reduceIte]
    refine call_go F_go11 (fun hG => Losses_ r who cur l h (by omega)) (by simp [AV.ids, AV.idsL, lossA]) (by simp) ?_
    simp only [List.nil_append, List.cons_append, true_and, and_true, zz0, true_implies, Nat.reduceLT, Nat.reduceLeDiff, zzI, look_nil, Nat.reduceBEq, implies_true, F_ok26, F_ag26, F_sz26, zz8, zz23, zzD, Nat.reduceAdd, Nat.zero_add, zzF, zzB, zzE, zz16, Option.some.injEq, exists_eq_left', exists_eq_left, Option.map_some, eq_self, reduceCtorEq, and_self, evS_move, evS_call, evC_value, zz14, zz32, newRow1, F_zero31, zz10, zz18, F_ok31, F_sz31, splice, List.append_nil, zz1, zzG, evS_assign, poss, lossA, memsD, instsD, assetsD, rollC, D.agg.injEq, memA, memC, instA, instC, List.map_cons, zz6, Nat.reduceEqDiff, ↓reduceIte, atsL, oksG, freeN, AV.ren, AV.renL, addRows, ORow.row, Nat.reduceMul, Nat.reduceAdd, zz9, Option.bind_some, Option.map_some, forall_eq', D.sl.injEq, S_mem, Option.some.injEq, exists_eq_left', exists_eq_left, exists_eq', exists_eq, List.length_cons, zz2]
    refine hK0 _ ?_; try clear hK0 K0
    refine awp_keepL [1, 2, 3, 4, 9, 10] ?_
    simp only [zz20, zzI, look_nil, Nat.reduceBEq]
    refine awp_seq fun K0 hK0 => ?_
    refine awp_plain F_mixed [some 33, some 34, some 35, some 36, some 37, some 32, some 38, some 39, some 11, some 12] rfl ?_
    simp only [List.nil_append, List.cons_append, true_and, and_true, zz0, true_implies, Nat.reduceLT, Nat.reduceLeDiff, zzI, look_nil, Nat.reduceBEq, implies_true, F_ok26, F_ag26, F_sz26, zz8, zz23, zzD, Nat.reduceAdd, Nat.zero_add, zzF, zzB, zzE, zz16, Option.some.injEq, exists_eq_left', exists_eq_left, Option.map_some, eq_self, reduceCtorEq, and_self, evS_move, evS_call, evC_value, zz14, evS_assign, poss, memsD, instsD, assetsD, rollC, D.agg.injEq, memA, memC, instA, instC, zzG, zz6, Nat.reduceEqDiff, ↓reduceIte]
    refine call_go F_go13 (fun hG => Margin_ r who cur l h (by omega)) (by simp [AV.ids, AV.idsL]) (by simp) ?_
    simp only [List.nil_append, List.cons_append, true_and, and_true, zz0, true_implies, Nat.reduceLT, Nat.reduceLeDiff, zzI, look_nil, Nat.reduceBEq, implies_true, F_ok26, F_ag26, F_sz26, zz8, zz23, zzD, Nat.reduceAdd, Nat.zero_add, zzF, zzB, zzE, zz16, Option.some.injEq, exists_eq_left', exists_eq_left, Option.map_some, eq_self, reduceCtorEq, and_self, evS_move, evS_call, evC_value, zz14, evS_assign, poss, memsD, instsD, assetsD, rollC, D.agg.injEq, memA, memC, instA, instC, zzG, zz6, Nat.reduceEqDiff, ↓reduceIte, atsL, oksG, freeN, AV.ren, AV.renL, addRows, ORow.row, Nat.reduceMul, Nat.reduceAdd, zz9, Option.bind_some, Option.map_some, forall_eq', D.sl.injEq, S_mem, Option.some.injEq, exists_eq_left', exists_eq_left, exists_eq', exists_eq, List.length_cons, zz2]
    refine hK0 _ ?_; try clear hK0 K0
    refine awp_keepL [1, 2, 3, 4, 9, 10, 11, 12] ?_
    simp only [zz20, zzI, look_nil, Nat.reduceBEq]
    refine awp_seq fun K0 hK0 => ?_
    refine awp_seq fun K1 hK1 => ?_
    refine awp_plain F_mixed [some 40, some 41, some 42, some 43, some 44, some 45] rfl ?_
    simp only [List.nil_append, List.cons_append, true_and, and_true, zz0, true_implies, Nat.reduceLT, Nat.reduceLeDiff, zzI, look_nil, Nat.reduceBEq, implies_true, Nat.reduceSub, S_getD, zz5, and_imp, imp_and, imp_self, and_self, evS_move, zz21, gr_v, zz28, zz13, zz6, Nat.reduceEqDiff, ↓reduceIte]
    refine hK1 _ ?_; try clear hK1 K1
    refine awp_keepL [1, 2, 3, 4, 9, 11, 45] ?_
    simp only [zz20, zzI, look_nil, Nat.reduceBEq]
    refine awp_condS _ (by decide) (by simp only [look_cons, Nat.reduceBEq, cond_true, cond_false]; rfl) ?_ ?_
    · intro hb
      clear hb
      refine awp_seq fun K2 hK2 => ?_
      refine awp_plain F_mixed [some 46, some 8] rfl ?_
      simp only [List.nil_append, List.cons_append, true_and, and_true, zz0, true_implies, Nat.reduceLT, Nat.reduceLeDiff, zzI, look_nil, Nat.reduceBEq, implies_true, evS_call, evC_value, evS_assign, zz6, Nat.reduceEqDiff, ↓reduceIte]
      refine call_go F_go17 (fun hG => wakes15_) (by simp [AV.ids, AV.idsL]) (by simp) ?_
      simp only [List.nil_append, List.cons_append, true_and, and_true, zz0, true_implies, Nat.reduceLT, Nat.reduceLeDiff, zzI, look_nil, Nat.reduceBEq, implies_true, evS_call, evC_value, evS_assign, zz6, Nat.reduceEqDiff, ↓reduceIte, atsL, oksG, freeN, AV.ren, AV.renL, addRows, ORow.row, Nat.reduceMul, Nat.reduceAdd, zz9, Option.bind_some, Option.map_some, forall_eq', D.sl.injEq, zz16, Option.some.injEq, exists_eq_left', exists_eq_left, exists_eq', exists_eq, zzD, zz2]
      refine hK2 _ ?_; try clear hK2 K2
      refine awp_keepL [8] ?_
      simp only [zz20, zzI, look_nil, Nat.reduceBEq]
      refine awp_ret ?_
      simp only [zz6, Nat.reduceEqDiff, ↓reduceIte]
      refine done0 (by simp only [resCs, resC]; trivial) ?_ (by simp [flatA, flatAs, flatD]) (by simp [AV.ids, AV.idsL])
      simp only [List.map_cons, List.map_nil, resA, S_getD, Nat.reduceLT, Nat.reduceLeDiff, look_cons, Nat.reduceBEq, cond_true, cond_false, resAll]
      
    · intro hb
      have hL : lossE r who cur l = 0 := by simp at hb; exact hb.1
      have hM : margE r who cur l = 0 := by simp at hb; exact hb.2
      clear hb
      have c1 := covers_law hM
      have c2 := turn_law hL
      refine awp_skip ?_
      simp only [zz6, Nat.reduceEqDiff, ↓reduceIte]
      refine hK0 _ ?_; try clear hK0 K0
      refine awp_keepL [1, 2, 3, 4, 9, 11] ?_
      simp only [zz20, zzI, look_nil, Nat.reduceBEq]
      refine awp_seq fun K0 hK0 => ?_
      refine awp_plain F_mixed [some 47, some 48, some 13] rfl ?_
      simp only [List.nil_append, List.cons_append, true_and, and_true, zz0, true_implies, Nat.reduceLT, Nat.reduceLeDiff, zzI, look_nil, Nat.reduceBEq, implies_true, evS_move, evS_call, evC_value, evS_assign, poss, zz6, Nat.reduceEqDiff, ↓reduceIte]
      refine call_go F_go10 (fun hG => twinPoss_ l (by omega)) (by simp [AV.ids, AV.idsL]) (by simp) ?_
      simp only [List.nil_append, List.cons_append, true_and, and_true, zz0, true_implies, Nat.reduceLT, Nat.reduceLeDiff, zzI, look_nil, Nat.reduceBEq, implies_true, evS_move, evS_call, evC_value, evS_assign, poss, zz6, Nat.reduceEqDiff, ↓reduceIte, atsL, oksG, freeN, AV.ren, AV.renL, addRows, ORow.row, Nat.reduceMul, Nat.reduceAdd, zz9, Option.bind_some, Option.map_some, forall_eq', D.sl.injEq, zz16, Option.some.injEq, exists_eq_left', exists_eq_left, exists_eq', exists_eq, zzD, zz2]
      refine hK0 _ ?_; try clear hK0 K0
      refine awp_keepL [1, 2, 4, 9, 11, 13] ?_
      simp only [zz20, zzI, look_nil, Nat.reduceBEq]
      refine awp_seq fun K0 hK0 => ?_
      refine awp_seq fun K1 hK1 => ?_
      refine awp_plain F_mixed [some 14] rfl ?_
      simp only [List.nil_append, List.cons_append, true_and, and_true, zz0, true_implies, Nat.reduceLT, Nat.reduceLeDiff, zzI, look_nil, Nat.reduceBEq, implies_true, evS_assign, zz6, Nat.reduceEqDiff, ↓reduceIte]
      refine hK1 _ ?_; try clear hK1 K1
      refine awp_keepL [1, 2, 4, 9, 11, 13, 14] ?_
      simp only [zz20, zzI, look_nil, Nat.reduceBEq]
      refine awp_block ?_
      refine awp_loop (fun m s => ∃ A pre post : List PosV, l = pre ++ post ∧ A = pre.map negQ ∧ m = post.length ∧ s = S 99 [(1, .d (iv who)), (2, .d (iv cur)), (4, .ptr 4 0 0), (9, .ptr 9 0 0), (11, .d (iv (margV r who cur l))), (13, .ref 49000 (A ++ post).length), (14, .d (iv A.length))] [(4, (⟨True, 26, 3, true, false, 4, [[.d (.sl 3 (r.mems.map memC)), .d (.sl 12 (r.insts.map instC)), .d (.sl 4 (r.assets.map assetC))]]⟩ : ARow)), (9, (⟨True, 31, 6, true, false, 9, [[.d (iv (lossV r who cur l 0)), .d (iv (lossV r who cur l 1)), .d (iv (lossV r who cur l 2)), .d (iv (lossV r who cur l 3)), .d (iv (lossV r who cur l 4)), .d (iv (lossV r who cur l 5))]]⟩ : ARow)), (49000, (⟨True, 46, 4, true, true, 49000, (A ++ post).map (avC posC)⟩ : ARow))]) l.length _ (le_SK id [] rfl (l' := [(1, .d (iv who)), (2, .d (iv cur)), (4, .ptr 4 0 0), (9, .ptr 9 0 0), (11, .d (iv (margV r who cur l))), (13, .ref 49000 (([] : List PosV) ++ l).length), (14, .d (iv ([] : List PosV).length))]) (m' := [(4, (⟨True, 26, 3, true, false, 4, [[.d (.sl 3 (r.mems.map memC)), .d (.sl 12 (r.insts.map instC)), .d (.sl 4 (r.assets.map assetC))]]⟩ : ARow)), (9, (⟨True, 31, 6, true, false, 9, [[.d (iv (lossV r who cur l 0)), .d (iv (lossV r who cur l 1)), .d (iv (lossV r who cur l 2)), .d (iv (lossV r who cur l 3)), .d (iv (lossV r who cur l 4)), .d (iv (lossV r who cur l 5))]]⟩ : ARow)), (49000, (⟨True, 46, 4, true, true, 49000, (([] : List PosV) ++ l).map (avC posC)⟩ : ARow))]) ?_ ?_ ?_ ?_) ⟨[], [], l, rfl, rfl, rfl, rfl⟩ ?_
      · simp only [leV, look_cons, Nat.reduceBEq, cond_true, cond_false]; exact ⟨VLe.refl _, VLe.refl _, VLe.refl _, VLe.refl _, VLe.refl _, VLe.refl _, VLe.refl _, trivial⟩
      · exact ⟨fun _ => ⟨_, rfl, RowLe.still (by simp [AV.idsL, AV.ids])⟩, fun h => by simp at h, fun _ => ⟨_, rfl, RowLe.still (by simp [AV.idsL, AV.ids])⟩, fun h => by simp at h, fun _ => ⟨_, rfl, RowLe.same (by simp [avC]) (by rw [avC_map]; exact idsL_avC _ _)⟩, fun h => by simp at h, trivial⟩
      · simp [wfV, AV.ids, lookR]
      · exact ⟨by simp [AV.idsL, AV.ids], by simp [AV.idsL, AV.ids], fun e he r' hr' => by rw [idsL_avC _ _ e he] at hr'; simp at hr', trivial⟩
      rintro m s ⟨A, pre, post, hsp, hA, rfl, rfl⟩
      refine awp_seq fun K2 hK2 => ?_
      refine awp_seq fun K3 hK3 => ?_
      refine awp_plain F_mixed [some 49, some 50, some 51, some 52] rfl ?_
      simp only [List.nil_append, List.cons_append, true_and, and_true, zz0, true_implies, Nat.reduceLT, Nat.reduceLeDiff, zzI, look_nil, Nat.reduceBEq, implies_true, evS_move, evS_call, zz12, F_sl27, Option.isSome_some, zz21, gr_v, zz22, zz6, Nat.reduceEqDiff, ↓reduceIte]
      refine hK3 _ ?_; try clear hK3 K3
      refine awp_keepL [1, 2, 4, 9, 11, 13, 14, 52] ?_
      simp only [zz20, zzI, look_nil, Nat.reduceBEq]
      refine awp_condS _ (by decide) (by simp only [look_cons, Nat.reduceBEq, cond_true, cond_false]; rfl) ?_ ?_
      · intro hb
        obtain ⟨x, post, rfl⟩ := more_of hb; clear hb
        have hw : IntKind.wrap .i64 ((A.length : Int) + 1) = ((A ++ [negQ x]).length : Int) := by
          have e := congrArg List.length hsp
          simp only [List.length_append, List.length_cons] at e
          have e2 : A.length = pre.length := by rw [hA]; simp
          rw [wrapI (by omega) (by omega)]; simp
        refine awp_skip ?_
        simp only [zz6, Nat.reduceEqDiff, ↓reduceIte]
        refine hK2 _ ?_; try clear hK2 K2
        refine awp_keepL [1, 2, 4, 9, 11, 13, 14] ?_
        simp only [zz20, zzI, look_nil, Nat.reduceBEq]
        refine awp_seq fun K2 hK2 => ?_
        refine awp_block ?_
        refine awp_plain F_mixed [some 55, some 56, some 57, some 58, some 59, some 60, some 61, some 62, some 63, some 64, none] rfl ?_
        simp only [List.nil_append, List.cons_append, true_and, and_true, zz0, true_implies, Nat.reduceLT, Nat.reduceLeDiff, zzI, look_nil, Nat.reduceBEq, implies_true, evS_move, evS_indexAddr, zz23, zz24, F_sl27, F_sz46, Option.map_some, zz16, Option.some.injEq, exists_eq_left', exists_eq_left, eq_self, reduceCtorEq, and_self, zz19, F_off46_1, zzB, Nat.zero_add, Nat.reduceAdd, F_ok3, F_ag3, F_sz3, zz8, zzD, zzF, zzE, zz29, gr_v, zz37, zz18, splice, List.append_nil, zz1, zzG, getD_mid, len_map, lt_mid, ge_mid, lt_midN, set_mid, avC, posC, List.map_cons, zz6, Nat.reduceEqDiff, ↓reduceIte]
        refine hK2 _ ?_; try clear hK2 K2
        refine awp_keepL [1, 2, 4, 9, 11, 13, 14] ?_
        simp only [zz20, zzI, look_nil, Nat.reduceBEq]
        refine awp_plain F_mixed [some 53, some 54, some 14] rfl ?_
        simp only [List.nil_append, List.cons_append, true_and, and_true, zz0, true_implies, Nat.reduceLT, Nat.reduceLeDiff, zzI, look_nil, Nat.reduceBEq, implies_true, evS_move, zz21, gr_v, zz26, evS_assign, zz6, Nat.reduceEqDiff, ↓reduceIte]
        refine ⟨post.length, _, by simp, le_SK id [] rfl (l' := [(1, .d (iv who)), (2, .d (iv cur)), (4, .ptr 4 0 0), (9, .ptr 9 0 0), (11, .d (iv (margV r who cur l))), (13, .ref 49000 ((A ++ [negQ x]) ++ post).length), (14, .d (iv (A ++ [negQ x]).length))]) (m' := [(4, (⟨True, 26, 3, true, false, 4, [[.d (.sl 3 (r.mems.map memC)), .d (.sl 12 (r.insts.map instC)), .d (.sl 4 (r.assets.map assetC))]]⟩ : ARow)), (9, (⟨True, 31, 6, true, false, 9, [[.d (iv (lossV r who cur l 0)), .d (iv (lossV r who cur l 1)), .d (iv (lossV r who cur l 2)), .d (iv (lossV r who cur l 3)), .d (iv (lossV r who cur l 4)), .d (iv (lossV r who cur l 5))]]⟩ : ARow)), (49000, (⟨True, 46, 4, true, true, 49000, ((A ++ [negQ x]) ++ post).map (avC posC)⟩ : ARow))]) ?_ ?_ ?_ ?_, A ++ [negQ x], pre ++ [x], post, by simp [hsp], by simp [hA], rfl, rfl⟩
        · simp only [leV, look_cons, Nat.reduceBEq, cond_true, cond_false, hw]
          refine ⟨VLe.refl _, VLe.refl _, VLe.refl _, VLe.refl _, VLe.refl _, ?_, ?_, trivial⟩
          · rw [show (A ++ x :: post).length = (A ++ [negQ x] ++ post).length from by simp]; exact VLe.refl _
          · exact VLe.refl _
        · exact ⟨fun _ => ⟨_, rfl, RowLe.still (by simp [AV.idsL, AV.ids])⟩, fun h => by simp at h, fun _ => ⟨_, rfl, RowLe.still (by simp [AV.idsL, AV.ids])⟩, fun h => by simp at h, fun _ => ⟨_, rfl, RowLe.same (by simp [avC, posC, negQ]) (by
            intro e he
            rcases List.mem_append.1 he with he | he
            · exact idsL_avC _ _ e he
            · rcases List.mem_cons.1 he with rfl | he
              · simp [AV.idsL, AV.ids]
              · exact idsL_avC _ _ e he)⟩, fun h => by simp at h, trivial⟩
        · simp [wfV, AV.ids, lookR]
        · exact ⟨by simp [AV.idsL, AV.ids], by simp [AV.idsL, AV.ids], fun e he r' hr' => by rw [idsL_avC _ _ e he] at hr'; simp at hr', trivial⟩
      · intro hb
        obtain rfl := none_of hb; clear hb
        simp only [List.append_nil] at hsp ⊢
        obtain rfl : l = pre := hsp
        subst hA
        refine awp_exit ?_
        simp only [zz6, Nat.reduceEqDiff, ↓reduceIte]
        refine hK0 _ ?_; try clear hK0 K0
        refine awp_keepL [1, 2, 4, 9, 11, 13] ?_
        simp only [zz20, zzI, look_nil, Nat.reduceBEq]
        refine awp_seq fun K0 hK0 => ?_
        refine awp_plain F_mixed [some 66, some 67, some 68, some 69, some 70, some 65, some 71, some 72, some 15, none, some 10] rfl ?_
        simp only [List.nil_append, List.cons_append, true_and, and_true, zz0, true_implies, Nat.reduceLT, Nat.reduceLeDiff, zzI, look_nil, Nat.reduceBEq, implies_true, F_ok26, F_ag26, F_sz26, zz8, zz23, zzD, Nat.reduceAdd, Nat.zero_add, zzF, zzB, zzE, zz16, Option.some.injEq, exists_eq_left', exists_eq_left, Option.map_some, eq_self, reduceCtorEq, and_self, evS_move, evS_call, evC_value, zz14, zz32, newRow1, F_zero31, zz10, zz18, F_ok31, F_sz31, splice, List.append_nil, zz1, zzG, evS_assign, poss, lossA, unE_avC, len_map, memsD, instsD, assetsD, rollC, D.agg.injEq, memA, memC, instA, instC, List.map_cons, zz6, Nat.reduceEqDiff, ↓reduceIte]
        refine call_go F_go11 (fun hG => Losses_ r who cur (l.map negQ) h (by simp; omega)) (by simp [AV.ids, AV.idsL, lossA]) (by simp) ?_
        simp only [List.nil_append, List.cons_append, true_and, and_true, zz0, true_implies, Nat.reduceLT, Nat.reduceLeDiff, zzI, look_nil, Nat.reduceBEq, implies_true, F_ok26, F_ag26, F_sz26, zz8, zz23, zzD, Nat.reduceAdd, Nat.zero_add, zzF, zzB, zzE, zz16, Option.some.injEq, exists_eq_left', exists_eq_left, Option.map_some, eq_self, reduceCtorEq, and_self, evS_move, evS_call, evC_value, zz14, zz32, newRow1, F_zero31, zz10, zz18, F_ok31, F_sz31, splice, List.append_nil, zz1, zzG, evS_assign, poss, lossA, unE_avC, len_map, memsD, instsD, assetsD, rollC, D.agg.injEq, memA, memC, instA, instC, List.map_cons, zz6, Nat.reduceEqDiff, ↓reduceIte, atsL, oksG, freeN, AV.ren, AV.renL, addRows, ORow.row, Nat.reduceMul, Nat.reduceAdd, zz9, Option.bind_some, Option.map_some, forall_eq', D.sl.injEq, S_mem, Option.some.injEq, exists_eq_left', exists_eq_left, exists_eq', exists_eq, List.length_cons, zz2]
        refine hK0 _ ?_; try clear hK0 K0
        refine awp_keepL [9, 10, 11, 15] ?_
        simp only [zz20, zzI, look_nil, Nat.reduceBEq]
        refine awp_seq fun K0 hK0 => ?_
        refine awp_seq fun K1 hK1 => ?_
        refine awp_plain F_mixed [some 73, some 74, some 75, some 76, some 77, some 78] rfl ?_
        simp only [List.nil_append, List.cons_append, true_and, and_true, zz0, true_implies, Nat.reduceLT, Nat.reduceLeDiff, zzI, look_nil, Nat.reduceBEq, implies_true, Nat.reduceSub, S_getD, zz5, and_imp, imp_and, imp_self, and_self, evS_move, zz21, gr_v, zz28, zz22, zz13, zz6, Nat.reduceEqDiff, ↓reduceIte]
        refine hK1 _ ?_; try clear hK1 K1
        refine awp_keepL [9, 11, 15, 78] ?_
        simp only [zz20, zzI, look_nil, Nat.reduceBEq]
        refine awp_condS _ (by decide) (by simp only [look_cons, Nat.reduceBEq, cond_true, cond_false]; rfl) ?_ ?_
        · intro hb
          rw [c2.1] at hb; have := c1.1; simp at hb; omega
        · intro hb
          clear hb
          refine awp_skip ?_
          simp only [zz6, Nat.reduceEqDiff, ↓reduceIte]
          refine hK0 _ ?_; try clear hK0 K0
          refine awp_keepL [9, 11, 15] ?_
          simp only [zz20, zzI, look_nil, Nat.reduceBEq]
          refine awp_seq fun K0 hK0 => ?_
          refine awp_seq fun K1 hK1 => ?_
          refine awp_plain F_mixed [some 16] rfl ?_
          simp only [List.nil_append, List.cons_append, true_and, and_true, zz0, true_implies, Nat.reduceLT, Nat.reduceLeDiff, zzI, look_nil, Nat.reduceBEq, implies_true, evS_assign, zz6, Nat.reduceEqDiff, ↓reduceIte]
          refine hK1 _ ?_; try clear hK1 K1
          refine awp_keepL [9, 11, 15, 16] ?_
          simp only [zz20, zzI, look_nil, Nat.reduceBEq]
          refine awp_block ?_
          refine awp_loop (fun m s => (m = 6 ∧ s = S 99 [(9, .ptr 9 0 0), (11, .d (iv (margV r who cur l))), (15, .ptr 15 0 0), (16, .d (iv 0))] [(9, (⟨True, 31, 6, true, false, 9, [[.d (iv (lossV r who cur l 0)), .d (iv (lossV r who cur l 1)), .d (iv (lossV r who cur l 2)), .d (iv (lossV r who cur l 3)), .d (iv (lossV r who cur l 4)), .d (iv (lossV r who cur l 5))]]⟩ : ARow)), (15, (⟨True, 31, 6, true, false, 15, [[.d (iv (lossV r who cur (l.map negQ) 0)), .d (iv (lossV r who cur (l.map negQ) 1)), .d (iv (lossV r who cur (l.map negQ) 2)), .d (iv (lossV r who cur (l.map negQ) 3)), .d (iv (lossV r who cur (l.map negQ) 4)), .d (iv (lossV r who cur (l.map negQ) 5))]]⟩ : ARow))]) ∨ (m = 5 ∧ s = S 99 [(9, .ptr 9 0 0), (11, .d (iv (margV r who cur l))), (15, .ptr 15 0 0), (16, .d (iv 1))] [(9, (⟨True, 31, 6, true, false, 9, [[.d (iv (lossV r who cur l 0)), .d (iv (lossV r who cur l 1)), .d (iv (lossV r who cur l 2)), .d (iv (lossV r who cur l 3)), .d (iv (lossV r who cur l 4)), .d (iv (lossV r who cur l 5))]]⟩ : ARow)), (15, (⟨True, 31, 6, true, false, 15, [[.d (iv (lossV r who cur (l.map negQ) 0)), .d (iv (lossV r who cur (l.map negQ) 1)), .d (iv (lossV r who cur (l.map negQ) 2)), .d (iv (lossV r who cur (l.map negQ) 3)), .d (iv (lossV r who cur (l.map negQ) 4)), .d (iv (lossV r who cur (l.map negQ) 5))]]⟩ : ARow))]) ∨ (m = 4 ∧ s = S 99 [(9, .ptr 9 0 0), (11, .d (iv (margV r who cur l))), (15, .ptr 15 0 0), (16, .d (iv 2))] [(9, (⟨True, 31, 6, true, false, 9, [[.d (iv (lossV r who cur l 0)), .d (iv (lossV r who cur l 1)), .d (iv (lossV r who cur l 2)), .d (iv (lossV r who cur l 3)), .d (iv (lossV r who cur l 4)), .d (iv (lossV r who cur l 5))]]⟩ : ARow)), (15, (⟨True, 31, 6, true, false, 15, [[.d (iv (lossV r who cur (l.map negQ) 0)), .d (iv (lossV r who cur (l.map negQ) 1)), .d (iv (lossV r who cur (l.map negQ) 2)), .d (iv (lossV r who cur (l.map negQ) 3)), .d (iv (lossV r who cur (l.map negQ) 4)), .d (iv (lossV r who cur (l.map negQ) 5))]]⟩ : ARow))]) ∨ (m = 3 ∧ s = S 99 [(9, .ptr 9 0 0), (11, .d (iv (margV r who cur l))), (15, .ptr 15 0 0), (16, .d (iv 3))] [(9, (⟨True, 31, 6, true, false, 9, [[.d (iv (lossV r who cur l 0)), .d (iv (lossV r who cur l 1)), .d (iv (lossV r who cur l 2)), .d (iv (lossV r who cur l 3)), .d (iv (lossV r who cur l 4)), .d (iv (lossV r who cur l 5))]]⟩ : ARow)), (15, (⟨True, 31, 6, true, false, 15, [[.d (iv (lossV r who cur (l.map negQ) 0)), .d (iv (lossV r who cur (l.map negQ) 1)), .d (iv (lossV r who cur (l.map negQ) 2)), .d (iv (lossV r who cur (l.map negQ) 3)), .d (iv (lossV r who cur (l.map negQ) 4)), .d (iv (lossV r who cur (l.map negQ) 5))]]⟩ : ARow))]) ∨ (m = 2 ∧ s = S 99 [(9, .ptr 9 0 0), (11, .d (iv (margV r who cur l))), (15, .ptr 15 0 0), (16, .d (iv 4))] [(9, (⟨True, 31, 6, true, false, 9, [[.d (iv (lossV r who cur l 0)), .d (iv (lossV r who cur l 1)), .d (iv (lossV r who cur l 2)), .d (iv (lossV r who cur l 3)), .d (iv (lossV r who cur l 4)), .d (iv (lossV r who cur l 5))]]⟩ : ARow)), (15, (⟨True, 31, 6, true, false, 15, [[.d (iv (lossV r who cur (l.map negQ) 0)), .d (iv (lossV r who cur (l.map negQ) 1)), .d (iv (lossV r who cur (l.map negQ) 2)), .d (iv (lossV r who cur (l.map negQ) 3)), .d (iv (lossV r who cur (l.map negQ) 4)), .d (iv (lossV r who cur (l.map negQ) 5))]]⟩ : ARow))]) ∨ (m = 1 ∧ s = S 99 [(9, .ptr 9 0 0), (11, .d (iv (margV r who cur l))), (15, .ptr 15 0 0), (16, .d (iv 5))] [(9, (⟨True, 31, 6, true, false, 9, [[.d (iv (lossV r who cur l 0)), .d (iv (lossV r who cur l 1)), .d (iv (lossV r who cur l 2)), .d (iv (lossV r who cur l 3)), .d (iv (lossV r who cur l 4)), .d (iv (lossV r who cur l 5))]]⟩ : ARow)), (15, (⟨True, 31, 6, true, false, 15, [[.d (iv (lossV r who cur (l.map negQ) 0)), .d (iv (lossV r who cur (l.map negQ) 1)), .d (iv (lossV r who cur (l.map negQ) 2)), .d (iv (lossV r who cur (l.map negQ) 3)), .d (iv (lossV r who cur (l.map negQ) 4)), .d (iv (lossV r who cur (l.map negQ) 5))]]⟩ : ARow))]) ∨ (m = 0 ∧ s = S 99 [(9, .ptr 9 0 0), (11, .d (iv (margV r who cur l))), (15, .ptr 15 0 0), (16, .d (iv 6))] [(9, (⟨True, 31, 6, true, false, 9, [[.d (iv (lossV r who cur l 0)), .d (iv (lossV r who cur l 1)), .d (iv (lossV r who cur l 2)), .d (iv (lossV r who cur l 3)), .d (iv (lossV r who cur l 4)), .d (iv (lossV r who cur l 5))]]⟩ : ARow)), (15, (⟨True, 31, 6, true, false, 15, [[.d (iv (lossV r who cur (l.map negQ) 0)), .d (iv (lossV r who cur (l.map negQ) 1)), .d (iv (lossV r who cur (l.map negQ) 2)), .d (iv (lossV r who cur (l.map negQ) 3)), .d (iv (lossV r who cur (l.map negQ) 4)), .d (iv (lossV r who cur (l.map negQ) 5))]]⟩ : ARow))])) 6 _ (le_SK id [] rfl (l' := [(9, .ptr 9 0 0), (11, .d (iv (margV r who cur l))), (15, .ptr 15 0 0), (16, .d (iv 0))]) (m' := [(9, (⟨True, 31, 6, true, false, 9, [[.d (iv (lossV r who cur l 0)), .d (iv (lossV r who cur l 1)), .d (iv (lossV r who cur l 2)), .d (iv (lossV r who cur l 3)), .d (iv (lossV r who cur l 4)), .d (iv (lossV r who cur l 5))]]⟩ : ARow)), (15, (⟨True, 31, 6, true, false, 15, [[.d (iv (lossV r who cur (l.map negQ) 0)), .d (iv (lossV r who cur (l.map negQ) 1)), .d (iv (lossV r who cur (l.map negQ) 2)), .d (iv (lossV r who cur (l.map negQ) 3)), .d (iv (lossV r who cur (l.map negQ) 4)), .d (iv (lossV r who cur (l.map negQ) 5))]]⟩ : ARow))]) ?_ ?_ ?_ ?_) (.inl (⟨rfl, rfl⟩)) ?_
          · simp only [leV, look_cons, Nat.reduceBEq, cond_true, cond_false]; exact ⟨VLe.refl _, VLe.refl _, VLe.refl _, VLe.refl _, trivial⟩
          · exact ⟨fun _ => ⟨_, rfl, ⟨id, rfl, rfl, rfl, id, .inl, VLess.refl _⟩⟩, fun h => by simp at h, fun _ => ⟨_, rfl, ⟨id, rfl, rfl, rfl, id, .inl, VLess.refl _⟩⟩, fun h => by simp at h, trivial⟩
          · simp [wfV, AV.ids, AV.idsL, lookR]
          · simp [wfR, AV.idsL, AV.ids]
          rintro m s (⟨rfl, rfl⟩ | ⟨rfl, rfl⟩ | ⟨rfl, rfl⟩ | ⟨rfl, rfl⟩ | ⟨rfl, rfl⟩ | ⟨rfl, rfl⟩ | ⟨rfl, rfl⟩)
          · skip
            refine awp_seq fun K2 hK2 => ?_
            refine awp_seq fun K3 hK3 => ?_
            refine awp_plain F_mixed [some 79, some 80] rfl ?_
            simp only [List.nil_append, List.cons_append, true_and, and_true, zz0, true_implies, Nat.reduceLT, Nat.reduceLeDiff, zzI, look_nil, Nat.reduceBEq, implies_true, evS_move, zz21, gr_v, zz22, zz6, Nat.reduceEqDiff, ↓reduceIte]
            refine hK3 _ ?_; try clear hK3 K3
            refine awp_keepL [9, 11, 15, 16, 80] ?_
            simp only [zz20, zzI, look_nil, Nat.reduceBEq]
            refine awp_condS _ (by decide) (by simp only [look_cons, Nat.reduceBEq, cond_true, cond_false]; rfl) ?_ ?_
            · intro hb
              clear hb
              refine awp_skip ?_
              simp only [zz6, Nat.reduceEqDiff, ↓reduceIte]
              refine hK2 _ ?_; try clear hK2 K2
              refine awp_keepL [9, 11, 15, 16] ?_
              simp only [zz20, zzI, look_nil, Nat.reduceBEq]
              refine awp_seq fun K2 hK2 => ?_
              refine awp_block ?_
              refine awp_seq fun K3 hK3 => ?_
              refine awp_draw F_mixed [some 83, some 84, some 85, some 86, some 87, some 88, some 89, some 90, some 91, some 92, some 93, some 94, some 95, some 96, some 97] rfl (by kernel_rfl) ?_
              simp only [List.nil_append, List.cons_append, true_and, and_true, zz0, true_implies, Nat.reduceLT, Nat.reduceLeDiff, zzI, look_nil, Nat.reduceBEq, implies_true, Nat.reduceSub, S_getD, zz5, and_imp, imp_and, imp_self, and_self, evS_move, evS_indexAddr, zz23, zz15, F_arr31, F_sz3, zz16, Option.some.injEq, exists_eq_left', exists_eq_left, Option.map_some, eq_self, reduceCtorEq, F_ok3, F_ag3, zz8, zzD, Nat.reduceAdd, Nat.zero_add, zzF, zzB, zzE, zz21, gr_v, zz25, zz29, zz37, zz28, zz13, Int.reduceToNat, Int.reduceLT, Int.reduceLE, cast6, Nat.reduceMul, zz6, Nat.reduceEqDiff, ↓reduceIte]
              refine hK3 _ ?_; try clear hK3 K3
              refine awp_keepL [9, 11, 15, 16, 97] ?_
              simp only [zz20, zzI, look_nil, Nat.reduceBEq]
              refine awp_condS _ (by decide) (by simp only [look_cons, Nat.reduceBEq, cond_true, cond_false]; rfl) ?_ ?_
              · intro hb
                have e1 := c1.2 0 (by omega); have e2 := c2.2 0 (by omega); simp only [Int.zero_sub] at e2; simp [← e2] at hb; omega
              · intro hb
                clear hb
                refine awp_skip ?_
                simp only [zz6, Nat.reduceEqDiff, ↓reduceIte]
                refine hK2 _ ?_; try clear hK2 K2
                refine awp_keepL [9, 11, 15, 16] ?_
                simp only [zz20, zzI, look_nil, Nat.reduceBEq]
                refine awp_plain F_mixed [some 81, some 82, some 16] rfl ?_
                simp only [List.nil_append, List.cons_append, true_and, and_true, zz0, true_implies, Nat.reduceLT, Nat.reduceLeDiff, zzI, look_nil, Nat.reduceBEq, implies_true, evS_move, zz21, gr_v, zz26, evS_assign, zz6, Nat.reduceEqDiff, ↓reduceIte]
                refine ⟨5, _, by decide, le_SK id [] rfl (l' := [(9, .ptr 9 0 0), (11, .d (iv (margV r who cur l))), (15, .ptr 15 0 0), (16, .d (iv 1))]) (m' := [(9, (⟨True, 31, 6, true, false, 9, [[.d (iv (lossV r who cur l 0)), .d (iv (lossV r who cur l 1)), .d (iv (lossV r who cur l 2)), .d (iv (lossV r who cur l 3)), .d (iv (lossV r who cur l 4)), .d (iv (lossV r who cur l 5))]]⟩ : ARow)), (15, (⟨True, 31, 6, true, false, 15, [[.d (iv (lossV r who cur (l.map negQ) 0)), .d (iv (lossV r who cur (l.map negQ) 1)), .d (iv (lossV r who cur (l.map negQ) 2)), .d (iv (lossV r who cur (l.map negQ) 3)), .d (iv (lossV r who cur (l.map negQ) 4)), .d (iv (lossV r who cur (l.map negQ) 5))]]⟩ : ARow))]) ?_ ?_ ?_ ?_, .inr (.inl (⟨rfl, rfl⟩))⟩
                · simp only [leV, look_cons, Nat.reduceBEq, cond_true, cond_false]; exact ⟨VLe.refl _, VLe.refl _, VLe.refl _, VLe.refl _, trivial⟩
                · exact ⟨fun _ => ⟨_, rfl, ⟨id, rfl, rfl, rfl, id, .inl, VLess.refl _⟩⟩, fun h => by simp at h, fun _ => ⟨_, rfl, ⟨id, rfl, rfl, rfl, id, .inl, VLess.refl _⟩⟩, fun h => by simp at h, trivial⟩
                · simp [wfV, AV.ids, AV.idsL, lookR]
                · simp [wfR, AV.idsL, AV.ids]
            · intro hb
              simp at hb
          · skip
            refine awp_seq fun K2 hK2 => ?_
            refine awp_seq fun K3 hK3 => ?_
            refine awp_plain F_mixed [some 79, some 80] rfl ?_
            simp only [List.nil_append, List.cons_append, true_and, and_true, zz0, true_implies, Nat.reduceLT, Nat.reduceLeDiff, zzI, look_nil, Nat.reduceBEq, implies_true, evS_move, zz21, gr_v, zz22, zz6, Nat.reduceEqDiff, ↓reduceIte]
            refine hK3 _ ?_; try clear hK3 K3
            refine awp_keepL [9, 11, 15, 16, 80] ?_
            simp only [zz20, zzI, look_nil, Nat.reduceBEq]
            refine awp_condS _ (by decide) (by simp only [look_cons, Nat.reduceBEq, cond_true, cond_false]; rfl) ?_ ?_
            · intro hb
              clear hb
              refine awp_skip ?_
              simp only [zz6, Nat.reduceEqDiff, ↓reduceIte]
              refine hK2 _ ?_; try clear hK2 K2
              refine awp_keepL [9, 11, 15, 16] ?_
              simp only [zz20, zzI, look_nil, Nat.reduceBEq]
              refine awp_seq fun K2 hK2 => ?_
              refine awp_block ?_
              refine awp_seq fun K3 hK3 => ?_
              refine awp_draw F_mixed [some 83, some 84, some 85, some 86, some 87, some 88, some 89, some 90, some 91, some 92, some 93, some 94, some 95, some 96, some 97] rfl (by kernel_rfl) ?_
              simp only [List.nil_append, List.cons_append, true_and, and_true, zz0, true_implies, Nat.reduceLT, Nat.reduceLeDiff, zzI, look_nil, Nat.reduceBEq, implies_true, Nat.reduceSub, S_getD, zz5, and_imp, imp_and, imp_self, and_self, evS_move, evS_indexAddr, zz23, zz15, F_arr31, F_sz3, zz16, Option.some.injEq, exists_eq_left', exists_eq_left, Option.map_some, eq_self, reduceCtorEq, F_ok3, F_ag3, zz8, zzD, Nat.reduceAdd, Nat.zero_add, zzF, zzB, zzE, zz21, gr_v, zz25, zz29, zz37, zz28, zz13, Int.reduceToNat, Int.reduceLT, Int.reduceLE, cast6, Nat.reduceMul, zz6, Nat.reduceEqDiff, ↓reduceIte]
              refine hK3 _ ?_; try clear hK3 K3
              refine awp_keepL [9, 11, 15, 16, 97] ?_
              simp only [zz20, zzI, look_nil, Nat.reduceBEq]
              refine awp_condS _ (by decide) (by simp only [look_cons, Nat.reduceBEq, cond_true, cond_false]; rfl) ?_ ?_
              · intro hb
                have e1 := c1.2 1 (by omega); have e2 := c2.2 1 (by omega); simp only [Int.zero_sub] at e2; simp [← e2] at hb; omega
              · intro hb
                clear hb
                refine awp_skip ?_
                simp only [zz6, Nat.reduceEqDiff, ↓reduceIte]
                refine hK2 _ ?_; try clear hK2 K2
                refine awp_keepL [9, 11, 15, 16] ?_
                simp only [zz20, zzI, look_nil, Nat.reduceBEq]
                refine awp_plain F_mixed [some 81, some 82, some 16] rfl ?_
                simp only [List.nil_append, List.cons_append, true_and, and_true, zz0, true_implies, Nat.reduceLT, Nat.reduceLeDiff, zzI, look_nil, Nat.reduceBEq, implies_true, evS_move, zz21, gr_v, zz26, evS_assign, zz6, Nat.reduceEqDiff, ↓reduceIte]
                refine ⟨4, _, by decide, le_SK id [] rfl (l' := [(9, .ptr 9 0 0), (11, .d (iv (margV r who cur l))), (15, .ptr 15 0 0), (16, .d (iv 2))]) (m' := [(9, (⟨True, 31, 6, true, false, 9, [[.d (iv (lossV r who cur l 0)), .d (iv (lossV r who cur l 1)), .d (iv (lossV r who cur l 2)), .d (iv (lossV r who cur l 3)), .d (iv (lossV r who cur l 4)), .d (iv (lossV r who cur l 5))]]⟩ : ARow)), (15, (⟨True, 31, 6, true, false, 15, [[.d (iv (lossV r who cur (l.map negQ) 0)), .d (iv (lossV r who cur (l.map negQ) 1)), .d (iv (lossV r who cur (l.map negQ) 2)), .d (iv (lossV r who cur (l.map negQ) 3)), .d (iv (lossV r who cur (l.map negQ) 4)), .d (iv (lossV r who cur (l.map negQ) 5))]]⟩ : ARow))]) ?_ ?_ ?_ ?_, .inr (.inr (.inl (⟨rfl, rfl⟩)))⟩
                · simp only [leV, look_cons, Nat.reduceBEq, cond_true, cond_false]; exact ⟨VLe.refl _, VLe.refl _, VLe.refl _, VLe.refl _, trivial⟩
                · exact ⟨fun _ => ⟨_, rfl, ⟨id, rfl, rfl, rfl, id, .inl, VLess.refl _⟩⟩, fun h => by simp at h, fun _ => ⟨_, rfl, ⟨id, rfl, rfl, rfl, id, .inl, VLess.refl _⟩⟩, fun h => by simp at h, trivial⟩
                · simp [wfV, AV.ids, AV.idsL, lookR]
                · simp [wfR, AV.idsL, AV.ids]
            · intro hb
              simp at hb
          · skip
            refine awp_seq fun K2 hK2 => ?_
            refine awp_seq fun K3 hK3 => ?_
            refine awp_plain F_mixed [some 79, some 80] rfl ?_
            simp only [List.nil_append, List.cons_append, true_and, and_true, zz0, true_implies, Nat.reduceLT, Nat.reduceLeDiff, zzI, look_nil, Nat.reduceBEq, implies_true, evS_move, zz21, gr_v, zz22, zz6, Nat.reduceEqDiff, ↓reduceIte]
            refine hK3 _ ?_; try clear hK3 K3
            refine awp_keepL [9, 11, 15, 16, 80] ?_
            simp only [zz20, zzI, look_nil, Nat.reduceBEq]
            refine awp_condS _ (by decide) (by simp only [look_cons, Nat.reduceBEq, cond_true, cond_false]; rfl) ?_ ?_
            · intro hb
              clear hb
              refine awp_skip ?_
              simp only [zz6, Nat.reduceEqDiff, ↓reduceIte]
              refine hK2 _ ?_; try clear hK2 K2
              refine awp_keepL [9, 11, 15, 16] ?_
              simp only [zz20, zzI, look_nil, Nat.reduceBEq]
              refine awp_seq fun K2 hK2 => ?_
              refine awp_block ?_
              refine awp_seq fun K3 hK3 => ?_
              refine awp_draw F_mixed [some 83, some 84, some 85, some 86, some 87, some 88, some 89, some 90, some 91, some 92, some 93, some 94, some 95, some 96, some 97] rfl (by kernel_rfl) ?_
              simp only [List.nil_append, List.cons_append, true_and, and_true, zz0, true_implies, Nat.reduceLT, Nat.reduceLeDiff, zzI, look_nil, Nat.reduceBEq, implies_true, Nat.reduceSub, S_getD, zz5, and_imp, imp_and, imp_self, and_self, evS_move, evS_indexAddr, zz23, zz15, F_arr31, F_sz3, zz16, Option.some.injEq, exists_eq_left', exists_eq_left, Option.map_some, eq_self, reduceCtorEq, F_ok3, F_ag3, zz8, zzD, Nat.reduceAdd, Nat.zero_add, zzF, zzB, zzE, zz21, gr_v, zz25, zz29, zz37, zz28, zz13, Int.reduceToNat, Int.reduceLT, Int.reduceLE, cast6, Nat.reduceMul, zz6, Nat.reduceEqDiff, ↓reduceIte]
              refine hK3 _ ?_; try clear hK3 K3
              refine awp_keepL [9, 11, 15, 16, 97] ?_
              simp only [zz20, zzI, look_nil, Nat.reduceBEq]
              refine awp_condS _ (by decide) (by simp only [look_cons, Nat.reduceBEq, cond_true, cond_false]; rfl) ?_ ?_
              · intro hb
                have e1 := c1.2 2 (by omega); have e2 := c2.2 2 (by omega); simp only [Int.zero_sub] at e2; simp [← e2] at hb; omega
              · intro hb
                clear hb
                refine awp_skip ?_
                simp only [zz6, Nat.reduceEqDiff, ↓reduceIte]
                refine hK2 _ ?_; try clear hK2 K2
                refine awp_keepL [9, 11, 15, 16] ?_
                simp only [zz20, zzI, look_nil, Nat.reduceBEq]
                refine awp_plain F_mixed [some 81, some 82, some 16] rfl ?_
                simp only [List.nil_append, List.cons_append, true_and, and_true, zz0, true_implies, Nat.reduceLT, Nat.reduceLeDiff, zzI, look_nil, Nat.reduceBEq, implies_true, evS_move, zz21, gr_v, zz26, evS_assign, zz6, Nat.reduceEqDiff, ↓reduceIte]
                refine ⟨3, _, by decide, le_SK id [] rfl (l' := [(9, .ptr 9 0 0), (11, .d (iv (margV r who cur l))), (15, .ptr 15 0 0), (16, .d (iv 3))]) (m' := [(9, (⟨True, 31, 6, true, false, 9, [[.d (iv (lossV r who cur l 0)), .d (iv (lossV r who cur l 1)), .d (iv (lossV r who cur l 2)), .d (iv (lossV r who cur l 3)), .d (iv (lossV r who cur l 4)), .d (iv (lossV r who cur l 5))]]⟩ : ARow)), (15, (⟨True, 31, 6, true, false, 15, [[.d (iv (lossV r who cur (l.map negQ) 0)), .d (iv (lossV r who cur (l.map negQ) 1)), .d (iv (lossV r who cur (l.map negQ) 2)), .d (iv (lossV r who cur (l.map negQ) 3)), .d (iv (lossV r who cur (l.map negQ) 4)), .d (iv (lossV r who cur (l.map negQ) 5))]]⟩ : ARow))]) ?_ ?_ ?_ ?_, .inr (.inr (.inr (.inl (⟨rfl, rfl⟩))))⟩
                · simp only [leV, look_cons, Nat.reduceBEq, cond_true, cond_false]; exact ⟨VLe.refl _, VLe.refl _, VLe.refl _, VLe.refl _, trivial⟩
                · exact ⟨fun _ => ⟨_, rfl, ⟨id, rfl, rfl, rfl, id, .inl, VLess.refl _⟩⟩, fun h => by simp at h, fun _ => ⟨_, rfl, ⟨id, rfl, rfl, rfl, id, .inl, VLess.refl _⟩⟩, fun h => by simp at h, trivial⟩
                · simp [wfV, AV.ids, AV.idsL, lookR]
                · simp [wfR, AV.idsL, AV.ids]
            · intro hb
              simp at hb
          · skip
            refine awp_seq fun K2 hK2 => ?_
            refine awp_seq fun K3 hK3 => ?_
            refine awp_plain F_mixed [some 79, some 80] rfl ?_
            simp only [List.nil_append, List.cons_append, true_and, and_true, zz0, true_implies, Nat.reduceLT, Nat.reduceLeDiff, zzI, look_nil, Nat.reduceBEq, implies_true, evS_move, zz21, gr_v, zz22, zz6, Nat.reduceEqDiff, ↓reduceIte]
            refine hK3 _ ?_; try clear hK3 K3
            refine awp_keepL [9, 11, 15, 16, 80] ?_
            simp only [zz20, zzI, look_nil, Nat.reduceBEq]
            refine awp_condS _ (by decide) (by simp only [look_cons, Nat.reduceBEq, cond_true, cond_false]; rfl) ?_ ?_
            · intro hb
              clear hb
              refine awp_skip ?_
              simp only [zz6, Nat.reduceEqDiff, ↓reduceIte]
              refine hK2 _ ?_; try clear hK2 K2
              refine awp_keepL [9, 11, 15, 16] ?_
              simp only [zz20, zzI, look_nil, Nat.reduceBEq]
              refine awp_seq fun K2 hK2 => ?_
              refine awp_block ?_
              refine awp_seq fun K3 hK3 => ?_
              refine awp_draw F_mixed [some 83, some 84, some 85, some 86, some 87, some 88, some 89, some 90, some 91, some 92, some 93, some 94, some 95, some 96, some 97] rfl (by kernel_rfl) ?_
              simp only [List.nil_append, List.cons_append, true_and, and_true, zz0, true_implies, Nat.reduceLT, Nat.reduceLeDiff, zzI, look_nil, Nat.reduceBEq, implies_true, Nat.reduceSub, S_getD, zz5, and_imp, imp_and, imp_self, and_self, evS_move, evS_indexAddr, zz23, zz15, F_arr31, F_sz3, zz16, Option.some.injEq, exists_eq_left', exists_eq_left, Option.map_some, eq_self, reduceCtorEq, F_ok3, F_ag3, zz8, zzD, Nat.reduceAdd, Nat.zero_add, zzF, zzB, zzE, zz21, gr_v, zz25, zz29, zz37, zz28, zz13, Int.reduceToNat, Int.reduceLT, Int.reduceLE, cast6, Nat.reduceMul, zz6, Nat.reduceEqDiff, ↓reduceIte]
              refine hK3 _ ?_; try clear hK3 K3
              refine awp_keepL [9, 11, 15, 16, 97] ?_
              simp only [zz20, zzI, look_nil, Nat.reduceBEq]
              refine awp_condS _ (by decide) (by simp only [look_cons, Nat.reduceBEq, cond_true, cond_false]; rfl) ?_ ?_
              · intro hb
                have e1 := c1.2 3 (by omega); have e2 := c2.2 3 (by omega); simp only [Int.zero_sub] at e2; simp [← e2] at hb; omega
              · intro hb
                clear hb
                refine awp_skip ?_
                simp only [zz6, Nat.reduceEqDiff, ↓reduceIte]
                refine hK2 _ ?_; try clear hK2 K2
                refine awp_keepL [9, 11, 15, 16] ?_
                simp only [zz20, zzI, look_nil, Nat.reduceBEq]
                refine awp_plain F_mixed [some 81, some 82, some 16] rfl ?_
                simp only [List.nil_append, List.cons_append, true_and, and_true, zz0, true_implies, Nat.reduceLT, Nat.reduceLeDiff, zzI, look_nil, Nat.reduceBEq, implies_true, evS_move, zz21, gr_v, zz26, evS_assign, zz6, Nat.reduceEqDiff, ↓reduceIte]
                refine ⟨2, _, by decide, le_SK id [] rfl (l' := [(9, .ptr 9 0 0), (11, .d (iv (margV r who cur l))), (15, .ptr 15 0 0), (16, .d (iv 4))]) (m' := [(9, (⟨True, 31, 6, true, false, 9, [[.d (iv (lossV r who cur l 0)), .d (iv (lossV r who cur l 1)), .d (iv (lossV r who cur l 2)), .d (iv (lossV r who cur l 3)), .d (iv (lossV r who cur l 4)), .d (iv (lossV r who cur l 5))]]⟩ : ARow)), (15, (⟨True, 31, 6, true, false, 15, [[.d (iv (lossV r who cur (l.map negQ) 0)), .d (iv (lossV r who cur (l.map negQ) 1)), .d (iv (lossV r who cur (l.map negQ) 2)), .d (iv (lossV r who cur (l.map negQ) 3)), .d (iv (lossV r who cur (l.map negQ) 4)), .d (iv (lossV r who cur (l.map negQ) 5))]]⟩ : ARow))]) ?_ ?_ ?_ ?_, .inr (.inr (.inr (.inr (.inl (⟨rfl, rfl⟩)))))⟩
                · simp only [leV, look_cons, Nat.reduceBEq, cond_true, cond_false]; exact ⟨VLe.refl _, VLe.refl _, VLe.refl _, VLe.refl _, trivial⟩
                · exact ⟨fun _ => ⟨_, rfl, ⟨id, rfl, rfl, rfl, id, .inl, VLess.refl _⟩⟩, fun h => by simp at h, fun _ => ⟨_, rfl, ⟨id, rfl, rfl, rfl, id, .inl, VLess.refl _⟩⟩, fun h => by simp at h, trivial⟩
                · simp [wfV, AV.ids, AV.idsL, lookR]
                · simp [wfR, AV.idsL, AV.ids]
            · intro hb
              simp at hb
          · skip
            refine awp_seq fun K2 hK2 => ?_
            refine awp_seq fun K3 hK3 => ?_
            refine awp_plain F_mixed [some 79, some 80] rfl ?_
            simp only [List.nil_append, List.cons_append, true_and, and_true, zz0, true_implies, Nat.reduceLT, Nat.reduceLeDiff, zzI, look_nil, Nat.reduceBEq, implies_true, evS_move, zz21, gr_v, zz22, zz6, Nat.reduceEqDiff, ↓reduceIte]
            refine hK3 _ ?_; try clear hK3 K3
            refine awp_keepL [9, 11, 15, 16, 80] ?_
            simp only [zz20, zzI, look_nil, Nat.reduceBEq]
            refine awp_condS _ (by decide) (by simp only [look_cons, Nat.reduceBEq, cond_true, cond_false]; rfl) ?_ ?_
            · intro hb
              clear hb
              refine awp_skip ?_
              simp only [zz6, Nat.reduceEqDiff, ↓reduceIte]
              refine hK2 _ ?_; try clear hK2 K2
              refine awp_keepL [9, 11, 15, 16] ?_
              simp only [zz20, zzI, look_nil, Nat.reduceBEq]
              refine awp_seq fun K2 hK2 => ?_
              refine awp_block ?_
              refine awp_seq fun K3 hK3 => ?_
              refine awp_draw F_mixed [some 83, some 84, some 85, some 86, some 87, some 88, some 89, some 90, some 91, some 92, some 93, some 94, some 95, some 96, some 97] rfl (by kernel_rfl) ?_
              simp only [List.nil_append, List.cons_append, true_and, and_true, zz0, true_implies, Nat.reduceLT, Nat.reduceLeDiff, zzI, look_nil, Nat.reduceBEq, implies_true, Nat.reduceSub, S_getD, zz5, and_imp, imp_and, imp_self, and_self, evS_move, evS_indexAddr, zz23, zz15, F_arr31, F_sz3, zz16, Option.some.injEq, exists_eq_left', exists_eq_left, Option.map_some, eq_self, reduceCtorEq, F_ok3, F_ag3, zz8, zzD, Nat.reduceAdd, Nat.zero_add, zzF, zzB, zzE, zz21, gr_v, zz25, zz29, zz37, zz28, zz13, Int.reduceToNat, Int.reduceLT, Int.reduceLE, cast6, Nat.reduceMul, zz6, Nat.reduceEqDiff, ↓reduceIte]
              refine hK3 _ ?_; try clear hK3 K3
              refine awp_keepL [9, 11, 15, 16, 97] ?_
              simp only [zz20, zzI, look_nil, Nat.reduceBEq]
              refine awp_condS _ (by decide) (by simp only [look_cons, Nat.reduceBEq, cond_true, cond_false]; rfl) ?_ ?_
              · intro hb
                have e1 := c1.2 4 (by omega); have e2 := c2.2 4 (by omega); simp only [Int.zero_sub] at e2; simp [← e2] at hb; omega
              · intro hb
                clear hb
                refine awp_skip ?_
                simp only [zz6, Nat.reduceEqDiff, ↓reduceIte]
                refine hK2 _ ?_; try clear hK2 K2
                refine awp_keepL [9, 11, 15, 16] ?_
                simp only [zz20, zzI, look_nil, Nat.reduceBEq]
                refine awp_plain F_mixed [some 81, some 82, some 16] rfl ?_
                simp only [List.nil_append, List.cons_append, true_and, and_true, zz0, true_implies, Nat.reduceLT, Nat.reduceLeDiff, zzI, look_nil, Nat.reduceBEq, implies_true, evS_move, zz21, gr_v, zz26, evS_assign, zz6, Nat.reduceEqDiff, ↓reduceIte]
                refine ⟨1, _, by decide, le_SK id [] rfl (l' := [(9, .ptr 9 0 0), (11, .d (iv (margV r who cur l))), (15, .ptr 15 0 0), (16, .d (iv 5))]) (m' := [(9, (⟨True, 31, 6, true, false, 9, [[.d (iv (lossV r who cur l 0)), .d (iv (lossV r who cur l 1)), .d (iv (lossV r who cur l 2)), .d (iv (lossV r who cur l 3)), .d (iv (lossV r who cur l 4)), .d (iv (lossV r who cur l 5))]]⟩ : ARow)), (15, (⟨True, 31, 6, true, false, 15, [[.d (iv (lossV r who cur (l.map negQ) 0)), .d (iv (lossV r who cur (l.map negQ) 1)), .d (iv (lossV r who cur (l.map negQ) 2)), .d (iv (lossV r who cur (l.map negQ) 3)), .d (iv (lossV r who cur (l.map negQ) 4)), .d (iv (lossV r who cur (l.map negQ) 5))]]⟩ : ARow))]) ?_ ?_ ?_ ?_, .inr (.inr (.inr (.inr (.inr (.inl (⟨rfl, rfl⟩))))))⟩
                · simp only [leV, look_cons, Nat.reduceBEq, cond_true, cond_false]; exact ⟨VLe.refl _, VLe.refl _, VLe.refl _, VLe.refl _, trivial⟩
                · exact ⟨fun _ => ⟨_, rfl, ⟨id, rfl, rfl, rfl, id, .inl, VLess.refl _⟩⟩, fun h => by simp at h, fun _ => ⟨_, rfl, ⟨id, rfl, rfl, rfl, id, .inl, VLess.refl _⟩⟩, fun h => by simp at h, trivial⟩
                · simp [wfV, AV.ids, AV.idsL, lookR]
                · simp [wfR, AV.idsL, AV.ids]
            · intro hb
              simp at hb
          · skip
            refine awp_seq fun K2 hK2 => ?_
            refine awp_seq fun K3 hK3 => ?_
            refine awp_plain F_mixed [some 79, some 80] rfl ?_
            simp only [List.nil_append, List.cons_append, true_and, and_true, zz0, true_implies, Nat.reduceLT, Nat.reduceLeDiff, zzI, look_nil, Nat.reduceBEq, implies_true, evS_move, zz21, gr_v, zz22, zz6, Nat.reduceEqDiff, ↓reduceIte]
            refine hK3 _ ?_; try clear hK3 K3
            refine awp_keepL [9, 11, 15, 16, 80] ?_
            simp only [zz20, zzI, look_nil, Nat.reduceBEq]
            refine awp_condS _ (by decide) (by simp only [look_cons, Nat.reduceBEq, cond_true, cond_false]; rfl) ?_ ?_
            · intro hb
              clear hb
              refine awp_skip ?_
              simp only [zz6, Nat.reduceEqDiff, ↓reduceIte]
              refine hK2 _ ?_; try clear hK2 K2
              refine awp_keepL [9, 11, 15, 16] ?_
              simp only [zz20, zzI, look_nil, Nat.reduceBEq]
              refine awp_seq fun K2 hK2 => ?_
              refine awp_block ?_
              refine awp_seq fun K3 hK3 => ?_
              refine awp_draw F_mixed [some 83, some 84, some 85, some 86, some 87, some 88, some 89, some 90, some 91, some 92, some 93, some 94, some 95, some 96, some 97] rfl (by kernel_rfl) ?_
              simp only [List.nil_append, List.cons_append, true_and, and_true, zz0, true_implies, Nat.reduceLT, Nat.reduceLeDiff, zzI, look_nil, Nat.reduceBEq, implies_true, Nat.reduceSub, S_getD, zz5, and_imp, imp_and, imp_self, and_self, evS_move, evS_indexAddr, zz23, zz15, F_arr31, F_sz3, zz16, Option.some.injEq, exists_eq_left', exists_eq_left, Option.map_some, eq_self, reduceCtorEq, F_ok3, F_ag3, zz8, zzD, Nat.reduceAdd, Nat.zero_add, zzF, zzB, zzE, zz21, gr_v, zz25, zz29, zz37, zz28, zz13, Int.reduceToNat, Int.reduceLT, Int.reduceLE, cast6, Nat.reduceMul, zz6, Nat.reduceEqDiff, ↓reduceIte]
              refine hK3 _ ?_; try clear hK3 K3
              refine awp_keepL [9, 11, 15, 16, 97] ?_
              simp only [zz20, zzI, look_nil, Nat.reduceBEq]
              refine awp_condS _ (by decide) (by simp only [look_cons, Nat.reduceBEq, cond_true, cond_false]; rfl) ?_ ?_
              · intro hb
                have e1 := c1.2 5 (by omega); have e2 := c2.2 5 (by omega); simp only [Int.zero_sub] at e2; simp [← e2] at hb; omega
              · intro hb
                clear hb
                refine awp_skip ?_
                simp only [zz6, Nat.reduceEqDiff, ↓reduceIte]
                refine hK2 _ ?_; try clear hK2 K2
                refine awp_keepL [9, 11, 15, 16] ?_
                simp only [zz20, zzI, look_nil, Nat.reduceBEq]
                refine awp_plain F_mixed [some 81, some 82, some 16] rfl ?_
                simp only [List.nil_append, List.cons_append, true_and, and_true, zz0, true_implies, Nat.reduceLT, Nat.reduceLeDiff, zzI, look_nil, Nat.reduceBEq, implies_true, evS_move, zz21, gr_v, zz26, evS_assign, zz6, Nat.reduceEqDiff, ↓reduceIte]
                refine ⟨0, _, by decide, le_SK id [] rfl (l' := [(9, .ptr 9 0 0), (11, .d (iv (margV r who cur l))), (15, .ptr 15 0 0), (16, .d (iv 6))]) (m' := [(9, (⟨True, 31, 6, true, false, 9, [[.d (iv (lossV r who cur l 0)), .d (iv (lossV r who cur l 1)), .d (iv (lossV r who cur l 2)), .d (iv (lossV r who cur l 3)), .d (iv (lossV r who cur l 4)), .d (iv (lossV r who cur l 5))]]⟩ : ARow)), (15, (⟨True, 31, 6, true, false, 15, [[.d (iv (lossV r who cur (l.map negQ) 0)), .d (iv (lossV r who cur (l.map negQ) 1)), .d (iv (lossV r who cur (l.map negQ) 2)), .d (iv (lossV r who cur (l.map negQ) 3)), .d (iv (lossV r who cur (l.map negQ) 4)), .d (iv (lossV r who cur (l.map negQ) 5))]]⟩ : ARow))]) ?_ ?_ ?_ ?_, .inr (.inr (.inr (.inr (.inr (.inr (⟨rfl, rfl⟩))))))⟩
                · simp only [leV, look_cons, Nat.reduceBEq, cond_true, cond_false]; exact ⟨VLe.refl _, VLe.refl _, VLe.refl _, VLe.refl _, trivial⟩
                · exact ⟨fun _ => ⟨_, rfl, ⟨id, rfl, rfl, rfl, id, .inl, VLess.refl _⟩⟩, fun h => by simp at h, fun _ => ⟨_, rfl, ⟨id, rfl, rfl, rfl, id, .inl, VLess.refl _⟩⟩, fun h => by simp at h, trivial⟩
                · simp [wfV, AV.ids, AV.idsL, lookR]
                · simp [wfR, AV.idsL, AV.ids]
            · intro hb
              simp at hb
          · skip
            refine awp_seq fun K2 hK2 => ?_
            refine awp_seq fun K3 hK3 => ?_
            refine awp_plain F_mixed [some 79, some 80] rfl ?_
            simp only [List.nil_append, List.cons_append, true_and, and_true, zz0, true_implies, Nat.reduceLT, Nat.reduceLeDiff, zzI, look_nil, Nat.reduceBEq, implies_true, evS_move, zz21, gr_v, zz22, zz6, Nat.reduceEqDiff, ↓reduceIte]
            refine hK3 _ ?_; try clear hK3 K3
            refine awp_keepL [9, 11, 15, 16, 80] ?_
            simp only [zz20, zzI, look_nil, Nat.reduceBEq]
            refine awp_condS _ (by decide) (by simp only [look_cons, Nat.reduceBEq, cond_true, cond_false]; rfl) ?_ ?_
            · intro hb
              simp at hb
            · intro hb
              clear hb
              refine awp_exit ?_
              simp only [zz6, Nat.reduceEqDiff, ↓reduceIte]
              refine hK0 _ ?_; try clear hK0 K0
              refine awp_keepL [] ?_
              simp only [zz20, zzI, look_nil, Nat.reduceBEq]
              refine awp_seq fun K0 hK0 => ?_
              refine awp_plain F_mixed [some 98, some 8] rfl ?_
              simp only [List.nil_append, List.cons_append, true_and, and_true, zz0, true_implies, Nat.reduceLT, Nat.reduceLeDiff, zzI, look_nil, Nat.reduceBEq, implies_true, evS_call, evC_value, evS_assign, zz6, Nat.reduceEqDiff, ↓reduceIte]
              refine call_go F_go17 (fun hG => wakes15_) (by simp [AV.ids, AV.idsL]) (by simp) ?_
              simp only [List.nil_append, List.cons_append, true_and, and_true, zz0, true_implies, Nat.reduceLT, Nat.reduceLeDiff, zzI, look_nil, Nat.reduceBEq, implies_true, evS_call, evC_value, evS_assign, zz6, Nat.reduceEqDiff, ↓reduceIte, atsL, oksG, freeN, AV.ren, AV.renL, addRows, ORow.row, Nat.reduceMul, Nat.reduceAdd, zz9, Option.bind_some, Option.map_some, forall_eq', D.sl.injEq, zz16, Option.some.injEq, exists_eq_left', exists_eq_left, exists_eq', exists_eq, zzD, zz2]
              refine hK0 _ ?_; try clear hK0 K0
              refine awp_keepL [8] ?_
              simp only [zz20, zzI, look_nil, Nat.reduceBEq]
              refine awp_ret ?_
              simp only [zz6, Nat.reduceEqDiff, ↓reduceIte]
              refine done0 (by simp only [resCs, resC]; trivial) ?_ (by simp [flatA, flatAs, flatD]) (by simp [AV.ids, AV.idsL])
              simp only [List.map_cons, List.map_nil, resA, S_getD, Nat.reduceLT, Nat.reduceLeDiff, look_cons, Nat.reduceBEq, cond_true, cond_false, resAll]
              
end Go.Proofs.Ytcpiojfhbebfiaa
