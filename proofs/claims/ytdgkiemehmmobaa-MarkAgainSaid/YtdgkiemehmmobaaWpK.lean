import Derived.Test.YtdgkiemehmmobaaWpJ
namespace Go.Proofs.Ytdgkiemehmmobaa
open Go.RowKit
set_option linter.unusedVariables false
set_option linter.unusedSimpArgs false
theorem F_go11 : goFn Try.prog 11 := ⟨_, Try.func11, rfl, rfl⟩
theorem F_go12 : goFn Try.prog 12 := ⟨_, Try.func12, rfl, rfl⟩
theorem F_go18 : goFn Try.prog 18 := ⟨_, Try.func18, rfl, rfl⟩
theorem F_off68_2 : offT Try.prog 68 2 = some 2 := by kernel_rfl
theorem F_by65 : byT Try.prog 65 = 16 := by kernel_rfl
theorem F_go25 : goFn Try.prog 25 := ⟨_, Try.func25, rfl, rfl⟩
theorem F_go26 : goFn Try.prog 26 := ⟨_, Try.func26, rfl, rfl⟩
theorem F_off68_0 : offT Try.prog 68 0 = some 0 := by kernel_rfl
theorem F_go27 : goFn Try.prog 27 := ⟨_, Try.func27, rfl, rfl⟩
set_option maxRecDepth 100000 in
set_option maxHeartbeats 4000000 in
theorem markZero_ (r : RollV) (b : BookV) : ACalls Try.prog 6 [.agg (rollC r), .agg (bookC b)] [] (bv true) := by
  refine acalls_S (rs := [.tmp 4]) Try.func6 rfl rfl 146 [(0, .d (.agg (rollC r))), (1, .d (.agg (bookC b)))] rfl (by simp) rfl ?_
  refine awp_seq fun K0 hK0 => ?_
  refine awp_plain F_mixed [some 2, some 3, some 4] rfl ?_
  simp only [List.nil_append, List.cons_append, true_and, and_true, zz0, true_implies, Nat.reduceLT, Nat.reduceLeDiff, zzI, look_nil, Nat.reduceBEq, implies_true, zz35, newRow1, zz1, zzG, zzD, zz16, Option.some.injEq, exists_eq_left', exists_eq_left, Option.map_some, eq_self, reduceCtorEq, and_self, Nat.reduceAdd, Nat.zero_add, zzF, zzB, zzE, evS_assign, rollC, memsD, instsD, assetsD, bookC, tradesB, poss, zz6, Nat.reduceEqDiff, ↓reduceIte]
  refine hK0 _ ?_; try clear hK0 K0
  refine awp_keepL [2, 3] ?_
  simp only [zz20, zzI, look_nil, Nat.reduceBEq]
  refine awp_seq fun K0 hK0 => ?_
  refine awp_seq fun K1 hK1 => ?_
  refine awp_plain F_mixed [some 16, some 17, some 18, some 19, some 20, some 21] rfl ?_
  simp only [List.nil_append, List.cons_append, true_and, and_true, zz0, true_implies, Nat.reduceLT, Nat.reduceLeDiff, zzI, look_nil, Nat.reduceBEq, implies_true, Nat.reduceSub, S_getD, zz5, and_imp, imp_and, imp_self, and_self, F_ok40, F_ag40, F_sz40, zz8, zz23, zzD, Nat.reduceAdd, Nat.zero_add, zzF, zzB, zzE, zz16, Option.some.injEq, exists_eq_left', exists_eq_left, Option.map_some, eq_self, reduceCtorEq, evS_call, evC_value, evS_move, F_ok44, F_ag44, F_sz44, zz13, memsD, instsD, assetsD, rollC, D.agg.injEq, memA, memC, instA, instC, zzG, bookC, tradesB, poss, zz6, Nat.reduceEqDiff, ↓reduceIte]
  refine call_go F_go11 (fun hG => heavy_ r) (by simp [AV.ids, AV.idsL]) (by simp) ?_
  simp only [List.nil_append, List.cons_append, true_and, and_true, zz0, true_implies, Nat.reduceLT, Nat.reduceLeDiff, zzI, look_nil, Nat.reduceBEq, implies_true, Nat.reduceSub, S_getD, zz5, and_imp, imp_and, imp_self, and_self, F_ok40, F_ag40, F_sz40, zz8, zz23, zzD, Nat.reduceAdd, Nat.zero_add, zzF, zzB, zzE, zz16, Option.some.injEq, exists_eq_left', exists_eq_left, Option.map_some, eq_self, reduceCtorEq, evS_call, evC_value, evS_move, F_ok44, F_ag44, F_sz44, zz13, memsD, instsD, assetsD, rollC, D.agg.injEq, memA, memC, instA, instC, zzG, bookC, tradesB, poss, zz6, Nat.reduceEqDiff, ↓reduceIte, atsL, oksG, freeN, AV.ren, AV.renL, addRows, ORow.row, Nat.reduceMul, Nat.reduceAdd, zz9, Option.bind_some, Option.map_some, forall_eq', D.sl.injEq, S_mem, Option.some.injEq, exists_eq_left', exists_eq_left, exists_eq', exists_eq, List.length_cons, zz2]
  refine call_go F_go12 (fun hG => heavyB_ b) (by simp [AV.ids, AV.idsL]) (by simp) ?_
  simp only [List.nil_append, List.cons_append, true_and, and_true, zz0, true_implies, Nat.reduceLT, Nat.reduceLeDiff, zzI, look_nil, Nat.reduceBEq, implies_true, Nat.reduceSub, S_getD, zz5, and_imp, imp_and, imp_self, and_self, F_ok40, F_ag40, F_sz40, zz8, zz23, zzD, Nat.reduceAdd, Nat.zero_add, zzF, zzB, zzE, zz16, Option.some.injEq, exists_eq_left', exists_eq_left, Option.map_some, eq_self, reduceCtorEq, evS_call, evC_value, evS_move, F_ok44, F_ag44, F_sz44, zz13, memsD, instsD, assetsD, rollC, D.agg.injEq, memA, memC, instA, instC, zzG, bookC, tradesB, poss, zz6, Nat.reduceEqDiff, ↓reduceIte, atsL, oksG, freeN, AV.ren, AV.renL, addRows, ORow.row, Nat.reduceMul, Nat.reduceAdd, zz9, Option.bind_some, Option.map_some, forall_eq', D.sl.injEq, S_mem, Option.some.injEq, exists_eq_left', exists_eq_left, exists_eq', exists_eq, List.length_cons, zz2]
  refine hK1 _ ?_; try clear hK1 K1
  refine awp_keepL [2, 3, 21] ?_
  simp only [zz20, zzI, look_nil, Nat.reduceBEq]
  refine awp_condS _ (by decide) (by simp only [look_cons, Nat.reduceBEq, cond_true, cond_false]; rfl) ?_ ?_
  · intro hb
    clear hb
    refine awp_seq fun K2 hK2 => ?_
    refine awp_plain F_mixed [some 4] rfl ?_
    simp only [List.nil_append, List.cons_append, true_and, and_true, zz0, true_implies, Nat.reduceLT, Nat.reduceLeDiff, zzI, look_nil, Nat.reduceBEq, implies_true, evS_assign, zz6, Nat.reduceEqDiff, ↓reduceIte]
    refine hK2 _ ?_; try clear hK2 K2
    refine awp_keepL [4] ?_
    simp only [zz20, zzI, look_nil, Nat.reduceBEq]
    refine awp_ret ?_
    simp only [zz6, Nat.reduceEqDiff, ↓reduceIte]
    refine done0 (by simp only [resCs, resC]; trivial) ?_ (by simp [flatA, flatAs, flatD]) (by simp [AV.ids, AV.idsL])
    simp only [List.map_cons, List.map_nil, resA, S_getD, Nat.reduceLT, Nat.reduceLeDiff, look_cons, Nat.reduceBEq, cond_true, cond_false, resAll]
    
  · intro hb
    simp only [Bool.or_eq_false_iff] at hb
    have h := small_of hb.1
    have hB := smallB_of hb.2
    clear hb
    have ht := hB.trades
    have hp := hB.poss
    refine awp_skip ?_
    simp only [zz6, Nat.reduceEqDiff, ↓reduceIte]
    refine hK0 _ ?_; try clear hK0 K0
    refine awp_keepL [2, 3] ?_
    simp only [zz20, zzI, look_nil, Nat.reduceBEq]
    refine awp_seq fun K0 hK0 => ?_
    refine awp_plain F_mixed [some 23, some 24, some 25, some 22, some 26, some 27, some 28, some 5, none, some 6, some 7] rfl ?_
    simp only [List.nil_append, List.cons_append, true_and, and_true, zz0, true_implies, Nat.reduceLT, Nat.reduceLeDiff, zzI, look_nil, Nat.reduceBEq, implies_true, F_ok40, F_ag40, F_sz40, zz8, zz23, zzD, Nat.reduceAdd, Nat.zero_add, zzF, zzB, zzE, zz16, Option.some.injEq, exists_eq_left', exists_eq_left, Option.map_some, eq_self, reduceCtorEq, and_self, F_ok44, F_ag44, F_sz44, evS_call, evC_value, evS_move, zz14, zz32, newRow1, F_zero44, zz10, zz18, splice, List.append_nil, zz1, zzG, evS_assign, memsD, instsD, assetsD, rollC, D.agg.injEq, memA, memC, instA, instC, List.map_cons, bookC, tradesB, poss, zz6, Nat.reduceEqDiff, ↓reduceIte]
    refine call_go F_go18 (fun hG => runF r b h hB) (by simp [AV.ids, AV.idsL]) (by simp) ?_
    simp only [List.nil_append, List.cons_append, true_and, and_true, zz0, true_implies, Nat.reduceLT, Nat.reduceLeDiff, zzI, look_nil, Nat.reduceBEq, implies_true, F_ok40, F_ag40, F_sz40, zz8, zz23, zzD, Nat.reduceAdd, Nat.zero_add, zzF, zzB, zzE, zz16, Option.some.injEq, exists_eq_left', exists_eq_left, Option.map_some, eq_self, reduceCtorEq, and_self, F_ok44, F_ag44, F_sz44, evS_call, evC_value, evS_move, zz14, zz32, newRow1, F_zero44, zz10, zz18, splice, List.append_nil, zz1, zzG, evS_assign, memsD, instsD, assetsD, rollC, D.agg.injEq, memA, memC, instA, instC, List.map_cons, bookC, tradesB, poss, zz6, Nat.reduceEqDiff, ↓reduceIte, atsL, oksG, freeN, AV.ren, AV.renL, addRows, ORow.row, Nat.reduceMul, Nat.reduceAdd, zz9, Option.bind_some, Option.map_some, forall_eq', D.sl.injEq, S_mem, Option.some.injEq, exists_eq_left', exists_eq_left, exists_eq', exists_eq, List.length_cons, zz2]
    refine hK0 _ ?_; try clear hK0 K0
    refine awp_keepL [2, 3, 5, 6, 7] ?_
    simp only [zz20, zzI, look_nil, Nat.reduceBEq]
    refine awp_seq fun K0 hK0 => ?_
    refine awp_seq fun K1 hK1 => ?_
    refine awp_plain F_mixed [some 29, some 30] rfl ?_
    simp only [List.nil_append, List.cons_append, true_and, and_true, zz0, true_implies, Nat.reduceLT, Nat.reduceLeDiff, zzI, look_nil, Nat.reduceBEq, implies_true, evS_move, zz21, gr_v, zz28, zz6, Nat.reduceEqDiff, ↓reduceIte]
    refine hK1 _ ?_; try clear hK1 K1
    refine awp_keepL [2, 3, 5, 6, 30] ?_
    simp only [zz20, zzI, look_nil, Nat.reduceBEq]
    refine awp_condS _ (by decide) (by simp only [look_cons, Nat.reduceBEq, cond_true, cond_false]; rfl) ?_ ?_
    · intro hb
      have e : runE r b ≠ 0 := by simpa using hb
      clear hb
      obtain ⟨k1, k2, k3, k4⟩ := run_no e
      simp only [k1, k2, k3, k4, List.map_nil]
      refine awp_seq fun K2 hK2 => ?_
      refine awp_plain F_mixed [some 31, some 32, some 33, some 34, some 35, some 36, some 37, some 38, some 39, some 40, some 41, some 42, some 4] rfl ?_
      simp only [List.nil_append, List.cons_append, true_and, and_true, zz0, true_implies, Nat.reduceLT, Nat.reduceLeDiff, zzI, look_nil, Nat.reduceBEq, implies_true, Nat.reduceSub, S_getD, zz5, and_imp, imp_and, imp_self, and_self, evS_move, evS_call, zz12, F_sl53, Option.isSome_some, zz21, gr_v, zz34, zz19, zz23, F_off44_2, zzB, Nat.zero_add, Nat.reduceAdd, F_ok42, F_ag42, F_sz42, zz8, zzD, zzF, zzE, zz16, Option.some.injEq, exists_eq_left', exists_eq_left, Option.map_some, eq_self, reduceCtorEq, F_sl42, zz13, evC_value, evS_assign, zz6, Nat.reduceEqDiff, ↓reduceIte]
      refine call_go F_go9 (fun hG => wakes14_) (by simp [AV.ids, AV.idsL]) (by simp) ?_
      simp only [List.nil_append, List.cons_append, true_and, and_true, zz0, true_implies, Nat.reduceLT, Nat.reduceLeDiff, zzI, look_nil, Nat.reduceBEq, implies_true, Nat.reduceSub, S_getD, zz5, and_imp, imp_and, imp_self, and_self, evS_move, evS_call, zz12, F_sl53, Option.isSome_some, zz21, gr_v, zz34, zz19, zz23, F_off44_2, zzB, Nat.zero_add, Nat.reduceAdd, F_ok42, F_ag42, F_sz42, zz8, zzD, zzF, zzE, zz16, Option.some.injEq, exists_eq_left', exists_eq_left, Option.map_some, eq_self, reduceCtorEq, F_sl42, zz13, evC_value, evS_assign, zz6, Nat.reduceEqDiff, ↓reduceIte, atsL, oksG, freeN, AV.ren, AV.renL, addRows, ORow.row, Nat.reduceMul, Nat.reduceAdd, zz9, Option.bind_some, Option.map_some, forall_eq', D.sl.injEq, S_mem, Option.some.injEq, exists_eq_left', exists_eq_left, exists_eq', exists_eq, List.length_cons, zz2]
      refine hK2 _ ?_; try clear hK2 K2
      refine awp_keepL [4] ?_
      simp only [zz20, zzI, look_nil, Nat.reduceBEq]
      refine awp_ret ?_
      simp only [zz6, Nat.reduceEqDiff, ↓reduceIte]
      refine done0 (by simp only [resCs, resC]; trivial) ?_ (by simp [flatA, flatAs, flatD]) (by simp [AV.ids, AV.idsL])
      simp only [List.map_cons, List.map_nil, resA, S_getD, Nat.reduceLT, Nat.reduceLeDiff, look_cons, Nat.reduceBEq, cond_true, cond_false, resAll]
      rfl
    · intro hb
      have e : runE r b = 0 := by simpa using hb
      clear hb
      obtain ⟨k1, k2, k3, k4⟩ := run_ok e
      obtain ⟨q1, q2, q3⟩ := runE_zero e
      have q4 := roll_inst q1
      simp only [k1, k2, k3, k4, dues2]
      refine awp_skip ?_
      simp only [zz6, Nat.reduceEqDiff, ↓reduceIte]
      refine hK0 _ ?_; try clear hK0 K0
      refine awp_keepL [2, 3, 6] ?_
      simp only [zz20, zzI, look_nil, Nat.reduceBEq]
      refine awp_seq fun K0 hK0 => ?_
      refine awp_seq fun K1 hK1 => ?_
      refine awp_plain F_mixed [some 43, some 44, some 45, some 46, some 47, some 48] rfl ?_
      simp only [List.nil_append, List.cons_append, true_and, and_true, zz0, true_implies, Nat.reduceLT, Nat.reduceLeDiff, zzI, look_nil, Nat.reduceBEq, implies_true, evS_move, evS_call, zz12, F_sl53, Option.isSome_some, zz19, zz23, F_off44_2, zzB, Nat.zero_add, Nat.reduceAdd, F_ok42, F_ag42, F_sz42, zz8, zzD, zzF, zzE, zz16, Option.some.injEq, exists_eq_left', exists_eq_left, Option.map_some, eq_self, reduceCtorEq, and_self, F_sl42, zz21, gr_v, zz28, len_map, zz6, Nat.reduceEqDiff, ↓reduceIte]
      refine hK1 _ ?_; try clear hK1 K1
      refine awp_keepL [2, 3, 6, 48] ?_
      simp only [zz20, zzI, look_nil, Nat.reduceBEq]
      refine awp_condS _ (by decide) (by simp only [look_cons, Nat.reduceBEq, cond_true, cond_false]; rfl) ?_ ?_
      · intro hb
        simp at hb
      · intro hb
        clear hb
        refine awp_skip ?_
        simp only [zz6, Nat.reduceEqDiff, ↓reduceIte]
        refine hK0 _ ?_; try clear hK0 K0
        refine awp_keepL [2, 3, 6] ?_
        simp only [zz20, zzI, look_nil, Nat.reduceBEq]
        refine awp_seq fun K0 hK0 => ?_
        refine awp_seq fun K1 hK1 => ?_
        refine awp_plain F_mixed [some 8] rfl ?_
        simp only [List.nil_append, List.cons_append, true_and, and_true, zz0, true_implies, Nat.reduceLT, Nat.reduceLeDiff, zzI, look_nil, Nat.reduceBEq, implies_true, evS_assign, zz6, Nat.reduceEqDiff, ↓reduceIte]
        refine hK1 _ ?_; try clear hK1 K1
        refine awp_keepL [2, 3, 6, 8] ?_
        simp only [zz20, zzI, look_nil, Nat.reduceBEq]
        refine awp_block ?_
        refine awp_loop (fun m s => ∃ pre post : List InstV, r.insts = pre ++ post ∧ m = post.length ∧ s = S 146 [(2, .ptr 2 0 0), (3, .ptr 3 0 0), (6, .d (.sl 3 (b.poss.map (dueD r)))), (8, .d (iv pre.length))] [(2, (⟨True, 40, 3, true, false, 2, [[.d (.sl 3 (r.mems.map memC)), .d (.sl 12 ((pre ++ post).map instC)), .d (.sl 4 (r.assets.map assetC))]]⟩ : ARow)), (3, (⟨True, 44, 3, true, false, 3, [[.d (iv b.next), .d (.sl 7 (b.trades.map tradeC)), .d (.sl 4 (b.poss.map posC))]]⟩ : ARow))]) r.insts.length _ (le_SK id [] rfl (l' := [(2, .ptr 2 0 0), (3, .ptr 3 0 0), (6, .d (.sl 3 (b.poss.map (dueD r)))), (8, .d (iv ([] : List InstV).length))]) (m' := [(2, (⟨True, 40, 3, true, false, 2, [[.d (.sl 3 (r.mems.map memC)), .d (.sl 12 ((([] : List InstV) ++ r.insts).map instC)), .d (.sl 4 (r.assets.map assetC))]]⟩ : ARow)), (3, (⟨True, 44, 3, true, false, 3, [[.d (iv b.next), .d (.sl 7 (b.trades.map tradeC)), .d (.sl 4 (b.poss.map posC))]]⟩ : ARow))]) ?_ ?_ ?_ ?_) ⟨[], r.insts, rfl, rfl, rfl⟩ ?_
        · simp only [leV, look_cons, Nat.reduceBEq, cond_true, cond_false, len_map]; exact ⟨VLe.refl _, VLe.refl _, VLe.refl _, VLe.refl _, trivial⟩
        · exact ⟨fun _ => ⟨_, rfl, RowLe.same (by simp) (by simp [AV.idsL, AV.ids])⟩, fun h => by simp at h, fun _ => ⟨_, rfl, RowLe.same (by simp) (by simp [AV.idsL, AV.ids])⟩, fun h => by simp at h, trivial⟩
        · simp [wfV, AV.ids, AV.idsL, lookR]
        · simp [wfR, AV.idsL, AV.ids]
        rintro m s ⟨pre, post, hsp, rfl, rfl⟩
        refine awp_seq fun K2 hK2 => ?_
        refine awp_seq fun K3 hK3 => ?_
        refine awp_plain F_mixed [some 49, some 50, some 51, some 52, some 53] rfl ?_
        simp only [List.nil_append, List.cons_append, true_and, and_true, zz0, true_implies, Nat.reduceLT, Nat.reduceLeDiff, zzI, look_nil, Nat.reduceBEq, implies_true, evS_move, zz19, zz23, F_off40_1, zzB, Nat.zero_add, Nat.reduceAdd, F_ok37, F_ag37, F_sz37, zz8, zzD, zzF, zzE, zz16, Option.some.injEq, exists_eq_left', exists_eq_left, Option.map_some, eq_self, reduceCtorEq, and_self, evS_call, zz12, F_sl37, Option.isSome_some, zz21, gr_v, zz22, len_map, zz6, Nat.reduceEqDiff, ↓reduceIte]
        refine hK3 _ ?_; try clear hK3 K3
        refine awp_keepL [2, 3, 6, 8, 53] ?_
        simp only [zz20, zzI, look_nil, Nat.reduceBEq]
        refine awp_condS _ (by decide) (by simp only [look_cons, Nat.reduceBEq, cond_true, cond_false]; rfl) ?_ ?_
        · intro hb
          obtain ⟨i, post, rfl⟩ := more_of hb; clear hb
          have hi : i ∈ r.insts := by rw [hsp]; simp
          have hib := inst_bd (chk_all q4 i hi)
          have hfW := zW_fits (r := r) (i := i) hp
          have hz := zero_law e hi
          have hfC : fitsW (zC i b.poss).sum = true := by rw [← hz]; exact hfW
          refine awp_skip ?_
          simp only [zz6, Nat.reduceEqDiff, ↓reduceIte]
          refine hK2 _ ?_; try clear hK2 K2
          refine awp_keepL [2, 3, 6, 8] ?_
          simp only [zz20, zzI, look_nil, Nat.reduceBEq]
          refine awp_seq fun K2 hK2 => ?_
          refine awp_block ?_
          refine awp_seq fun K3 hK3 => ?_
          refine awp_plain F_mixed [some 9, some 10] rfl ?_
          simp only [List.nil_append, List.cons_append, true_and, and_true, zz0, true_implies, Nat.reduceLT, Nat.reduceLeDiff, zzI, look_nil, Nat.reduceBEq, implies_true, evS_assign, zz6, Nat.reduceEqDiff, ↓reduceIte]
          refine hK3 _ ?_; try clear hK3 K3
          refine awp_keepL [2, 3, 6, 8, 9, 10] ?_
          simp only [zz20, zzI, look_nil, Nat.reduceBEq]
          refine awp_seq fun K3 hK3 => ?_
          refine awp_seq fun K4 hK4 => ?_
          refine awp_plain F_mixed [some 11] rfl ?_
          simp only [List.nil_append, List.cons_append, true_and, and_true, zz0, true_implies, Nat.reduceLT, Nat.reduceLeDiff, zzI, look_nil, Nat.reduceBEq, implies_true, evS_assign, zz6, Nat.reduceEqDiff, ↓reduceIte]
          refine hK4 _ ?_; try clear hK4 K4
          refine awp_keepL [2, 3, 6, 8, 9, 10, 11] ?_
          simp only [zz20, zzI, look_nil, Nat.reduceBEq]
          refine awp_block ?_
          refine awp_loop (fun m s => ∃ qre qost : List PosV, b.poss = qre ++ qost ∧ m = qost.length ∧ s = S 146 [(2, .ptr 2 0 0), (3, .ptr 3 0 0), (6, .d (.sl 3 ((qre ++ qost).map (dueD r)))), (8, .d (iv pre.length)), (9, .ref 9 (zW r i qre).length), (10, .ref 10 (zC i qre).length), (11, .d (iv qre.length))] [(2, (⟨True, 40, 3, true, false, 2, [[.d (.sl 3 (r.mems.map memC)), .d (.sl 12 ((pre ++ i :: post).map instC)), .d (.sl 4 (r.assets.map assetC))]]⟩ : ARow)), (3, (⟨True, 44, 3, true, false, 3, [[.d (iv b.next), .d (.sl 7 (b.trades.map tradeC)), .d (.sl 4 ((qre ++ qost).map posC))]]⟩ : ARow)), (9, grow 65 2 9 ((zW r i qre).map wideC)), (10, grow 65 2 10 ((zC i qre).map wideC))]) b.poss.length _ (le_SK id [9, 10] rfl (l' := [(2, .ptr 2 0 0), (3, .ptr 3 0 0), (6, .d (.sl 3 ((([] : List PosV) ++ b.poss).map (dueD r)))), (8, .d (iv pre.length)), (9, .ref 9 (zW r i ([] : List PosV)).length), (10, .ref 10 (zC i ([] : List PosV)).length), (11, .d (iv ([] : List PosV).length))]) (m' := [(2, (⟨True, 40, 3, true, false, 2, [[.d (.sl 3 (r.mems.map memC)), .d (.sl 12 ((pre ++ i :: post).map instC)), .d (.sl 4 (r.assets.map assetC))]]⟩ : ARow)), (3, (⟨True, 44, 3, true, false, 3, [[.d (iv b.next), .d (.sl 7 (b.trades.map tradeC)), .d (.sl 4 ((([] : List PosV) ++ b.poss).map posC))]]⟩ : ARow)), (9, grow 65 2 9 ((zW r i ([] : List PosV)).map wideC)), (10, grow 65 2 10 ((zC i ([] : List PosV)).map wideC))]) ?_ ?_ ?_ ?_) ⟨[], b.poss, rfl, rfl, rfl⟩ ?_
          · simp only [leV, look_cons, Nat.reduceBEq, cond_true, cond_false, len_map, List.nil_append]; exact ⟨VLe.ptr_ (f := id) (r := 2) (by simp), VLe.ptr_ (f := id) (r := 3) (by simp), VLe.still rfl, VLe.still rfl, VLe.nil_ (by decide), VLe.nil_ (by decide), VLe.still rfl, trivial⟩
          · exact ⟨fun _ => ⟨_, rfl, RowLe.same (by simp) (by simp [AV.idsL, AV.ids])⟩, fun h => by simp at h, fun _ => ⟨_, rfl, RowLe.same (by simp) (by simp [AV.idsL, AV.ids])⟩, fun h => by simp at h, fun h => by simp at h, fun _ => rfl, fun h => by simp at h, fun _ => rfl, trivial⟩
          · simp [wfV, AV.ids, lookR]
          · simp [wfR, grow, zW, zC, AV.idsL, AV.ids]
          rintro m s ⟨qre, qost, hsq, rfl, rfl⟩
          have hlW := zW_len r i qre
          have hlC := zC_len i qre
          refine awp_seq fun K5 hK5 => ?_
          refine awp_seq fun K6 hK6 => ?_
          refine awp_plain F_mixed [some 56, some 57, some 58, some 59] rfl ?_
          simp only [List.nil_append, List.cons_append, true_and, and_true, zz0, true_implies, Nat.reduceLT, Nat.reduceLeDiff, zzI, look_nil, Nat.reduceBEq, implies_true, evS_move, evS_call, zz12, F_sl53, Option.isSome_some, zz21, gr_v, zz22, len_map, zz6, Nat.reduceEqDiff, ↓reduceIte]
          refine hK6 _ ?_; try clear hK6 K6
          refine awp_keepL [2, 3, 6, 8, 9, 10, 11, 59] ?_
          simp only [zz20, zzI, look_nil, Nat.reduceBEq]
          refine awp_condS _ (by decide) (by simp only [look_cons, Nat.reduceBEq, cond_true, cond_false]; rfl) ?_ ?_
          · intro hb
            obtain ⟨x, qost, rfl⟩ := more_of hb; clear hb
            have hx := q3 x (by rw [hsq]; simp)
            obtain ⟨hw, hc1, hc2⟩ := cost_facts hx
            have hwv := worthV_bd x (iOf r x).mult (mkV r x)
            have hlen : qre.length + 1 ≤ 500000 := by have e := congrArg List.length hsq; simp only [List.length_append, List.length_cons] at e; omega
            refine awp_skip ?_
            simp only [zz6, Nat.reduceEqDiff, ↓reduceIte]
            refine hK5 _ ?_; try clear hK5 K5
            refine awp_keepL [2, 3, 6, 8, 9, 10, 11] ?_
            simp only [zz20, zzI, look_nil, Nat.reduceBEq]
            refine awp_seq fun K5 hK5 => ?_
            refine awp_block ?_
            refine awp_seq fun K6 hK6 => ?_
            refine awp_seq fun K7 hK7 => ?_
            refine awp_draw F_mixed [some 62, some 63, some 64, some 65, some 66, some 67, some 68, some 69, some 70, some 71, some 72, some 73, some 74, some 75] rfl (by kernel_rfl) ?_
            simp only [List.nil_append, List.cons_append, true_and, and_true, zz0, true_implies, Nat.reduceLT, Nat.reduceLeDiff, zzI, look_nil, Nat.reduceBEq, implies_true, zz19, zz23, F_off44_2, zzB, Nat.zero_add, Nat.reduceAdd, F_ok42, F_ag42, F_sz42, zz8, zzD, zzF, zzE, zz16, Option.some.injEq, exists_eq_left', exists_eq_left, Option.map_some, eq_self, reduceCtorEq, and_self, evS_move, evS_indexAddr, zz24, F_sl42, F_sz25, F_off25_0, F_off23_1, F_ok3, F_ag3, F_sz3, F_off40_1, F_ok37, F_ag37, F_sz37, F_sl37, F_sz33, F_off33_0, zz21, gr_v, zz34, posC, instC, getD_mid, len_map, lt_mid, ge_mid, zz6, Nat.reduceEqDiff, ↓reduceIte]
            refine hK7 _ ?_; try clear hK7 K7
            refine awp_keepL [2, 3, 6, 8, 9, 10, 11, 75] ?_
            simp only [zz20, zzI, look_nil, Nat.reduceBEq]
            refine awp_condS _ (by decide) (by simp only [look_cons, Nat.reduceBEq, cond_true, cond_false]; rfl) ?_ ?_
            · intro hb
              have hs : isI i x = true := hb
              clear hb
              refine awp_seq fun K8 hK8 => ?_
              refine awp_plain F_mixed [some 76, some 77, some 78, some 79, some 80, some 81, some 82, some 83, some 84, some 9] rfl ?_
              simp only [List.nil_append, List.cons_append, true_and, and_true, zz0, true_implies, Nat.reduceLT, Nat.reduceLeDiff, zzI, look_nil, Nat.reduceBEq, implies_true, evS_move, evS_indexAddr, zz23, zz24, F_sl53, F_sz68, Option.map_some, zz16, Option.some.injEq, exists_eq_left', exists_eq_left, eq_self, reduceCtorEq, and_self, zz19, F_off68_2, zzB, Nat.zero_add, Nat.reduceAdd, F_ok3, F_ag3, F_sz3, zz8, zzD, zzF, zzE, evS_call, evC_value, F_sl62, F_zero65, F_sz65, zz3, newRow1, zz1, zzG, maxLen_le, Nat.reduceMul, F_by65, zz4, zz9, Option.bind_some, evS_assign, dueD, getD_mid, len_map, lt_mid, ge_mid, wideA, grow, D.agg.injEq, unDs_map, zz6, Nat.reduceEqDiff, ↓reduceIte]
              refine call_go F_go25 (fun hG => Of_ (worthV x (iOf r x).mult (mkV r x)) (by omega) (by omega)) (by simp [AV.ids, AV.idsL, wideA]) (by simp) ?_
              simp only [List.nil_append, List.cons_append, true_and, and_true, zz0, true_implies, Nat.reduceLT, Nat.reduceLeDiff, zzI, look_nil, Nat.reduceBEq, implies_true, evS_move, evS_indexAddr, zz23, zz24, F_sl53, F_sz68, Option.map_some, zz16, Option.some.injEq, exists_eq_left', exists_eq_left, eq_self, reduceCtorEq, and_self, zz19, F_off68_2, zzB, Nat.zero_add, Nat.reduceAdd, F_ok3, F_ag3, F_sz3, zz8, zzD, zzF, zzE, evS_call, evC_value, F_sl62, F_zero65, F_sz65, zz3, newRow1, zz1, zzG, maxLen_le, Nat.reduceMul, F_by65, zz4, zz9, Option.bind_some, evS_assign, dueD, getD_mid, len_map, lt_mid, ge_mid, wideA, grow, D.agg.injEq, unDs_map, zz6, Nat.reduceEqDiff, ↓reduceIte, atsL, oksG, freeN, AV.ren, AV.renL, addRows, ORow.row, Nat.reduceMul, Nat.reduceAdd, unDs_cons, Option.bind_some, Option.map_some, forall_eq', D.sl.injEq, S_mem, Option.some.injEq, exists_eq_left', exists_eq_left, exists_eq', exists_eq, List.length_cons, zz2]
              have hm : (zW r i qre).length + 1 ≤ 1000000 := by omega
              first | refine ⟨le_maxLen hm, by omega, ?_⟩ | refine ⟨by simp, le_maxLen hm, by omega, ?_⟩
              clear hm
              refine hK8 _ ?_; try clear hK8 K8
              refine awp_keepL [2, 3, 6, 8, 9, 10, 11] ?_
              simp only [zz20, zzI, look_nil, Nat.reduceBEq]
              refine awp_draw F_mixed [some 85, some 86, some 87, some 88, some 89, some 90, some 91, some 92, some 93, some 94, some 95, some 96, some 97, some 98, some 99, some 100, some 101, some 10] rfl (by kernel_rfl) ?_
              simp only [List.nil_append, List.cons_append, true_and, and_true, zz0, true_implies, Nat.reduceLT, Nat.reduceLeDiff, zzI, look_nil, Nat.reduceBEq, implies_true, evS_move, zz19, zz23, F_off44_2, zzB, Nat.zero_add, Nat.reduceAdd, F_ok42, F_ag42, F_sz42, zz8, zzD, zzF, zzE, zz16, Option.some.injEq, exists_eq_left', exists_eq_left, Option.map_some, eq_self, reduceCtorEq, and_self, evS_indexAddr, zz24, F_sl42, F_sz25, F_off25_2, F_ok3, F_ag3, F_sz3, zz29, gr_v, zz37, F_off40_1, F_ok37, F_ag37, F_sz37, F_sl37, F_sz33, F_off33_2, evS_call, evC_value, F_sl62, F_zero65, F_sz65, zz3, newRow1, zz1, zzG, maxLen_le, Nat.reduceMul, F_by65, zz4, zz9, Option.bind_some, evS_assign, posC, instC, getD_mid, len_map, lt_mid, ge_mid, wideA, hw, grow, D.agg.injEq, unDs_map, zz6, Nat.reduceEqDiff, ↓reduceIte]
              refine call_go F_go26 (fun hG => rTimes_ (-x.cost) i.mult (by omega) (by omega) (by omega) (by omega)) (by simp [AV.ids, AV.idsL, wideA]) (by simp) ?_
              simp only [List.nil_append, List.cons_append, true_and, and_true, zz0, true_implies, Nat.reduceLT, Nat.reduceLeDiff, zzI, look_nil, Nat.reduceBEq, implies_true, evS_move, zz19, zz23, F_off44_2, zzB, Nat.zero_add, Nat.reduceAdd, F_ok42, F_ag42, F_sz42, zz8, zzD, zzF, zzE, zz16, Option.some.injEq, exists_eq_left', exists_eq_left, Option.map_some, eq_self, reduceCtorEq, and_self, evS_indexAddr, zz24, F_sl42, F_sz25, F_off25_2, F_ok3, F_ag3, F_sz3, zz29, gr_v, zz37, F_off40_1, F_ok37, F_ag37, F_sz37, F_sl37, F_sz33, F_off33_2, evS_call, evC_value, F_sl62, F_zero65, F_sz65, zz3, newRow1, zz1, zzG, maxLen_le, Nat.reduceMul, F_by65, zz4, zz9, Option.bind_some, evS_assign, posC, instC, getD_mid, len_map, lt_mid, ge_mid, wideA, hw, grow, D.agg.injEq, unDs_map, zz6, Nat.reduceEqDiff, ↓reduceIte, atsL, oksG, freeN, AV.ren, AV.renL, addRows, ORow.row, Nat.reduceMul, Nat.reduceAdd, unDs_cons, Option.bind_some, Option.map_some, forall_eq', D.sl.injEq, S_mem, Option.some.injEq, exists_eq_left', exists_eq_left, exists_eq', exists_eq, List.length_cons, zz2]
              have hm : (zC i qre).length + 1 ≤ 1000000 := by omega
              first | refine ⟨le_maxLen hm, by omega, ?_⟩ | refine ⟨by simp, le_maxLen hm, by omega, ?_⟩
              clear hm
              refine hK6 _ ?_; try clear hK6 K6
              refine awp_keepL [2, 3, 6, 8, 9, 10, 11] ?_
              simp only [zz20, zzI, look_nil, Nat.reduceBEq]
              refine awp_seq fun K6 hK6 => ?_
              refine awp_draw F_mixed [some 102, some 103, some 104, some 105, some 106, some 107, some 108, some 109, some 110, some 111, some 112, some 113, some 114] rfl (by kernel_rfl) ?_
              simp only [List.nil_append, List.cons_append, true_and, and_true, zz0, true_implies, Nat.reduceLT, Nat.reduceLeDiff, zzI, look_nil, Nat.reduceBEq, implies_true, evS_move, evS_indexAddr, zz23, zz24, F_sl53, F_sz68, Option.map_some, zz16, Option.some.injEq, exists_eq_left', exists_eq_left, eq_self, reduceCtorEq, and_self, zz19, F_off68_0, zzB, Nat.zero_add, Nat.reduceAdd, F_ok3, F_ag3, F_sz3, zz8, zzD, zzF, zzE, F_off44_2, F_ok42, F_ag42, F_sz42, F_sl42, F_sz25, F_off25_0, F_off23_0, zz21, gr_v, zz28, dueD, posC, getD_mid, len_map, lt_mid, ge_mid, zz6, Nat.reduceEqDiff, ↓reduceIte]
              refine hK6 _ ?_; try clear hK6 K6
              refine awp_keepL [2, 3, 6, 8, 9, 10, 11, 114] ?_
              simp only [zz20, zzI, look_nil, Nat.reduceBEq]
              refine awp_condS _ (by decide) (by simp only [look_cons, Nat.reduceBEq, cond_true, cond_false]; rfl) ?_ ?_
              · intro hb
                simp at hb
              · intro hb
                clear hb
                refine awp_skip ?_
                simp only [zz6, Nat.reduceEqDiff, ↓reduceIte]
                refine hK5 _ ?_; try clear hK5 K5
                refine awp_keepL [2, 3, 6, 8, 9, 10, 11] ?_
                simp only [zz20, zzI, look_nil, Nat.reduceBEq]
                refine awp_plain F_mixed [some 60, some 61, some 11] rfl ?_
                simp only [List.nil_append, List.cons_append, true_and, and_true, zz0, true_implies, Nat.reduceLT, Nat.reduceLeDiff, zzI, look_nil, Nat.reduceBEq, implies_true, evS_move, zz21, gr_v, zz26, evS_assign, zz6, Nat.reduceEqDiff, ↓reduceIte]
                refine ⟨qost.length, _, by simp, le_SK (fun r => bif r == 10 then 101 else bif r == 9 then 84 else r) [] rfl (l' := [(2, .ptr 2 0 0), (3, .ptr 3 0 0), (6, .d (.sl 3 (((qre ++ [x]) ++ qost).map (dueD r)))), (8, .d (iv pre.length)), (9, .ref 9 (zW r i (qre ++ [x])).length), (10, .ref 10 (zC i (qre ++ [x])).length), (11, .d (iv (qre ++ [x]).length))]) (m' := [(2, (⟨True, 40, 3, true, false, 2, [[.d (.sl 3 (r.mems.map memC)), .d (.sl 12 ((pre ++ i :: post).map instC)), .d (.sl 4 (r.assets.map assetC))]]⟩ : ARow)), (3, (⟨True, 44, 3, true, false, 3, [[.d (iv b.next), .d (.sl 7 (b.trades.map tradeC)), .d (.sl 4 (((qre ++ [x]) ++ qost).map posC))]]⟩ : ARow)), (9, grow 65 2 9 ((zW r i (qre ++ [x])).map wideC)), (10, grow 65 2 10 ((zC i (qre ++ [x])).map wideC))]) ?_ ?_ ?_ ?_, qre ++ [x], qost, by simp [hsq], rfl, rfl⟩
                · simp only [leV, look_cons, Nat.reduceBEq, cond_true, cond_false, len_map, List.append_assoc, List.singleton_append, wrap_len qre x (by have e := congrArg List.length hsq; simp only [List.length_append, List.length_cons, List.length_map] at e; omega)]
                  refine ⟨VLe.ptr_ (f := (fun r => bif r == 10 then 101 else bif r == 9 then 84 else r)) (r := 2) (by simp), VLe.ptr_ (f := (fun r => bif r == 10 then 101 else bif r == 9 then 84 else r)) (r := 3) (by simp), VLe.still rfl, VLe.still rfl, ?_, ?_, VLe.still rfl, trivial⟩
                  · rw [zW_yes hs]
                    rw [show (AV.ref 84 _ : AV) = .ref ((fun r => bif r == 10 then 101 else bif r == 9 then 84 else r) 9) (zW r i qre ++ [worthV x (iOf r x).mult (mkV r x)]).length from by simp]; try exact VLe.ref_ (f := (fun r => bif r == 10 then 101 else bif r == 9 then 84 else r)) (r := 9) (by simp)
                  · rw [zC_yes hs]
                    rw [show (AV.ref 101 _ : AV) = .ref ((fun r => bif r == 10 then 101 else bif r == 9 then 84 else r) 10) (zC i qre ++ [-x.cost * i.mult]).length from by simp]; try exact VLe.ref_ (f := (fun r => bif r == 10 then 101 else bif r == 9 then 84 else r)) (r := 10) (by simp)
                · exact ⟨fun _ => ⟨_, rfl, RowLe.same (by simp) (by simp [AV.idsL, AV.ids])⟩, fun h => by simp at h, fun _ => ⟨_, rfl, RowLe.same (by simp) (by simp [AV.idsL, AV.ids])⟩, fun h => by simp at h, fun _ => ⟨_, rfl, RowLe.data_ (by rw [zW_yes hs] <;> simp [wideC])⟩, fun h => by simp at h, fun _ => ⟨_, rfl, RowLe.data_ (by rw [zC_yes hs] <;> simp [wideC])⟩, fun h => by simp at h, trivial⟩
                · simp [wfV, AV.ids, lookR, grow]
                · exact ⟨by simp [AV.idsL, AV.ids], by simp [AV.idsL, AV.ids], wf_data _ _, wf_data _ _, trivial⟩
            · intro hb
              have hs : isI i x = false := hb
              clear hb
              refine awp_skip ?_
              simp only [zz6, Nat.reduceEqDiff, ↓reduceIte]
              refine hK6 _ ?_; try clear hK6 K6
              refine awp_keepL [2, 3, 6, 8, 9, 10, 11] ?_
              simp only [zz20, zzI, look_nil, Nat.reduceBEq]
              refine awp_seq fun K6 hK6 => ?_
              refine awp_draw F_mixed [some 102, some 103, some 104, some 105, some 106, some 107, some 108, some 109, some 110, some 111, some 112, some 113, some 114] rfl (by kernel_rfl) ?_
              simp only [List.nil_append, List.cons_append, true_and, and_true, zz0, true_implies, Nat.reduceLT, Nat.reduceLeDiff, zzI, look_nil, Nat.reduceBEq, implies_true, evS_move, evS_indexAddr, zz23, zz24, F_sl53, F_sz68, Option.map_some, zz16, Option.some.injEq, exists_eq_left', exists_eq_left, eq_self, reduceCtorEq, and_self, zz19, F_off68_0, zzB, Nat.zero_add, Nat.reduceAdd, F_ok3, F_ag3, F_sz3, zz8, zzD, zzF, zzE, F_off44_2, F_ok42, F_ag42, F_sz42, F_sl42, F_sz25, F_off25_0, F_off23_0, zz21, gr_v, zz28, dueD, posC, getD_mid, len_map, lt_mid, ge_mid, zz6, Nat.reduceEqDiff, ↓reduceIte]
              refine hK6 _ ?_; try clear hK6 K6
              refine awp_keepL [2, 3, 6, 8, 9, 10, 11, 114] ?_
              simp only [zz20, zzI, look_nil, Nat.reduceBEq]
              refine awp_condS _ (by decide) (by simp only [look_cons, Nat.reduceBEq, cond_true, cond_false]; rfl) ?_ ?_
              · intro hb
                simp at hb
              · intro hb
                clear hb
                refine awp_skip ?_
                simp only [zz6, Nat.reduceEqDiff, ↓reduceIte]
                refine hK5 _ ?_; try clear hK5 K5
                refine awp_keepL [2, 3, 6, 8, 9, 10, 11] ?_
                simp only [zz20, zzI, look_nil, Nat.reduceBEq]
                refine awp_plain F_mixed [some 60, some 61, some 11] rfl ?_
                simp only [List.nil_append, List.cons_append, true_and, and_true, zz0, true_implies, Nat.reduceLT, Nat.reduceLeDiff, zzI, look_nil, Nat.reduceBEq, implies_true, evS_move, zz21, gr_v, zz26, evS_assign, zz6, Nat.reduceEqDiff, ↓reduceIte]
                refine ⟨qost.length, _, by simp, le_SK (fun r => bif r == 10 then 10 else bif r == 9 then 9 else r) [] rfl (l' := [(2, .ptr 2 0 0), (3, .ptr 3 0 0), (6, .d (.sl 3 (((qre ++ [x]) ++ qost).map (dueD r)))), (8, .d (iv pre.length)), (9, .ref 9 (zW r i (qre ++ [x])).length), (10, .ref 10 (zC i (qre ++ [x])).length), (11, .d (iv (qre ++ [x]).length))]) (m' := [(2, (⟨True, 40, 3, true, false, 2, [[.d (.sl 3 (r.mems.map memC)), .d (.sl 12 ((pre ++ i :: post).map instC)), .d (.sl 4 (r.assets.map assetC))]]⟩ : ARow)), (3, (⟨True, 44, 3, true, false, 3, [[.d (iv b.next), .d (.sl 7 (b.trades.map tradeC)), .d (.sl 4 (((qre ++ [x]) ++ qost).map posC))]]⟩ : ARow)), (9, grow 65 2 9 ((zW r i (qre ++ [x])).map wideC)), (10, grow 65 2 10 ((zC i (qre ++ [x])).map wideC))]) ?_ ?_ ?_ ?_, qre ++ [x], qost, by simp [hsq], rfl, rfl⟩
                · simp only [leV, look_cons, Nat.reduceBEq, cond_true, cond_false, len_map, List.append_assoc, List.singleton_append, wrap_len qre x (by have e := congrArg List.length hsq; simp only [List.length_append, List.length_cons, List.length_map] at e; omega)]
                  refine ⟨VLe.ptr_ (f := (fun r => bif r == 10 then 10 else bif r == 9 then 9 else r)) (r := 2) (by simp), VLe.ptr_ (f := (fun r => bif r == 10 then 10 else bif r == 9 then 9 else r)) (r := 3) (by simp), VLe.still rfl, VLe.still rfl, ?_, ?_, VLe.still rfl, trivial⟩
                  · rw [zW_no hs]
                    rw [show (AV.ref 9 _ : AV) = .ref ((fun r => bif r == 10 then 10 else bif r == 9 then 9 else r) 9) (zW r i qre).length from by simp]; try exact VLe.ref_ (f := (fun r => bif r == 10 then 10 else bif r == 9 then 9 else r)) (r := 9) (by simp)
                  · rw [zC_no hs]
                    rw [show (AV.ref 10 _ : AV) = .ref ((fun r => bif r == 10 then 10 else bif r == 9 then 9 else r) 10) (zC i qre).length from by simp]; try exact VLe.ref_ (f := (fun r => bif r == 10 then 10 else bif r == 9 then 9 else r)) (r := 10) (by simp)
                · exact ⟨fun _ => ⟨_, rfl, RowLe.same (by simp) (by simp [AV.idsL, AV.ids])⟩, fun h => by simp at h, fun _ => ⟨_, rfl, RowLe.same (by simp) (by simp [AV.idsL, AV.ids])⟩, fun h => by simp at h, fun _ => ⟨_, rfl, RowLe.data_ (by rw [zW_no hs] <;> simp [wideC])⟩, fun h => by simp at h, fun _ => ⟨_, rfl, RowLe.data_ (by rw [zC_no hs] <;> simp [wideC])⟩, fun h => by simp at h, trivial⟩
                · simp [wfV, AV.ids, lookR, grow]
                · exact ⟨by simp [AV.idsL, AV.ids], by simp [AV.idsL, AV.ids], wf_data _ _, wf_data _ _, trivial⟩
          · intro hb
            obtain rfl := none_of hb; clear hb
            simp only [List.append_nil] at hsq ⊢
            obtain rfl : qre = b.poss := hsq.symm
            refine awp_exit ?_
            simp only [zz6, Nat.reduceEqDiff, ↓reduceIte]
            refine hK3 _ ?_; try clear hK3 K3
            refine awp_keepL [2, 3, 6, 8, 9, 10] ?_
            simp only [zz20, zzI, look_nil, Nat.reduceBEq]
            refine awp_seq fun K3 hK3 => ?_
            refine awp_plain F_mixed [some 116, some 117, some 115, some 118, some 119, some 12, none, some 13] rfl ?_
            simp only [List.nil_append, List.cons_append, true_and, and_true, zz0, true_implies, Nat.reduceLT, Nat.reduceLeDiff, zzI, look_nil, Nat.reduceBEq, implies_true, evS_move, evS_call, evC_value, zz14, zzD, Nat.reduceAdd, Nat.zero_add, zzF, zz32, newRow1, F_zero65, zz16, Option.some.injEq, exists_eq_left', exists_eq_left, Option.map_some, eq_self, reduceCtorEq, and_self, zzB, zzE, zz10, zz18, F_ok65, F_sz65, splice, List.append_nil, zz1, zzG, evS_assign, wides, wideA, grow, hfW, zz6, Nat.reduceEqDiff, ↓reduceIte]
            refine call_go F_go27 (fun hG => WSum_ (zW r i b.poss) (by omega) (fun x hx => by have := zW_bd x hx; omega)) (by simp [AV.ids, AV.idsL, wideA]) (by simp) ?_
            simp only [List.nil_append, List.cons_append, true_and, and_true, zz0, true_implies, Nat.reduceLT, Nat.reduceLeDiff, zzI, look_nil, Nat.reduceBEq, implies_true, evS_move, evS_call, evC_value, zz14, zzD, Nat.reduceAdd, Nat.zero_add, zzF, zz32, newRow1, F_zero65, zz16, Option.some.injEq, exists_eq_left', exists_eq_left, Option.map_some, eq_self, reduceCtorEq, and_self, zzB, zzE, zz10, zz18, F_ok65, F_sz65, splice, List.append_nil, zz1, zzG, evS_assign, wides, wideA, grow, hfW, zz6, Nat.reduceEqDiff, ↓reduceIte, atsL, oksG, freeN, AV.ren, AV.renL, addRows, ORow.row, Nat.reduceMul, Nat.reduceAdd, zz9, Option.bind_some, Option.map_some, forall_eq', D.sl.injEq, S_mem, Option.some.injEq, exists_eq_left', exists_eq_left, exists_eq', exists_eq, List.length_cons, zz2]
            refine ⟨by simp, ?_⟩
            refine hK3 _ ?_; try clear hK3 K3
            refine awp_keepL [2, 3, 6, 8, 10, 12, 13] ?_
            simp only [zz20, zzI, look_nil, Nat.reduceBEq]
            refine awp_seq fun K3 hK3 => ?_
            refine awp_plain F_mixed [some 121, some 122, some 120, some 123, some 124, some 14, none, some 15] rfl ?_
            simp only [List.nil_append, List.cons_append, true_and, and_true, zz0, true_implies, Nat.reduceLT, Nat.reduceLeDiff, zzI, look_nil, Nat.reduceBEq, implies_true, evS_move, evS_call, evC_value, zz14, zzD, Nat.reduceAdd, Nat.zero_add, zzF, zz32, newRow1, F_zero65, zz16, Option.some.injEq, exists_eq_left', exists_eq_left, Option.map_some, eq_self, reduceCtorEq, and_self, zzB, zzE, zz10, zz18, F_ok65, F_sz65, splice, List.append_nil, zz1, zzG, evS_assign, wides, wideA, grow, hfC, zz6, Nat.reduceEqDiff, ↓reduceIte]
            refine call_go F_go27 (fun hG => WSum_ (zC i b.poss) (by omega) (fun x hx => by have := zC_bd e hi x hx; omega)) (by simp [AV.ids, AV.idsL, wideA]) (by simp) ?_
            simp only [List.nil_append, List.cons_append, true_and, and_true, zz0, true_implies, Nat.reduceLT, Nat.reduceLeDiff, zzI, look_nil, Nat.reduceBEq, implies_true, evS_move, evS_call, evC_value, zz14, zzD, Nat.reduceAdd, Nat.zero_add, zzF, zz32, newRow1, F_zero65, zz16, Option.some.injEq, exists_eq_left', exists_eq_left, Option.map_some, eq_self, reduceCtorEq, and_self, zzB, zzE, zz10, zz18, F_ok65, F_sz65, splice, List.append_nil, zz1, zzG, evS_assign, wides, wideA, grow, hfC, zz6, Nat.reduceEqDiff, ↓reduceIte, atsL, oksG, freeN, AV.ren, AV.renL, addRows, ORow.row, Nat.reduceMul, Nat.reduceAdd, zz9, Option.bind_some, Option.map_some, forall_eq', D.sl.injEq, S_mem, Option.some.injEq, exists_eq_left', exists_eq_left, exists_eq', exists_eq, List.length_cons, zz2]
            refine ⟨by simp, ?_⟩
            refine hK3 _ ?_; try clear hK3 K3
            refine awp_keepL [2, 3, 6, 8, 12, 13, 14, 15] ?_
            simp only [zz20, zzI, look_nil, Nat.reduceBEq]
            refine awp_seq fun K3 hK3 => ?_
            refine awp_plain F_mixed [some 125, some 126, some 127, some 128, some 129, some 130, some 131, some 132, some 133, some 134, some 135, some 136, some 137, some 138, some 139, some 140, some 141, some 142, some 143, some 144] rfl ?_
            simp only [List.nil_append, List.cons_append, true_and, and_true, zz0, true_implies, Nat.reduceLT, Nat.reduceLeDiff, zzI, look_nil, Nat.reduceBEq, implies_true, Nat.reduceSub, S_getD, zz5, and_imp, imp_and, imp_self, and_self, evS_move, zz29, gr_v, zz30, zz13, zz19, zz23, F_off65_0, zzB, Nat.zero_add, Nat.reduceAdd, F_ok3, F_ag3, F_sz3, zz8, zzD, zzF, zzE, zz16, Option.some.injEq, exists_eq_left', exists_eq_left, Option.map_some, eq_self, reduceCtorEq, zz21, zz28, F_off65_1, F_ok63, F_ag63, F_sz63, hz, zz6, Nat.reduceEqDiff, ↓reduceIte]
            refine hK3 _ ?_; try clear hK3 K3
            refine awp_keepL [2, 3, 6, 8, 144] ?_
            simp only [zz20, zzI, look_nil, Nat.reduceBEq]
            refine awp_condS _ (by decide) (by simp only [look_cons, Nat.reduceBEq, cond_true, cond_false]; rfl) ?_ ?_
            · intro hb
              simp at hb
            · intro hb
              clear hb
              refine awp_skip ?_
              simp only [zz6, Nat.reduceEqDiff, ↓reduceIte]
              refine hK2 _ ?_; try clear hK2 K2
              refine awp_keepL [2, 3, 6, 8] ?_
              simp only [zz20, zzI, look_nil, Nat.reduceBEq]
              refine awp_plain F_mixed [some 54, some 55, some 8] rfl ?_
              simp only [List.nil_append, List.cons_append, true_and, and_true, zz0, true_implies, Nat.reduceLT, Nat.reduceLeDiff, zzI, look_nil, Nat.reduceBEq, implies_true, evS_move, zz21, gr_v, zz26, evS_assign, zz6, Nat.reduceEqDiff, ↓reduceIte]
              refine ⟨post.length, _, by simp, le_SK id [] rfl (l' := [(2, .ptr 2 0 0), (3, .ptr 3 0 0), (6, .d (.sl 3 (b.poss.map (dueD r)))), (8, .d (iv (pre ++ [i]).length))]) (m' := [(2, (⟨True, 40, 3, true, false, 2, [[.d (.sl 3 (r.mems.map memC)), .d (.sl 12 (((pre ++ [i]) ++ post).map instC)), .d (.sl 4 (r.assets.map assetC))]]⟩ : ARow)), (3, (⟨True, 44, 3, true, false, 3, [[.d (iv b.next), .d (.sl 7 (b.trades.map tradeC)), .d (.sl 4 (b.poss.map posC))]]⟩ : ARow))]) ?_ ?_ ?_ ?_, pre ++ [i], post, by simp [hsp], rfl, rfl⟩
              · simp only [leV, look_cons, Nat.reduceBEq, cond_true, cond_false, len_map, wrap_len pre i (by have e := congrArg List.length hsp; simp only [List.length_append, List.length_cons] at e; have := h.insts; omega)]; exact ⟨VLe.refl _, VLe.refl _, VLe.refl _, VLe.refl _, trivial⟩
              · exact ⟨fun _ => ⟨_, rfl, RowLe.same (by simp) (by simp [AV.idsL, AV.ids])⟩, fun h => by simp at h, fun _ => ⟨_, rfl, RowLe.same (by simp) (by simp [AV.idsL, AV.ids])⟩, fun h => by simp at h, trivial⟩
              · simp [wfV, AV.ids, AV.idsL, lookR]
              · simp [wfR, AV.idsL, AV.ids]
        · intro hb
          clear hb
          refine awp_exit ?_
          simp only [zz6, Nat.reduceEqDiff, ↓reduceIte]
          refine hK0 _ ?_; try clear hK0 K0
          refine awp_keepL [] ?_
          simp only [zz20, zzI, look_nil, Nat.reduceBEq]
          refine awp_seq fun K0 hK0 => ?_
          refine awp_plain F_mixed [some 145, some 4] rfl ?_
          simp only [List.nil_append, List.cons_append, true_and, and_true, zz0, true_implies, Nat.reduceLT, Nat.reduceLeDiff, zzI, look_nil, Nat.reduceBEq, implies_true, evS_call, evC_value, evS_assign, zz6, Nat.reduceEqDiff, ↓reduceIte]
          refine call_go F_go9 (fun hG => wakes14_) (by simp [AV.ids, AV.idsL]) (by simp) ?_
          simp only [List.nil_append, List.cons_append, true_and, and_true, zz0, true_implies, Nat.reduceLT, Nat.reduceLeDiff, zzI, look_nil, Nat.reduceBEq, implies_true, evS_call, evC_value, evS_assign, zz6, Nat.reduceEqDiff, ↓reduceIte, atsL, oksG, freeN, AV.ren, AV.renL, addRows, ORow.row, Nat.reduceMul, Nat.reduceAdd, zz9, Option.bind_some, Option.map_some, forall_eq', D.sl.injEq, zz16, Option.some.injEq, exists_eq_left', exists_eq_left, exists_eq', exists_eq, zzD, zz2]
          refine hK0 _ ?_; try clear hK0 K0
          refine awp_keepL [4] ?_
          simp only [zz20, zzI, look_nil, Nat.reduceBEq]
          refine awp_ret ?_
          simp only [zz6, Nat.reduceEqDiff, ↓reduceIte]
          refine done0 (by simp only [resCs, resC]; trivial) ?_ (by simp [flatA, flatAs, flatD]) (by simp [AV.ids, AV.idsL])
          simp only [List.map_cons, List.map_nil, resA, S_getD, Nat.reduceLT, Nat.reduceLeDiff, look_cons, Nat.reduceBEq, cond_true, cond_false, resAll]
          
end Go.Proofs.Ytdgkiemehmmobaa
