import Derived.Test.YtcpiojfhbebfiaaWpH
namespace Go.Proofs.Ytcpiojfhbebfiaa
open Go.RowKit
set_option linter.unusedVariables false
set_option linter.unusedSimpArgs false
theorem F_go11 : goFn Try.prog 11 := ⟨_, Try.func11, rfl, rfl⟩
set_option maxRecDepth 100000 in
set_option maxHeartbeats 4000000 in
theorem Margin_ (r : RollV) (who cur : Int) (l : List PosV) (h : r.Small) (hl : l.length ≤ 500000) : ACalls Try.prog 13 [.agg (rollC r), iv who, iv cur, poss l] [] (.tp [.d (iv (margV r who cur l)), .d (iv (margE r who cur l))]) := by
  refine acalls_S (rs := [.tmp 8, .tmp 9]) Try.func13 rfl rfl 83 [(0, .d (.agg (rollC r))), (1, .d (iv who)), (2, .d (iv cur)), (3, .d (poss l))] rfl (by simp) rfl ?_
  refine awp_seq fun K0 hK0 => ?_
  refine awp_plain F_mixed [some 4, some 8, some 9] rfl ?_
  simp only [List.nil_append, List.cons_append, true_and, and_true, zz0, true_implies, Nat.reduceLT, Nat.reduceLeDiff, zzI, look_nil, Nat.reduceBEq, implies_true, zz35, newRow1, zz1, zzG, zzD, zz16, Option.some.injEq, exists_eq_left', exists_eq_left, Option.map_some, eq_self, reduceCtorEq, and_self, Nat.reduceAdd, Nat.zero_add, zzF, zzB, zzE, evS_assign, rollC, memsD, instsD, assetsD, zz6, Nat.reduceEqDiff, ↓reduceIte]
  refine hK0 _ ?_; try clear hK0 K0
  refine awp_keepL [1, 2, 3, 4] ?_
  simp only [zz20, zzI, look_nil, Nat.reduceBEq]
  refine awp_seq fun K0 hK0 => ?_
  refine awp_plain F_mixed [some 22, some 23, some 24, some 25, some 26, some 21, some 27, some 28, some 10, none, some 11] rfl ?_
  simp only [List.nil_append, List.cons_append, true_and, and_true, zz0, true_implies, Nat.reduceLT, Nat.reduceLeDiff, zzI, look_nil, Nat.reduceBEq, implies_true, F_ok26, F_ag26, F_sz26, zz8, zz23, zzD, Nat.reduceAdd, Nat.zero_add, zzF, zzB, zzE, zz16, Option.some.injEq, exists_eq_left', exists_eq_left, Option.map_some, eq_self, reduceCtorEq, and_self, evS_move, evS_call, evC_value, zz14, zz32, newRow1, F_zero31, zz10, zz18, F_ok31, F_sz31, splice, List.append_nil, zz1, zzG, evS_assign, poss, lossA, memsD, instsD, assetsD, rollC, D.agg.injEq, memA, memC, instA, instC, List.map_cons, zz6, Nat.reduceEqDiff, ↓reduceIte]
  refine call_go F_go11 (fun hG => Losses_ r who cur l h hl) (by simp [AV.ids, AV.idsL, lossA]) (by simp) ?_
  simp only [List.nil_append, List.cons_append, true_and, and_true, zz0, true_implies, Nat.reduceLT, Nat.reduceLeDiff, zzI, look_nil, Nat.reduceBEq, implies_true, F_ok26, F_ag26, F_sz26, zz8, zz23, zzD, Nat.reduceAdd, Nat.zero_add, zzF, zzB, zzE, zz16, Option.some.injEq, exists_eq_left', exists_eq_left, Option.map_some, eq_self, reduceCtorEq, and_self, evS_move, evS_call, evC_value, zz14, zz32, newRow1, F_zero31, zz10, zz18, F_ok31, F_sz31, splice, List.append_nil, zz1, zzG, evS_assign, poss, lossA, memsD, instsD, assetsD, rollC, D.agg.injEq, memA, memC, instA, instC, List.map_cons, zz6, Nat.reduceEqDiff, ↓reduceIte, atsL, oksG, freeN, AV.ren, AV.renL, addRows, ORow.row, Nat.reduceMul, Nat.reduceAdd, zz9, Option.bind_some, Option.map_some, forall_eq', D.sl.injEq, S_mem, Option.some.injEq, exists_eq_left', exists_eq_left, exists_eq', exists_eq, List.length_cons, zz2]
  refine hK0 _ ?_; try clear hK0 K0
  refine awp_keepL [1, 2, 3, 4, 10, 11] ?_
  simp only [zz20, zzI, look_nil, Nat.reduceBEq]
  refine awp_seq fun K0 hK0 => ?_
  refine awp_seq fun K1 hK1 => ?_
  refine awp_plain F_mixed [some 29, some 30] rfl ?_
  simp only [List.nil_append, List.cons_append, true_and, and_true, zz0, true_implies, Nat.reduceLT, Nat.reduceLeDiff, zzI, look_nil, Nat.reduceBEq, implies_true, evS_move, zz21, gr_v, zz28, zz6, Nat.reduceEqDiff, ↓reduceIte]
  refine hK1 _ ?_; try clear hK1 K1
  refine awp_keepL [1, 2, 3, 4, 10, 11, 30] ?_
  simp only [zz20, zzI, look_nil, Nat.reduceBEq]
  refine awp_condS _ (by decide) (by simp only [look_cons, Nat.reduceBEq, cond_true, cond_false]; rfl) ?_ ?_
  · intro hb
    have hE : (lossE r who cur l == 0) = false := by simpa using hb
    clear hb
    refine awp_seq fun K2 hK2 => ?_
    refine awp_plain F_mixed [some 31, some 8, some 9] rfl ?_
    simp only [List.nil_append, List.cons_append, true_and, and_true, zz0, true_implies, Nat.reduceLT, Nat.reduceLeDiff, zzI, look_nil, Nat.reduceBEq, implies_true, evS_move, evS_assign, zz6, Nat.reduceEqDiff, ↓reduceIte]
    refine hK2 _ ?_; try clear hK2 K2
    refine awp_keepL [8, 9] ?_
    simp only [zz20, zzI, look_nil, Nat.reduceBEq]
    refine awp_ret ?_
    simp only [zz6, Nat.reduceEqDiff, ↓reduceIte]
    refine done0 (by simp only [resCs, resC]; trivial) ?_ (by simp [flatA, flatAs, flatD]) (by simp [AV.ids, AV.idsL])
    simp only [List.map_cons, List.map_nil, resA, S_getD, Nat.reduceLT, Nat.reduceLeDiff, look_cons, Nat.reduceBEq, cond_true, cond_false, resAll]
    have e : margE r who cur l = lossE r who cur l := by simp [margE, hE]
    have v : margV r who cur l = 0 := by simp [margV, e, hE]
    simp only [v, e]
  · intro hb
    have hLE : lossE r who cur l = 0 := by simpa using hb
    clear hb
    have hE : pcsE r l = 0 := (lossE0 hLE).1
    have hok := (lossE0 hLE).2
    have hL : pcsL r who cur l = pcs r who cur l := by simp [pcsL, hE]
    have hps : ∀ x ∈ pcs r who cur l, PieceOk x := pcs_ok hE
    have hpl : (pcs r who cur l).length ≤ 500000 := Nat.le_trans (pcs_len r who cur l) hl
    have hM := lossM_bd hok
    have hfit : fitsW (margL (pcs r who cur l) (pcs r who cur l)).sum = true := margT_fits hps (by omega) hM
    have hv : ∀ j, lossV r who cur l j = lossT (pcs r who cur l) j := fun j => by simp [lossV, hLE]
    simp only [hv]
    refine awp_skip ?_
    simp only [zz6, Nat.reduceEqDiff, ↓reduceIte]
    refine hK0 _ ?_; try clear hK0 K0
    refine awp_keepL [1, 2, 3, 4, 10] ?_
    simp only [zz20, zzI, look_nil, Nat.reduceBEq]
    refine awp_seq fun K0 hK0 => ?_
    refine awp_plain F_mixed [some 12] rfl ?_
    simp only [List.nil_append, List.cons_append, true_and, and_true, zz0, true_implies, Nat.reduceLT, Nat.reduceLeDiff, zzI, look_nil, Nat.reduceBEq, implies_true, evS_assign, zz6, Nat.reduceEqDiff, ↓reduceIte]
    refine hK0 _ ?_; try clear hK0 K0
    refine awp_keepL [1, 2, 3, 4, 10, 12] ?_
    simp only [zz20, zzI, look_nil, Nat.reduceBEq]
    refine awp_seq fun K0 hK0 => ?_
    refine awp_seq fun K1 hK1 => ?_
    refine awp_plain F_mixed [some 32, some 33] rfl ?_
    simp only [List.nil_append, List.cons_append, true_and, and_true, zz0, true_implies, Nat.reduceLT, Nat.reduceLeDiff, zzI, look_nil, Nat.reduceBEq, implies_true, F_ok31, F_ag31, F_sz31, zz8, zz23, zzD, Nat.reduceAdd, Nat.zero_add, zzF, zzB, zzE, zz16, Option.some.injEq, exists_eq_left', exists_eq_left, Option.map_some, eq_self, reduceCtorEq, and_self, evS_move, zz6, Nat.reduceEqDiff, ↓reduceIte]
    refine hK1 _ ?_; try clear hK1 K1
    refine awp_keepL [1, 2, 3, 4, 12, 32, 33] ?_
    simp only [zz20, zzI, look_nil, Nat.reduceBEq]
    refine awp_block ?_
    refine awp_loop (fun m s => (m = 6 ∧ s = S 83 [(1, .d (iv who)), (2, .d (iv cur)), (3, .d (poss l)), (4, .ptr 4 0 0), (12, .d (iv 0)), (32, .ag [.d (iv (lossT (pcs r who cur l) 0)), .d (iv (lossT (pcs r who cur l) 1)), .d (iv (lossT (pcs r who cur l) 2)), .d (iv (lossT (pcs r who cur l) 3)), .d (iv (lossT (pcs r who cur l) 4)), .d (iv (lossT (pcs r who cur l) 5))]), (33, .d (iv 0))] [(4, (⟨True, 26, 3, true, false, 4, [[.d (.sl 3 (r.mems.map memC)), .d (.sl 12 (r.insts.map instC)), .d (.sl 4 (r.assets.map assetC))]]⟩ : ARow))]) ∨ (m = 5 ∧ s = S 83 [(1, .d (iv who)), (2, .d (iv cur)), (3, .d (poss l)), (4, .ptr 4 0 0), (12, .d (iv (mx2 0 (lossT (pcs r who cur l) 0)))), (32, .ag [.d (iv (lossT (pcs r who cur l) 0)), .d (iv (lossT (pcs r who cur l) 1)), .d (iv (lossT (pcs r who cur l) 2)), .d (iv (lossT (pcs r who cur l) 3)), .d (iv (lossT (pcs r who cur l) 4)), .d (iv (lossT (pcs r who cur l) 5))]), (33, .d (iv 1))] [(4, (⟨True, 26, 3, true, false, 4, [[.d (.sl 3 (r.mems.map memC)), .d (.sl 12 (r.insts.map instC)), .d (.sl 4 (r.assets.map assetC))]]⟩ : ARow))]) ∨ (m = 4 ∧ s = S 83 [(1, .d (iv who)), (2, .d (iv cur)), (3, .d (poss l)), (4, .ptr 4 0 0), (12, .d (iv (mx2 (mx2 0 (lossT (pcs r who cur l) 0)) (lossT (pcs r who cur l) 1)))), (32, .ag [.d (iv (lossT (pcs r who cur l) 0)), .d (iv (lossT (pcs r who cur l) 1)), .d (iv (lossT (pcs r who cur l) 2)), .d (iv (lossT (pcs r who cur l) 3)), .d (iv (lossT (pcs r who cur l) 4)), .d (iv (lossT (pcs r who cur l) 5))]), (33, .d (iv 2))] [(4, (⟨True, 26, 3, true, false, 4, [[.d (.sl 3 (r.mems.map memC)), .d (.sl 12 (r.insts.map instC)), .d (.sl 4 (r.assets.map assetC))]]⟩ : ARow))]) ∨ (m = 3 ∧ s = S 83 [(1, .d (iv who)), (2, .d (iv cur)), (3, .d (poss l)), (4, .ptr 4 0 0), (12, .d (iv (mx2 (mx2 (mx2 0 (lossT (pcs r who cur l) 0)) (lossT (pcs r who cur l) 1)) (lossT (pcs r who cur l) 2)))), (32, .ag [.d (iv (lossT (pcs r who cur l) 0)), .d (iv (lossT (pcs r who cur l) 1)), .d (iv (lossT (pcs r who cur l) 2)), .d (iv (lossT (pcs r who cur l) 3)), .d (iv (lossT (pcs r who cur l) 4)), .d (iv (lossT (pcs r who cur l) 5))]), (33, .d (iv 3))] [(4, (⟨True, 26, 3, true, false, 4, [[.d (.sl 3 (r.mems.map memC)), .d (.sl 12 (r.insts.map instC)), .d (.sl 4 (r.assets.map assetC))]]⟩ : ARow))]) ∨ (m = 2 ∧ s = S 83 [(1, .d (iv who)), (2, .d (iv cur)), (3, .d (poss l)), (4, .ptr 4 0 0), (12, .d (iv (mx2 (mx2 (mx2 (mx2 0 (lossT (pcs r who cur l) 0)) (lossT (pcs r who cur l) 1)) (lossT (pcs r who cur l) 2)) (lossT (pcs r who cur l) 3)))), (32, .ag [.d (iv (lossT (pcs r who cur l) 0)), .d (iv (lossT (pcs r who cur l) 1)), .d (iv (lossT (pcs r who cur l) 2)), .d (iv (lossT (pcs r who cur l) 3)), .d (iv (lossT (pcs r who cur l) 4)), .d (iv (lossT (pcs r who cur l) 5))]), (33, .d (iv 4))] [(4, (⟨True, 26, 3, true, false, 4, [[.d (.sl 3 (r.mems.map memC)), .d (.sl 12 (r.insts.map instC)), .d (.sl 4 (r.assets.map assetC))]]⟩ : ARow))]) ∨ (m = 1 ∧ s = S 83 [(1, .d (iv who)), (2, .d (iv cur)), (3, .d (poss l)), (4, .ptr 4 0 0), (12, .d (iv (mx2 (mx2 (mx2 (mx2 (mx2 0 (lossT (pcs r who cur l) 0)) (lossT (pcs r who cur l) 1)) (lossT (pcs r who cur l) 2)) (lossT (pcs r who cur l) 3)) (lossT (pcs r who cur l) 4)))), (32, .ag [.d (iv (lossT (pcs r who cur l) 0)), .d (iv (lossT (pcs r who cur l) 1)), .d (iv (lossT (pcs r who cur l) 2)), .d (iv (lossT (pcs r who cur l) 3)), .d (iv (lossT (pcs r who cur l) 4)), .d (iv (lossT (pcs r who cur l) 5))]), (33, .d (iv 5))] [(4, (⟨True, 26, 3, true, false, 4, [[.d (.sl 3 (r.mems.map memC)), .d (.sl 12 (r.insts.map instC)), .d (.sl 4 (r.assets.map assetC))]]⟩ : ARow))]) ∨ (m = 0 ∧ s = S 83 [(1, .d (iv who)), (2, .d (iv cur)), (3, .d (poss l)), (4, .ptr 4 0 0), (12, .d (iv (mx2 (mx2 (mx2 (mx2 (mx2 (mx2 0 (lossT (pcs r who cur l) 0)) (lossT (pcs r who cur l) 1)) (lossT (pcs r who cur l) 2)) (lossT (pcs r who cur l) 3)) (lossT (pcs r who cur l) 4)) (lossT (pcs r who cur l) 5)))), (32, .ag [.d (iv (lossT (pcs r who cur l) 0)), .d (iv (lossT (pcs r who cur l) 1)), .d (iv (lossT (pcs r who cur l) 2)), .d (iv (lossT (pcs r who cur l) 3)), .d (iv (lossT (pcs r who cur l) 4)), .d (iv (lossT (pcs r who cur l) 5))]), (33, .d (iv 6))] [(4, (⟨True, 26, 3, true, false, 4, [[.d (.sl 3 (r.mems.map memC)), .d (.sl 12 (r.insts.map instC)), .d (.sl 4 (r.assets.map assetC))]]⟩ : ARow))])) 6 _ (le_SK id [] rfl (l' := [(1, .d (iv who)), (2, .d (iv cur)), (3, .d (poss l)), (4, .ptr 4 0 0), (12, .d (iv 0)), (32, .ag [.d (iv (lossT (pcs r who cur l) 0)), .d (iv (lossT (pcs r who cur l) 1)), .d (iv (lossT (pcs r who cur l) 2)), .d (iv (lossT (pcs r who cur l) 3)), .d (iv (lossT (pcs r who cur l) 4)), .d (iv (lossT (pcs r who cur l) 5))]), (33, .d (iv 0))]) (m' := [(4, (⟨True, 26, 3, true, false, 4, [[.d (.sl 3 (r.mems.map memC)), .d (.sl 12 (r.insts.map instC)), .d (.sl 4 (r.assets.map assetC))]]⟩ : ARow))]) ?_ ?_ ?_ ?_) (.inl (⟨rfl, rfl⟩)) ?_
    · simp only [leV, look_cons, Nat.reduceBEq, cond_true, cond_false]; exact ⟨VLe.refl _, VLe.refl _, VLe.refl _, VLe.refl _, VLe.refl _, VLe.refl _, VLe.refl _, trivial⟩
    · exact ⟨fun _ => ⟨_, rfl, ⟨id, rfl, rfl, rfl, id, .inl, VLess.refl _⟩⟩, fun h => by simp at h, trivial⟩
    · simp [wfV, AV.ids, AV.idsL, lookR]
    · simp [wfR, AV.idsL, AV.ids]
    rintro m s (⟨rfl, rfl⟩ | ⟨rfl, rfl⟩ | ⟨rfl, rfl⟩ | ⟨rfl, rfl⟩ | ⟨rfl, rfl⟩ | ⟨rfl, rfl⟩ | ⟨rfl, rfl⟩)
    · skip
      refine awp_seq fun K2 hK2 => ?_
      refine awp_plain F_mixed [some 34] rfl ?_
      simp only [List.nil_append, List.cons_append, true_and, and_true, zz0, true_implies, Nat.reduceLT, Nat.reduceLeDiff, zzI, look_nil, Nat.reduceBEq, implies_true, zz21, gr_v, zz22, zz6, Nat.reduceEqDiff, ↓reduceIte]
      refine hK2 _ ?_; try clear hK2 K2
      refine awp_keepL [1, 2, 3, 4, 12, 32, 33, 34] ?_
      simp only [zz20, zzI, look_nil, Nat.reduceBEq]
      refine awp_seq fun K2 hK2 => ?_
      refine awp_condS _ (by decide) (by simp only [look_cons, Nat.reduceBEq, cond_true, cond_false]; rfl) ?_ ?_
      · intro hb
        clear hb
        refine awp_skip ?_
        simp only [zz6, Nat.reduceEqDiff, ↓reduceIte]
        refine hK2 _ ?_; try clear hK2 K2
        refine awp_keepL [1, 2, 3, 4, 12, 32, 33] ?_
        simp only [zz20, zzI, look_nil, Nat.reduceBEq]
        refine awp_seq fun K2 hK2 => ?_
        refine awp_block ?_
        refine awp_seq fun K3 hK3 => ?_
        refine awp_plain F_mixed [some 35, some 14] rfl ?_
        simp only [List.nil_append, List.cons_append, true_and, and_true, zz0, true_implies, Nat.reduceLT, Nat.reduceLeDiff, zzI, look_nil, Nat.reduceBEq, implies_true, evS_index, evIv_int, ixB_some, ixV_ag, ixV_agg, F_arr31, F_ok3, F_ag3, F_sz3, zzG, zzD, Nat.reduceAdd, Nat.zero_add, zzF, zzB, zzE, evS_assign, Int.reduceToNat, Int.reduceLT, Int.reduceLE, cast6, Nat.reduceMul, zz6, Nat.reduceEqDiff, ↓reduceIte]
        refine hK3 _ ?_; try clear hK3 K3
        refine awp_keepL [1, 2, 3, 4, 12, 14, 32, 33] ?_
        simp only [zz20, zzI, look_nil, Nat.reduceBEq]
        refine awp_plain F_mixed [some 36, some 37, some 38, some 12] rfl ?_
        simp only [List.nil_append, List.cons_append, true_and, and_true, zz0, true_implies, Nat.reduceLT, Nat.reduceLeDiff, zzI, look_nil, Nat.reduceBEq, implies_true, evS_move, evS_call, zz11, grsL, gr_v, Option.bind_some, Option.map_some, oksL, evS_assign, zz6, Nat.reduceEqDiff, ↓reduceIte]
        refine hK2 _ ?_; try clear hK2 K2
        refine awp_keepL [1, 2, 3, 4, 12, 32, 33] ?_
        simp only [zz20, zzI, look_nil, Nat.reduceBEq]
        refine awp_plain F_mixed [some 39, some 33] rfl ?_
        simp only [List.nil_append, List.cons_append, true_and, and_true, zz0, true_implies, Nat.reduceLT, Nat.reduceLeDiff, zzI, look_nil, Nat.reduceBEq, implies_true, zz21, gr_v, zz26, evS_move, zz6, Nat.reduceEqDiff, ↓reduceIte]
        refine ⟨5, _, by decide, le_SK id [] rfl (l' := [(1, .d (iv who)), (2, .d (iv cur)), (3, .d (poss l)), (4, .ptr 4 0 0), (12, .d (iv (mx2 0 (lossT (pcs r who cur l) 0)))), (32, .ag [.d (iv (lossT (pcs r who cur l) 0)), .d (iv (lossT (pcs r who cur l) 1)), .d (iv (lossT (pcs r who cur l) 2)), .d (iv (lossT (pcs r who cur l) 3)), .d (iv (lossT (pcs r who cur l) 4)), .d (iv (lossT (pcs r who cur l) 5))]), (33, .d (iv 1))]) (m' := [(4, (⟨True, 26, 3, true, false, 4, [[.d (.sl 3 (r.mems.map memC)), .d (.sl 12 (r.insts.map instC)), .d (.sl 4 (r.assets.map assetC))]]⟩ : ARow))]) ?_ ?_ ?_ ?_, .inr (.inl (⟨rfl, rfl⟩))⟩
        · simp only [leV, look_cons, Nat.reduceBEq, cond_true, cond_false]; exact ⟨VLe.refl _, VLe.refl _, VLe.refl _, VLe.refl _, VLe.refl _, VLe.refl _, VLe.refl _, trivial⟩
        · exact ⟨fun _ => ⟨_, rfl, ⟨id, rfl, rfl, rfl, id, .inl, VLess.refl _⟩⟩, fun h => by simp at h, trivial⟩
        · simp [wfV, AV.ids, AV.idsL, lookR]
        · simp [wfR, AV.idsL, AV.ids]
      · intro hb
        simp at hb
    · skip
      refine awp_seq fun K2 hK2 => ?_
      refine awp_plain F_mixed [some 34] rfl ?_
      simp only [List.nil_append, List.cons_append, true_and, and_true, zz0, true_implies, Nat.reduceLT, Nat.reduceLeDiff, zzI, look_nil, Nat.reduceBEq, implies_true, zz21, gr_v, zz22, zz6, Nat.reduceEqDiff, ↓reduceIte]
      refine hK2 _ ?_; try clear hK2 K2
      refine awp_keepL [1, 2, 3, 4, 12, 32, 33, 34] ?_
      simp only [zz20, zzI, look_nil, Nat.reduceBEq]
      refine awp_seq fun K2 hK2 => ?_
      refine awp_condS _ (by decide) (by simp only [look_cons, Nat.reduceBEq, cond_true, cond_false]; rfl) ?_ ?_
      · intro hb
        clear hb
        refine awp_skip ?_
        simp only [zz6, Nat.reduceEqDiff, ↓reduceIte]
        refine hK2 _ ?_; try clear hK2 K2
        refine awp_keepL [1, 2, 3, 4, 12, 32, 33] ?_
        simp only [zz20, zzI, look_nil, Nat.reduceBEq]
        refine awp_seq fun K2 hK2 => ?_
        refine awp_block ?_
        refine awp_seq fun K3 hK3 => ?_
        refine awp_plain F_mixed [some 35, some 14] rfl ?_
        simp only [List.nil_append, List.cons_append, true_and, and_true, zz0, true_implies, Nat.reduceLT, Nat.reduceLeDiff, zzI, look_nil, Nat.reduceBEq, implies_true, evS_index, evIv_int, ixB_some, ixV_ag, ixV_agg, F_arr31, F_ok3, F_ag3, F_sz3, zzG, zzD, Nat.reduceAdd, Nat.zero_add, zzF, zzB, zzE, evS_assign, Int.reduceToNat, Int.reduceLT, Int.reduceLE, cast6, Nat.reduceMul, zz6, Nat.reduceEqDiff, ↓reduceIte]
        refine hK3 _ ?_; try clear hK3 K3
        refine awp_keepL [1, 2, 3, 4, 12, 14, 32, 33] ?_
        simp only [zz20, zzI, look_nil, Nat.reduceBEq]
        refine awp_plain F_mixed [some 36, some 37, some 38, some 12] rfl ?_
        simp only [List.nil_append, List.cons_append, true_and, and_true, zz0, true_implies, Nat.reduceLT, Nat.reduceLeDiff, zzI, look_nil, Nat.reduceBEq, implies_true, evS_move, evS_call, zz11, grsL, gr_v, Option.bind_some, Option.map_some, oksL, evS_assign, zz6, Nat.reduceEqDiff, ↓reduceIte]
        refine hK2 _ ?_; try clear hK2 K2
        refine awp_keepL [1, 2, 3, 4, 12, 32, 33] ?_
        simp only [zz20, zzI, look_nil, Nat.reduceBEq]
        refine awp_plain F_mixed [some 39, some 33] rfl ?_
        simp only [List.nil_append, List.cons_append, true_and, and_true, zz0, true_implies, Nat.reduceLT, Nat.reduceLeDiff, zzI, look_nil, Nat.reduceBEq, implies_true, zz21, gr_v, zz26, evS_move, zz6, Nat.reduceEqDiff, ↓reduceIte]
        refine ⟨4, _, by decide, le_SK id [] rfl (l' := [(1, .d (iv who)), (2, .d (iv cur)), (3, .d (poss l)), (4, .ptr 4 0 0), (12, .d (iv (mx2 (mx2 0 (lossT (pcs r who cur l) 0)) (lossT (pcs r who cur l) 1)))), (32, .ag [.d (iv (lossT (pcs r who cur l) 0)), .d (iv (lossT (pcs r who cur l) 1)), .d (iv (lossT (pcs r who cur l) 2)), .d (iv (lossT (pcs r who cur l) 3)), .d (iv (lossT (pcs r who cur l) 4)), .d (iv (lossT (pcs r who cur l) 5))]), (33, .d (iv 2))]) (m' := [(4, (⟨True, 26, 3, true, false, 4, [[.d (.sl 3 (r.mems.map memC)), .d (.sl 12 (r.insts.map instC)), .d (.sl 4 (r.assets.map assetC))]]⟩ : ARow))]) ?_ ?_ ?_ ?_, .inr (.inr (.inl (⟨rfl, rfl⟩)))⟩
        · simp only [leV, look_cons, Nat.reduceBEq, cond_true, cond_false]; exact ⟨VLe.refl _, VLe.refl _, VLe.refl _, VLe.refl _, VLe.refl _, VLe.refl _, VLe.refl _, trivial⟩
        · exact ⟨fun _ => ⟨_, rfl, ⟨id, rfl, rfl, rfl, id, .inl, VLess.refl _⟩⟩, fun h => by simp at h, trivial⟩
        · simp [wfV, AV.ids, AV.idsL, lookR]
        · simp [wfR, AV.idsL, AV.ids]
      · intro hb
        simp at hb
    · skip
      refine awp_seq fun K2 hK2 => ?_
      refine awp_plain F_mixed [some 34] rfl ?_
      simp only [List.nil_append, List.cons_append, true_and, and_true, zz0, true_implies, Nat.reduceLT, Nat.reduceLeDiff, zzI, look_nil, Nat.reduceBEq, implies_true, zz21, gr_v, zz22, zz6, Nat.reduceEqDiff, ↓reduceIte]
      refine hK2 _ ?_; try clear hK2 K2
      refine awp_keepL [1, 2, 3, 4, 12, 32, 33, 34] ?_
      simp only [zz20, zzI, look_nil, Nat.reduceBEq]
      refine awp_seq fun K2 hK2 => ?_
      refine awp_condS _ (by decide) (by simp only [look_cons, Nat.reduceBEq, cond_true, cond_false]; rfl) ?_ ?_
      · intro hb
        clear hb
        refine awp_skip ?_
        simp only [zz6, Nat.reduceEqDiff, ↓reduceIte]
        refine hK2 _ ?_; try clear hK2 K2
        refine awp_keepL [1, 2, 3, 4, 12, 32, 33] ?_
        simp only [zz20, zzI, look_nil, Nat.reduceBEq]
        refine awp_seq fun K2 hK2 => ?_
        refine awp_block ?_
        refine awp_seq fun K3 hK3 => ?_
        refine awp_plain F_mixed [some 35, some 14] rfl ?_
        simp only [List.nil_append, List.cons_append, true_and, and_true, zz0, true_implies, Nat.reduceLT, Nat.reduceLeDiff, zzI, look_nil, Nat.reduceBEq, implies_true, evS_index, evIv_int, ixB_some, ixV_ag, ixV_agg, F_arr31, F_ok3, F_ag3, F_sz3, zzG, zzD, Nat.reduceAdd, Nat.zero_add, zzF, zzB, zzE, evS_assign, Int.reduceToNat, Int.reduceLT, Int.reduceLE, cast6, Nat.reduceMul, zz6, Nat.reduceEqDiff, ↓reduceIte]
        refine hK3 _ ?_; try clear hK3 K3
        refine awp_keepL [1, 2, 3, 4, 12, 14, 32, 33] ?_
        simp only [zz20, zzI, look_nil, Nat.reduceBEq]
        refine awp_plain F_mixed [some 36, some 37, some 38, some 12] rfl ?_
        simp only [List.nil_append, List.cons_append, true_and, and_true, zz0, true_implies, Nat.reduceLT, Nat.reduceLeDiff, zzI, look_nil, Nat.reduceBEq, implies_true, evS_move, evS_call, zz11, grsL, gr_v, Option.bind_some, Option.map_some, oksL, evS_assign, zz6, Nat.reduceEqDiff, ↓reduceIte]
        refine hK2 _ ?_; try clear hK2 K2
        refine awp_keepL [1, 2, 3, 4, 12, 32, 33] ?_
        simp only [zz20, zzI, look_nil, Nat.reduceBEq]
        refine awp_plain F_mixed [some 39, some 33] rfl ?_
        simp only [List.nil_append, List.cons_append, true_and, and_true, zz0, true_implies, Nat.reduceLT, Nat.reduceLeDiff, zzI, look_nil, Nat.reduceBEq, implies_true, zz21, gr_v, zz26, evS_move, zz6, Nat.reduceEqDiff, ↓reduceIte]
        refine ⟨3, _, by decide, le_SK id [] rfl (l' := [(1, .d (iv who)), (2, .d (iv cur)), (3, .d (poss l)), (4, .ptr 4 0 0), (12, .d (iv (mx2 (mx2 (mx2 0 (lossT (pcs r who cur l) 0)) (lossT (pcs r who cur l) 1)) (lossT (pcs r who cur l) 2)))), (32, .ag [.d (iv (lossT (pcs r who cur l) 0)), .d (iv (lossT (pcs r who cur l) 1)), .d (iv (lossT (pcs r who cur l) 2)), .d (iv (lossT (pcs r who cur l) 3)), .d (iv (lossT (pcs r who cur l) 4)), .d (iv (lossT (pcs r who cur l) 5))]), (33, .d (iv 3))]) (m' := [(4, (⟨True, 26, 3, true, false, 4, [[.d (.sl 3 (r.mems.map memC)), .d (.sl 12 (r.insts.map instC)), .d (.sl 4 (r.assets.map assetC))]]⟩ : ARow))]) ?_ ?_ ?_ ?_, .inr (.inr (.inr (.inl (⟨rfl, rfl⟩))))⟩
        · simp only [leV, look_cons, Nat.reduceBEq, cond_true, cond_false]; exact ⟨VLe.refl _, VLe.refl _, VLe.refl _, VLe.refl _, VLe.refl _, VLe.refl _, VLe.refl _, trivial⟩
        · exact ⟨fun _ => ⟨_, rfl, ⟨id, rfl, rfl, rfl, id, .inl, VLess.refl _⟩⟩, fun h => by simp at h, trivial⟩
        · simp [wfV, AV.ids, AV.idsL, lookR]
        · simp [wfR, AV.idsL, AV.ids]
      · intro hb
        simp at hb
    · skip
      refine awp_seq fun K2 hK2 => ?_
      refine awp_plain F_mixed [some 34] rfl ?_
      simp only [List.nil_append, List.cons_append, true_and, and_true, zz0, true_implies, Nat.reduceLT, Nat.reduceLeDiff, zzI, look_nil, Nat.reduceBEq, implies_true, zz21, gr_v, zz22, zz6, Nat.reduceEqDiff, ↓reduceIte]
      refine hK2 _ ?_; try clear hK2 K2
      refine awp_keepL [1, 2, 3, 4, 12, 32, 33, 34] ?_
      simp only [zz20, zzI, look_nil, Nat.reduceBEq]
      refine awp_seq fun K2 hK2 => ?_
      refine awp_condS _ (by decide) (by simp only [look_cons, Nat.reduceBEq, cond_true, cond_false]; rfl) ?_ ?_
      · intro hb
        clear hb
        refine awp_skip ?_
        simp only [zz6, Nat.reduceEqDiff, ↓reduceIte]
        refine hK2 _ ?_; try clear hK2 K2
        refine awp_keepL [1, 2, 3, 4, 12, 32, 33] ?_
        simp only [zz20, zzI, look_nil, Nat.reduceBEq]
        refine awp_seq fun K2 hK2 => ?_
        refine awp_block ?_
        refine awp_seq fun K3 hK3 => ?_
        refine awp_plain F_mixed [some 35, some 14] rfl ?_
        simp only [List.nil_append, List.cons_append, true_and, and_true, zz0, true_implies, Nat.reduceLT, Nat.reduceLeDiff, zzI, look_nil, Nat.reduceBEq, implies_true, evS_index, evIv_int, ixB_some, ixV_ag, ixV_agg, F_arr31, F_ok3, F_ag3, F_sz3, zzG, zzD, Nat.reduceAdd, Nat.zero_add, zzF, zzB, zzE, evS_assign, Int.reduceToNat, Int.reduceLT, Int.reduceLE, cast6, Nat.reduceMul, zz6, Nat.reduceEqDiff, ↓reduceIte]
        refine hK3 _ ?_; try clear hK3 K3
        refine awp_keepL [1, 2, 3, 4, 12, 14, 32, 33] ?_
        simp only [zz20, zzI, look_nil, Nat.reduceBEq]
        refine awp_plain F_mixed [some 36, some 37, some 38, some 12] rfl ?_
        simp only [List.nil_append, List.cons_append, true_and, and_true, zz0, true_implies, Nat.reduceLT, Nat.reduceLeDiff, zzI, look_nil, Nat.reduceBEq, implies_true, evS_move, evS_call, zz11, grsL, gr_v, Option.bind_some, Option.map_some, oksL, evS_assign, zz6, Nat.reduceEqDiff, ↓reduceIte]
        refine hK2 _ ?_; try clear hK2 K2
        refine awp_keepL [1, 2, 3, 4, 12, 32, 33] ?_
        simp only [zz20, zzI, look_nil, Nat.reduceBEq]
        refine awp_plain F_mixed [some 39, some 33] rfl ?_
        simp only [List.nil_append, List.cons_append, true_and, and_true, zz0, true_implies, Nat.reduceLT, Nat.reduceLeDiff, zzI, look_nil, Nat.reduceBEq, implies_true, zz21, gr_v, zz26, evS_move, zz6, Nat.reduceEqDiff, ↓reduceIte]
        refine ⟨2, _, by decide, le_SK id [] rfl (l' := [(1, .d (iv who)), (2, .d (iv cur)), (3, .d (poss l)), (4, .ptr 4 0 0), (12, .d (iv (mx2 (mx2 (mx2 (mx2 0 (lossT (pcs r who cur l) 0)) (lossT (pcs r who cur l) 1)) (lossT (pcs r who cur l) 2)) (lossT (pcs r who cur l) 3)))), (32, .ag [.d (iv (lossT (pcs r who cur l) 0)), .d (iv (lossT (pcs r who cur l) 1)), .d (iv (lossT (pcs r who cur l) 2)), .d (iv (lossT (pcs r who cur l) 3)), .d (iv (lossT (pcs r who cur l) 4)), .d (iv (lossT (pcs r who cur l) 5))]), (33, .d (iv 4))]) (m' := [(4, (⟨True, 26, 3, true, false, 4, [[.d (.sl 3 (r.mems.map memC)), .d (.sl 12 (r.insts.map instC)), .d (.sl 4 (r.assets.map assetC))]]⟩ : ARow))]) ?_ ?_ ?_ ?_, .inr (.inr (.inr (.inr (.inl (⟨rfl, rfl⟩)))))⟩
        · simp only [leV, look_cons, Nat.reduceBEq, cond_true, cond_false]; exact ⟨VLe.refl _, VLe.refl _, VLe.refl _, VLe.refl _, VLe.refl _, VLe.refl _, VLe.refl _, trivial⟩
        · exact ⟨fun _ => ⟨_, rfl, ⟨id, rfl, rfl, rfl, id, .inl, VLess.refl _⟩⟩, fun h => by simp at h, trivial⟩
        · simp [wfV, AV.ids, AV.idsL, lookR]
        · simp [wfR, AV.idsL, AV.ids]
      · intro hb
        simp at hb
    · skip
      refine awp_seq fun K2 hK2 => ?_
      refine awp_plain F_mixed [some 34] rfl ?_
      simp only [List.nil_append, List.cons_append, true_and, and_true, zz0, true_implies, Nat.reduceLT, Nat.reduceLeDiff, zzI, look_nil, Nat.reduceBEq, implies_true, zz21, gr_v, zz22, zz6, Nat.reduceEqDiff, ↓reduceIte]
      refine hK2 _ ?_; try clear hK2 K2
      refine awp_keepL [1, 2, 3, 4, 12, 32, 33, 34] ?_
      simp only [zz20, zzI, look_nil, Nat.reduceBEq]
      refine awp_seq fun K2 hK2 => ?_
      refine awp_condS _ (by decide) (by simp only [look_cons, Nat.reduceBEq, cond_true, cond_false]; rfl) ?_ ?_
      · intro hb
        clear hb
        refine awp_skip ?_
        simp only [zz6, Nat.reduceEqDiff, ↓reduceIte]
        refine hK2 _ ?_; try clear hK2 K2
        refine awp_keepL [1, 2, 3, 4, 12, 32, 33] ?_
        simp only [zz20, zzI, look_nil, Nat.reduceBEq]
        refine awp_seq fun K2 hK2 => ?_
        refine awp_block ?_
        refine awp_seq fun K3 hK3 => ?_
        refine awp_plain F_mixed [some 35, some 14] rfl ?_
        simp only [List.nil_append, List.cons_append, true_and, and_true, zz0, true_implies, Nat.reduceLT, Nat.reduceLeDiff, zzI, look_nil, Nat.reduceBEq, implies_true, evS_index, evIv_int, ixB_some, ixV_ag, ixV_agg, F_arr31, F_ok3, F_ag3, F_sz3, zzG, zzD, Nat.reduceAdd, Nat.zero_add, zzF, zzB, zzE, evS_assign, Int.reduceToNat, Int.reduceLT, Int.reduceLE, cast6, Nat.reduceMul, zz6, Nat.reduceEqDiff, ↓reduceIte]
        refine hK3 _ ?_; try clear hK3 K3
        refine awp_keepL [1, 2, 3, 4, 12, 14, 32, 33] ?_
        simp only [zz20, zzI, look_nil, Nat.reduceBEq]
        refine awp_plain F_mixed [some 36, some 37, some 38, some 12] rfl ?_
        simp only [List.nil_append, List.cons_append, true_and, and_true, zz0, true_implies, Nat.reduceLT, Nat.reduceLeDiff, zzI, look_nil, Nat.reduceBEq, implies_true, evS_move, evS_call, zz11, grsL, gr_v, Option.bind_some, Option.map_some, oksL, evS_assign, zz6, Nat.reduceEqDiff, ↓reduceIte]
        refine hK2 _ ?_; try clear hK2 K2
        refine awp_keepL [1, 2, 3, 4, 12, 32, 33] ?_
        simp only [zz20, zzI, look_nil, Nat.reduceBEq]
        refine awp_plain F_mixed [some 39, some 33] rfl ?_
        simp only [List.nil_append, List.cons_append, true_and, and_true, zz0, true_implies, Nat.reduceLT, Nat.reduceLeDiff, zzI, look_nil, Nat.reduceBEq, implies_true, zz21, gr_v, zz26, evS_move, zz6, Nat.reduceEqDiff, ↓reduceIte]
        refine ⟨1, _, by decide, le_SK id [] rfl (l' := [(1, .d (iv who)), (2, .d (iv cur)), (3, .d (poss l)), (4, .ptr 4 0 0), (12, .d (iv (mx2 (mx2 (mx2 (mx2 (mx2 0 (lossT (pcs r who cur l) 0)) (lossT (pcs r who cur l) 1)) (lossT (pcs r who cur l) 2)) (lossT (pcs r who cur l) 3)) (lossT (pcs r who cur l) 4)))), (32, .ag [.d (iv (lossT (pcs r who cur l) 0)), .d (iv (lossT (pcs r who cur l) 1)), .d (iv (lossT (pcs r who cur l) 2)), .d (iv (lossT (pcs r who cur l) 3)), .d (iv (lossT (pcs r who cur l) 4)), .d (iv (lossT (pcs r who cur l) 5))]), (33, .d (iv 5))]) (m' := [(4, (⟨True, 26, 3, true, false, 4, [[.d (.sl 3 (r.mems.map memC)), .d (.sl 12 (r.insts.map instC)), .d (.sl 4 (r.assets.map assetC))]]⟩ : ARow))]) ?_ ?_ ?_ ?_, .inr (.inr (.inr (.inr (.inr (.inl (⟨rfl, rfl⟩))))))⟩
        · simp only [leV, look_cons, Nat.reduceBEq, cond_true, cond_false]; exact ⟨VLe.refl _, VLe.refl _, VLe.refl _, VLe.refl _, VLe.refl _, VLe.refl _, VLe.refl _, trivial⟩
        · exact ⟨fun _ => ⟨_, rfl, ⟨id, rfl, rfl, rfl, id, .inl, VLess.refl _⟩⟩, fun h => by simp at h, trivial⟩
        · simp [wfV, AV.ids, AV.idsL, lookR]
        · simp [wfR, AV.idsL, AV.ids]
      · intro hb
        simp at hb
    · skip
      refine awp_seq fun K2 hK2 => ?_
      refine awp_plain F_mixed [some 34] rfl ?_
      simp only [List.nil_append, List.cons_append, true_and, and_true, zz0, true_implies, Nat.reduceLT, Nat.reduceLeDiff, zzI, look_nil, Nat.reduceBEq, implies_true, zz21, gr_v, zz22, zz6, Nat.reduceEqDiff, ↓reduceIte]
      refine hK2 _ ?_; try clear hK2 K2
      refine awp_keepL [1, 2, 3, 4, 12, 32, 33, 34] ?_
      simp only [zz20, zzI, look_nil, Nat.reduceBEq]
      refine awp_seq fun K2 hK2 => ?_
      refine awp_condS _ (by decide) (by simp only [look_cons, Nat.reduceBEq, cond_true, cond_false]; rfl) ?_ ?_
      · intro hb
        clear hb
        refine awp_skip ?_
        simp only [zz6, Nat.reduceEqDiff, ↓reduceIte]
        refine hK2 _ ?_; try clear hK2 K2
        refine awp_keepL [1, 2, 3, 4, 12, 32, 33] ?_
        simp only [zz20, zzI, look_nil, Nat.reduceBEq]
        refine awp_seq fun K2 hK2 => ?_
        refine awp_block ?_
        refine awp_seq fun K3 hK3 => ?_
        refine awp_plain F_mixed [some 35, some 14] rfl ?_
        simp only [List.nil_append, List.cons_append, true_and, and_true, zz0, true_implies, Nat.reduceLT, Nat.reduceLeDiff, zzI, look_nil, Nat.reduceBEq, implies_true, evS_index, evIv_int, ixB_some, ixV_ag, ixV_agg, F_arr31, F_ok3, F_ag3, F_sz3, zzG, zzD, Nat.reduceAdd, Nat.zero_add, zzF, zzB, zzE, evS_assign, Int.reduceToNat, Int.reduceLT, Int.reduceLE, cast6, Nat.reduceMul, zz6, Nat.reduceEqDiff, ↓reduceIte]
        refine hK3 _ ?_; try clear hK3 K3
        refine awp_keepL [1, 2, 3, 4, 12, 14, 32, 33] ?_
        simp only [zz20, zzI, look_nil, Nat.reduceBEq]
        refine awp_plain F_mixed [some 36, some 37, some 38, some 12] rfl ?_
        simp only [List.nil_append, List.cons_append, true_and, and_true, zz0, true_implies, Nat.reduceLT, Nat.reduceLeDiff, zzI, look_nil, Nat.reduceBEq, implies_true, evS_move, evS_call, zz11, grsL, gr_v, Option.bind_some, Option.map_some, oksL, evS_assign, zz6, Nat.reduceEqDiff, ↓reduceIte]
        refine hK2 _ ?_; try clear hK2 K2
        refine awp_keepL [1, 2, 3, 4, 12, 32, 33] ?_
        simp only [zz20, zzI, look_nil, Nat.reduceBEq]
        refine awp_plain F_mixed [some 39, some 33] rfl ?_
        simp only [List.nil_append, List.cons_append, true_and, and_true, zz0, true_implies, Nat.reduceLT, Nat.reduceLeDiff, zzI, look_nil, Nat.reduceBEq, implies_true, zz21, gr_v, zz26, evS_move, zz6, Nat.reduceEqDiff, ↓reduceIte]
        refine ⟨0, _, by decide, le_SK id [] rfl (l' := [(1, .d (iv who)), (2, .d (iv cur)), (3, .d (poss l)), (4, .ptr 4 0 0), (12, .d (iv (mx2 (mx2 (mx2 (mx2 (mx2 (mx2 0 (lossT (pcs r who cur l) 0)) (lossT (pcs r who cur l) 1)) (lossT (pcs r who cur l) 2)) (lossT (pcs r who cur l) 3)) (lossT (pcs r who cur l) 4)) (lossT (pcs r who cur l) 5)))), (32, .ag [.d (iv (lossT (pcs r who cur l) 0)), .d (iv (lossT (pcs r who cur l) 1)), .d (iv (lossT (pcs r who cur l) 2)), .d (iv (lossT (pcs r who cur l) 3)), .d (iv (lossT (pcs r who cur l) 4)), .d (iv (lossT (pcs r who cur l) 5))]), (33, .d (iv 6))]) (m' := [(4, (⟨True, 26, 3, true, false, 4, [[.d (.sl 3 (r.mems.map memC)), .d (.sl 12 (r.insts.map instC)), .d (.sl 4 (r.assets.map assetC))]]⟩ : ARow))]) ?_ ?_ ?_ ?_, .inr (.inr (.inr (.inr (.inr (.inr (⟨rfl, rfl⟩))))))⟩
        · simp only [leV, look_cons, Nat.reduceBEq, cond_true, cond_false]; exact ⟨VLe.refl _, VLe.refl _, VLe.refl _, VLe.refl _, VLe.refl _, VLe.refl _, VLe.refl _, trivial⟩
        · exact ⟨fun _ => ⟨_, rfl, ⟨id, rfl, rfl, rfl, id, .inl, VLess.refl _⟩⟩, fun h => by simp at h, trivial⟩
        · simp [wfV, AV.ids, AV.idsL, lookR]
        · simp [wfR, AV.idsL, AV.ids]
      · intro hb
        simp at hb
    · skip
      refine awp_seq fun K2 hK2 => ?_
      refine awp_plain F_mixed [some 34] rfl ?_
      simp only [List.nil_append, List.cons_append, true_and, and_true, zz0, true_implies, Nat.reduceLT, Nat.reduceLeDiff, zzI, look_nil, Nat.reduceBEq, implies_true, zz21, gr_v, zz22, zz6, Nat.reduceEqDiff, ↓reduceIte]
      refine hK2 _ ?_; try clear hK2 K2
      refine awp_keepL [1, 2, 3, 4, 12, 32, 33, 34] ?_
      simp only [zz20, zzI, look_nil, Nat.reduceBEq]
      refine awp_seq fun K2 hK2 => ?_
      refine awp_condS _ (by decide) (by simp only [look_cons, Nat.reduceBEq, cond_true, cond_false]; rfl) ?_ ?_
      · intro hb
        simp at hb
      · intro hb
        clear hb
        refine awp_exit ?_
        simp only [zz6, Nat.reduceEqDiff, ↓reduceIte]
        refine hK0 _ ?_; try clear hK0 K0
        refine awp_keepL [1, 2, 3, 4, 12] ?_
        simp only [zz20, zzI, look_nil, Nat.reduceBEq]
        refine awp_seq fun K0 hK0 => ?_
        refine awp_plain F_mixed [some 40, some 41, some 42, some 15] rfl ?_
        simp only [List.nil_append, List.cons_append, true_and, and_true, zz0, true_implies, Nat.reduceLT, Nat.reduceLeDiff, zzI, look_nil, Nat.reduceBEq, implies_true, evS_move, evS_call, evC_value, F_sl54, F_zero59, F_sz59, zz3, newRow1, zz1, zzG, zzD, zz16, Option.some.injEq, exists_eq_left', exists_eq_left, Option.map_some, eq_self, reduceCtorEq, and_self, Nat.reduceAdd, Nat.zero_add, zzF, zzB, zzE, maxLen_le, Nat.reduceMul, evS_assign, wideA, unDs_map, zz6, Nat.reduceEqDiff, ↓reduceIte]
        refine call_go F_go28 (fun hG => wOf_ (lossM (pcs r who cur l)) (by omega) (by omega)) (by simp [AV.ids, AV.idsL, wideA]) (by simp) ?_
        simp only [List.nil_append, List.cons_append, true_and, and_true, zz0, true_implies, Nat.reduceLT, Nat.reduceLeDiff, zzI, look_nil, Nat.reduceBEq, implies_true, evS_move, evS_call, evC_value, F_sl54, F_zero59, F_sz59, zz3, newRow1, zz1, zzG, zzD, zz16, Option.some.injEq, exists_eq_left', exists_eq_left, Option.map_some, eq_self, reduceCtorEq, and_self, Nat.reduceAdd, Nat.zero_add, zzF, zzB, zzE, maxLen_le, Nat.reduceMul, evS_assign, wideA, unDs_map, zz6, Nat.reduceEqDiff, ↓reduceIte, atsL, oksG, freeN, AV.ren, AV.renL, addRows, ORow.row, Nat.reduceMul, Nat.reduceAdd, zz9, Option.bind_some, Option.map_some, forall_eq', D.sl.injEq, S_mem, Option.some.injEq, exists_eq_left', exists_eq_left, exists_eq', exists_eq, List.length_cons, zz2]
        refine ⟨rfl, ?_⟩
        refine hK0 _ ?_; try clear hK0 K0
        refine awp_keepL [1, 2, 3, 4, 15] ?_
        simp only [zz20, zzI, look_nil, Nat.reduceBEq]
        refine awp_seq fun K0 hK0 => ?_
        refine awp_plain F_mixed [some 44, some 45, some 46, some 47, some 48, some 43, some 49, some 50, some 16, some 17] rfl ?_
        simp only [List.nil_append, List.cons_append, true_and, and_true, zz0, true_implies, Nat.reduceLT, Nat.reduceLeDiff, zzI, look_nil, Nat.reduceBEq, implies_true, F_ok26, F_ag26, F_sz26, zz8, zz23, zzD, Nat.reduceAdd, Nat.zero_add, zzF, zzB, zzE, zz16, Option.some.injEq, exists_eq_left', exists_eq_left, Option.map_some, eq_self, reduceCtorEq, and_self, evS_move, evS_call, evC_value, zz14, evS_assign, poss, memsD, instsD, assetsD, rollC, D.agg.injEq, memA, memC, instA, instC, zzG, zz6, Nat.reduceEqDiff, ↓reduceIte]
        refine call_go F_go18 (fun hG => piecesF r who cur l h hl) (by simp [AV.ids, AV.idsL]) (by simp) ?_
        simp only [List.nil_append, List.cons_append, true_and, and_true, zz0, true_implies, Nat.reduceLT, Nat.reduceLeDiff, zzI, look_nil, Nat.reduceBEq, implies_true, F_ok26, F_ag26, F_sz26, zz8, zz23, zzD, Nat.reduceAdd, Nat.zero_add, zzF, zzB, zzE, zz16, Option.some.injEq, exists_eq_left', exists_eq_left, Option.map_some, eq_self, reduceCtorEq, and_self, evS_move, evS_call, evC_value, zz14, evS_assign, poss, memsD, instsD, assetsD, rollC, D.agg.injEq, memA, memC, instA, instC, zzG, zz6, Nat.reduceEqDiff, ↓reduceIte, atsL, oksG, freeN, AV.ren, AV.renL, addRows, ORow.row, Nat.reduceMul, Nat.reduceAdd, zz9, Option.bind_some, Option.map_some, forall_eq', D.sl.injEq, S_mem, Option.some.injEq, exists_eq_left', exists_eq_left, exists_eq', exists_eq, List.length_cons, zz2]
        refine hK0 _ ?_; try clear hK0 K0
        refine awp_keepL [15, 16] ?_
        simp only [zz20, zzI, look_nil, Nat.reduceBEq]
        refine awp_seq fun K0 hK0 => ?_
        refine awp_seq fun K1 hK1 => ?_
        refine awp_plain F_mixed [some 51, some 52, some 53] rfl ?_
        simp only [List.nil_append, List.cons_append, true_and, and_true, zz0, true_implies, Nat.reduceLT, Nat.reduceLeDiff, zzI, look_nil, Nat.reduceBEq, implies_true, evS_move, evS_call, zz12, F_sl51, Option.isSome_some, pieces, len_map, hL, zz6, Nat.reduceEqDiff, ↓reduceIte]
        refine hK1 _ ?_; try clear hK1 K1
        refine awp_keepL [15, 51, 52, 53] ?_
        simp only [zz20, zzI, look_nil, Nat.reduceBEq]
        refine awp_block ?_
        refine awp_loop (fun m s => ∃ pre post : List PieceV, pcs r who cur l = pre ++ post ∧ m = post.length ∧ s = S 83 [(15, .ref 15 (pre.length + 1)), (51, .d (pieces (pre ++ post))), (52, .d (iv (pre ++ post).length)), (53, .d (iv pre.length))] [(15, grow 59 2 42 ((margL (pcs r who cur l) pre).map wideC))]) (pcs r who cur l).length _ (le_SK (fun r => bif r == 15 then 42 else r) [] rfl (l' := [(15, .ref 15 (([] : List PieceV).length + 1)), (51, .d (pieces (([] : List PieceV) ++ (pcs r who cur l)))), (52, .d (iv (([] : List PieceV) ++ (pcs r who cur l)).length)), (53, .d (iv ([] : List PieceV).length))]) (m' := [(15, grow 59 2 42 ((margL (pcs r who cur l) ([] : List PieceV)).map wideC))]) ?_ ?_ ?_ ?_) ⟨[], pcs r who cur l, rfl, rfl, rfl⟩ ?_
        · simp only [leV, look_cons, Nat.reduceBEq, cond_true, cond_false, pieces, len_map, List.nil_append]; exact ⟨VLe.ref_ (f := (fun r => bif r == 15 then 42 else r)) (r := 15) (by simp), VLe.still rfl, VLe.still rfl, VLe.still rfl, trivial⟩
        · exact ⟨fun _ => ⟨_, rfl, ⟨id, rfl, rfl, rfl, id, (fun h => by cases h), VLess.still (by simp [AV.idsL, AV.ids])⟩⟩, fun h => by simp at h, trivial⟩
        · simp [wfV, AV.ids, lookR]
        · exact ⟨wf_data _ _, trivial⟩
        rintro m s ⟨pre, post, hsp, rfl, rfl⟩
        refine awp_seq fun K2 hK2 => ?_
        refine awp_plain F_mixed [some 54] rfl ?_
        simp only [List.nil_append, List.cons_append, true_and, and_true, zz0, true_implies, Nat.reduceLT, Nat.reduceLeDiff, zzI, look_nil, Nat.reduceBEq, implies_true, zz21, gr_v, zz22, zz6, Nat.reduceEqDiff, ↓reduceIte]
        refine hK2 _ ?_; try clear hK2 K2
        refine awp_keepL [15, 51, 52, 53, 54] ?_
        simp only [zz20, zzI, look_nil, Nat.reduceBEq]
        refine awp_seq fun K2 hK2 => ?_
        refine awp_condS _ (by decide) (by simp only [look_cons, Nat.reduceBEq, cond_true, cond_false]; rfl) ?_ ?_
        · intro hb
          obtain ⟨x, post, rfl⟩ := more_of hb; clear hb
          have hx : PieceOk x := hps x (by rw [hsp]; simp)
          have q0 := hx.q0; have q1 := hx.q1; have a0 := hx.a0; have a1 := hx.a1; have hb := hx.add
          have hmx := mx2_self (q := x.qty) (by omega) (by omega)
          refine awp_skip ?_
          simp only [zz6, Nat.reduceEqDiff, ↓reduceIte]
          refine hK2 _ ?_; try clear hK2 K2
          refine awp_keepL [15, 51, 52, 53] ?_
          simp only [zz20, zzI, look_nil, Nat.reduceBEq]
          refine awp_seq fun K2 hK2 => ?_
          refine awp_block ?_
          refine awp_seq fun K3 hK3 => ?_
          refine awp_plain F_mixed [some 55, some 56, some 19, none] rfl ?_
          simp only [List.nil_append, List.cons_append, true_and, and_true, zz0, true_implies, Nat.reduceLT, Nat.reduceLeDiff, zzI, look_nil, Nat.reduceBEq, implies_true, evS_indexAddr, zz23, zz24, F_sl51, F_sz56, Option.map_some, zz16, Option.some.injEq, exists_eq_left', exists_eq_left, eq_self, reduceCtorEq, and_self, F_ok56, F_ag56, zz8, zzD, Nat.reduceAdd, Nat.zero_add, zzF, zzB, zzE, zz32, newRow1, F_zero56, zz10, zz18, splice, List.append_nil, zz1, zzG, pieces, pieceC, getD_mid, len_map, lt_mid, ge_mid, zz6, Nat.reduceEqDiff, ↓reduceIte]
          refine hK3 _ ?_; try clear hK3 K3
          refine awp_keepL [15, 19, 51, 52, 53] ?_
          simp only [zz20, zzI, look_nil, Nat.reduceBEq]
          refine awp_plain F_mixed [some 57, some 58, some 59, some 60, some 61, some 62, some 63, some 64, some 65, some 66, some 67, some 68, some 69, some 15] rfl ?_
          simp only [List.nil_append, List.cons_append, true_and, and_true, zz0, true_implies, Nat.reduceLT, Nat.reduceLeDiff, zzI, look_nil, Nat.reduceBEq, implies_true, evS_move, zz19, zz23, F_off56_1, zzB, Nat.zero_add, Nat.reduceAdd, F_ok3, F_ag3, F_sz3, zz8, zzD, zzF, zzE, zz16, Option.some.injEq, exists_eq_left', exists_eq_left, Option.map_some, eq_self, reduceCtorEq, and_self, zz29, gr_v, zz37, evS_call, zz11, grsL, Option.bind_some, oksL, F_off56_0, F_off49_3, evC_value, F_sl54, F_zero59, F_sz59, zz3, newRow1, zz1, zzG, maxLen_le, Nat.reduceMul, F_by59, zz4, zz9, evS_assign, hmx, wideA, grow, D.agg.injEq, unDs_map, zz6, Nat.reduceEqDiff, ↓reduceIte]
          refine call_go F_go19 (fun hG => Times_ (mx2 x.qty (-x.qty)) x.inst.add (by omega) (by omega) (by omega) (by omega)) (by simp [AV.ids, AV.idsL, wideA]) (by simp) ?_
          simp only [List.nil_append, List.cons_append, true_and, and_true, zz0, true_implies, Nat.reduceLT, Nat.reduceLeDiff, zzI, look_nil, Nat.reduceBEq, implies_true, evS_move, zz19, zz23, F_off56_1, zzB, Nat.zero_add, Nat.reduceAdd, F_ok3, F_ag3, F_sz3, zz8, zzD, zzF, zzE, zz16, Option.some.injEq, exists_eq_left', exists_eq_left, Option.map_some, eq_self, reduceCtorEq, and_self, zz29, gr_v, zz37, evS_call, zz11, grsL, Option.bind_some, oksL, F_off56_0, F_off49_3, evC_value, F_sl54, F_zero59, F_sz59, zz3, newRow1, zz1, zzG, maxLen_le, Nat.reduceMul, F_by59, zz4, zz9, evS_assign, hmx, wideA, grow, D.agg.injEq, unDs_map, zz6, Nat.reduceEqDiff, ↓reduceIte, atsL, oksG, freeN, AV.ren, AV.renL, addRows, ORow.row, Nat.reduceMul, Nat.reduceAdd, unDs_cons, Option.bind_some, Option.map_some, forall_eq', D.sl.injEq, S_mem, Option.some.injEq, exists_eq_left', exists_eq_left, exists_eq', exists_eq, List.length_cons, zz2]
          have hm : pre.length + 1 + 1 ≤ 1000000 := by have e := congrArg List.length hsp; simp only [List.length_append, List.length_cons] at e; omega
          first | refine ⟨le_maxLen hm, by omega, ?_⟩ | refine ⟨by simp [margL], le_maxLen hm, by omega, ?_⟩
          clear hm
          refine hK2 _ ?_; try clear hK2 K2
          refine awp_keepL [15, 51, 52, 53] ?_
          simp only [zz20, zzI, look_nil, Nat.reduceBEq]
          refine awp_plain F_mixed [some 70, some 53] rfl ?_
          simp only [List.nil_append, List.cons_append, true_and, and_true, zz0, true_implies, Nat.reduceLT, Nat.reduceLeDiff, zzI, look_nil, Nat.reduceBEq, implies_true, zz21, gr_v, zz26, evS_move, zz6, Nat.reduceEqDiff, ↓reduceIte]
          refine ⟨post.length, _, by simp, le_SK (fun r => bif r == 15 then 69 else r) [] rfl (l' := [(15, .ref 15 ((pre ++ [x]).length + 1)), (51, .d (pieces ((pre ++ [x]) ++ post))), (52, .d (iv ((pre ++ [x]) ++ post).length)), (53, .d (iv (pre ++ [x]).length))]) (m' := [(15, grow 59 2 42 ((margL (pcs r who cur l) (pre ++ [x])).map wideC))]) ?_ ?_ ?_ ?_, pre ++ [x], post, by simp [hsp], rfl, rfl⟩
          · simp only [leV, look_cons, Nat.reduceBEq, cond_true, cond_false, pieces, len_map, List.append_assoc, List.singleton_append, wrap_len pre x (by have e := congrArg List.length hsp; simp only [List.length_append, List.length_cons, List.length_map] at e; omega)]
            refine ⟨?_, VLe.still rfl, VLe.still rfl, VLe.still rfl, trivial⟩
            rw [show (AV.ref 69 _ : AV) = .ref ((fun r => bif r == 15 then 69 else r) 15) ((pre ++ [x]).length + 1) from by simp]; exact VLe.ref_ (f := (fun r => bif r == 15 then 69 else r)) (r := 15) (by simp)
          · exact ⟨fun _ => ⟨_, rfl, RowLe.data_ (by simp [wideC, addOf, margL])⟩, fun h => by simp at h, trivial⟩
          · simp [wfV, AV.ids, lookR, grow]
          · exact ⟨wf_data _ _, trivial⟩
        · intro hb
          obtain rfl := none_of hb; clear hb
          obtain rfl : pre = pcs r who cur l := by simpa using hsp.symm
          clear hsp
          refine awp_exit ?_
          simp only [zz6, Nat.reduceEqDiff, ↓reduceIte]
          refine hK0 _ ?_; try clear hK0 K0
          refine awp_keepL [15] ?_
          simp only [zz20, zzI, look_nil, Nat.reduceBEq]
          refine awp_seq fun K0 hK0 => ?_
          refine awp_plain F_mixed [some 72, some 73, some 71, some 74, some 75, some 20, none, some 11] rfl ?_
          simp only [List.nil_append, List.cons_append, true_and, and_true, zz0, true_implies, Nat.reduceLT, Nat.reduceLeDiff, zzI, look_nil, Nat.reduceBEq, implies_true, evS_move, evS_call, evC_value, zz14, zzD, Nat.reduceAdd, Nat.zero_add, zzF, zz32, newRow1, F_zero59, zz16, Option.some.injEq, exists_eq_left', exists_eq_left, Option.map_some, eq_self, reduceCtorEq, and_self, zzB, zzE, zz10, zz18, F_ok59, F_sz59, splice, List.append_nil, zz1, zzG, evS_assign, wides, wideA, grow, hfit, zz6, Nat.reduceEqDiff, ↓reduceIte]
          refine call_go F_go20 (fun hG => wSum_ (margL (pcs r who cur l) (pcs r who cur l)) (by simp [margL]; omega) (fun y hy => by
    rcases List.mem_cons.1 (show y ∈ lossM (pcs r who cur l) :: (pcs r who cur l).map addOf from hy) with rfl | hy
    · omega
    · obtain ⟨x, hx, rfl⟩ := List.mem_map.1 hy; have := (hps x hx).add.2; omega)) (by simp [AV.ids, AV.idsL, wideA]) (by simp) ?_
          simp only [List.nil_append, List.cons_append, true_and, and_true, zz0, true_implies, Nat.reduceLT, Nat.reduceLeDiff, zzI, look_nil, Nat.reduceBEq, implies_true, evS_move, evS_call, evC_value, zz14, zzD, Nat.reduceAdd, Nat.zero_add, zzF, zz32, newRow1, F_zero59, zz16, Option.some.injEq, exists_eq_left', exists_eq_left, Option.map_some, eq_self, reduceCtorEq, and_self, zzB, zzE, zz10, zz18, F_ok59, F_sz59, splice, List.append_nil, zz1, zzG, evS_assign, wides, wideA, grow, hfit, zz6, Nat.reduceEqDiff, ↓reduceIte, atsL, oksG, freeN, AV.ren, AV.renL, addRows, ORow.row, Nat.reduceMul, Nat.reduceAdd, zz9, Option.bind_some, Option.map_some, forall_eq', D.sl.injEq, S_mem, Option.some.injEq, exists_eq_left', exists_eq_left, exists_eq', exists_eq, List.length_cons, zz2]
          refine ⟨by simp [margL], ?_⟩
          refine hK0 _ ?_; try clear hK0 K0
          refine awp_keepL [11, 20] ?_
          simp only [zz20, zzI, look_nil, Nat.reduceBEq]
          refine awp_seq fun K0 hK0 => ?_
          refine awp_seq fun K1 hK1 => ?_
          refine awp_plain F_mixed [some 76, some 77] rfl ?_
          simp only [List.nil_append, List.cons_append, true_and, and_true, zz0, true_implies, Nat.reduceLT, Nat.reduceLeDiff, zzI, look_nil, Nat.reduceBEq, implies_true, evS_move, zz21, gr_v, zz28, zz6, Nat.reduceEqDiff, ↓reduceIte]
          refine hK1 _ ?_; try clear hK1 K1
          refine awp_keepL [11, 20, 77] ?_
          simp only [zz20, zzI, look_nil, Nat.reduceBEq]
          refine awp_condS _ (by decide) (by simp only [look_cons, Nat.reduceBEq, cond_true, cond_false]; rfl) ?_ ?_
          · intro hb
            simp at hb
          · intro hb
            clear hb
            refine awp_skip ?_
            simp only [zz6, Nat.reduceEqDiff, ↓reduceIte]
            refine hK0 _ ?_; try clear hK0 K0
            refine awp_keepL [20] ?_
            simp only [zz20, zzI, look_nil, Nat.reduceBEq]
            refine awp_seq fun K0 hK0 => ?_
            refine awp_plain F_mixed [some 79, some 80, some 81, some 82, some 8, some 9] rfl ?_
            simp only [List.nil_append, List.cons_append, true_and, and_true, zz0, true_implies, Nat.reduceLT, Nat.reduceLeDiff, zzI, look_nil, Nat.reduceBEq, implies_true, F_ok59, F_ag59, F_sz59, zz8, zz23, zzD, Nat.reduceAdd, Nat.zero_add, zzF, zzB, zzE, zz16, Option.some.injEq, exists_eq_left', exists_eq_left, Option.map_some, eq_self, reduceCtorEq, and_self, evS_call, evC_value, zz14, evS_assign, wideC, wideA, zz6, Nat.reduceEqDiff, ↓reduceIte]
            refine call_go F_go21 (fun hG => wInt_ (margL (pcs r who cur l) (pcs r who cur l)).sum) (by simp [AV.ids, AV.idsL, wideC, wideA]) (by simp) ?_
            simp only [List.nil_append, List.cons_append, true_and, and_true, zz0, true_implies, Nat.reduceLT, Nat.reduceLeDiff, zzI, look_nil, Nat.reduceBEq, implies_true, F_ok59, F_ag59, F_sz59, zz8, zz23, zzD, Nat.reduceAdd, Nat.zero_add, zzF, zzB, zzE, zz16, Option.some.injEq, exists_eq_left', exists_eq_left, Option.map_some, eq_self, reduceCtorEq, and_self, evS_call, evC_value, zz14, evS_assign, wideC, wideA, zz6, Nat.reduceEqDiff, ↓reduceIte, atsL, oksG, freeN, AV.ren, AV.renL, addRows, ORow.row, Nat.reduceMul, Nat.reduceAdd, zz9, Option.bind_some, Option.map_some, forall_eq', D.sl.injEq, S_mem, Option.some.injEq, exists_eq_left', exists_eq_left, exists_eq', exists_eq, List.length_cons, zz2]
            refine hK0 _ ?_; try clear hK0 K0
            refine awp_keepL [8, 9] ?_
            simp only [zz20, zzI, look_nil, Nat.reduceBEq]
            refine awp_ret ?_
            simp only [zz6, Nat.reduceEqDiff, ↓reduceIte]
            refine done0 (by simp only [resCs, resC]; trivial) ?_ (by simp [flatA, flatAs, flatD]) (by simp [AV.ids, AV.idsL])
            simp only [List.map_cons, List.map_nil, resA, S_getD, Nat.reduceLT, Nat.reduceLeDiff, look_cons, Nat.reduceBEq, cond_true, cond_false, resAll]
            rw [margE_eq hLE, margV_eq hLE]; rfl
end Go.Proofs.Ytcpiojfhbebfiaa
