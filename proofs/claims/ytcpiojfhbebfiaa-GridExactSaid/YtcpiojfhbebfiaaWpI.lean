import Derived.Test.YtcpiojfhbebfiaaWpE
namespace Go.Proofs.Ytcpiojfhbebfiaa
open Go.RowKit
set_option linter.unusedVariables false
set_option linter.unusedSimpArgs false
theorem F_go22 : goFn Try.prog 22 := ⟨_, Try.func22, rfl, rfl⟩
theorem F_go23 : goFn Try.prog 23 := ⟨_, Try.func23, rfl, rfl⟩
theorem F_go24 : goFn Try.prog 24 := ⟨_, Try.func24, rfl, rfl⟩
theorem F_go25 : goFn Try.prog 25 := ⟨_, Try.func25, rfl, rfl⟩
theorem F_go26 : goFn Try.prog 26 := ⟨_, Try.func26, rfl, rfl⟩
theorem F_go27 : goFn Try.prog 27 := ⟨_, Try.func27, rfl, rfl⟩
set_option maxRecDepth 100000 in
set_option maxHeartbeats 4000000 in
theorem rLosses_ (r : RollV) (who cur : Int) (l : List PosV) (h : r.Small) (hl : l.length ≤ 500000) : ACalls Try.prog 12 [.agg (rollC r), iv who, iv cur, poss l] [] (.tp [lossA r who cur l, .d (iv (lossE r who cur l))]) := by
  refine acalls_S (rs := [.cell 8 31, .tmp 9]) Try.func12 rfl rfl 115 [(0, .d (.agg (rollC r))), (1, .d (iv who)), (2, .d (iv cur)), (3, .d (poss l))] rfl (by simp) rfl ?_
  refine awp_seq fun K0 hK0 => ?_
  refine awp_plain F_mixed [some 4, some 8, some 9] rfl ?_
  simp only [List.nil_append, List.cons_append, true_and, and_true, zz0, true_implies, Nat.reduceLT, Nat.reduceLeDiff, zzI, look_nil, Nat.reduceBEq, implies_true, zz35, newRow1, zz1, zzG, zzD, zz16, Option.some.injEq, exists_eq_left', exists_eq_left, Option.map_some, eq_self, reduceCtorEq, and_self, Nat.reduceAdd, Nat.zero_add, zzF, zzB, zzE, zz32, F_zero31, zz10, evS_assign, rollC, memsD, instsD, assetsD, zz6, Nat.reduceEqDiff, ↓reduceIte]
  refine hK0 _ ?_; try clear hK0 K0
  refine awp_keepL [1, 2, 3, 4, 8] ?_
  simp only [zz20, zzI, look_nil, Nat.reduceBEq]
  refine awp_seq fun K0 hK0 => ?_
  refine awp_plain F_mixed [some 10] rfl ?_
  simp only [List.nil_append, List.cons_append, true_and, and_true, zz0, true_implies, Nat.reduceLT, Nat.reduceLeDiff, zzI, look_nil, Nat.reduceBEq, implies_true, zz32, newRow1, F_zero31, zz16, Option.some.injEq, exists_eq_left', exists_eq_left, Option.map_some, eq_self, reduceCtorEq, and_self, zzD, Nat.reduceAdd, Nat.zero_add, zzF, zzB, zzE, zz10, zz6, Nat.reduceEqDiff, ↓reduceIte]
  refine hK0 _ ?_; try clear hK0 K0
  refine awp_keepL [1, 2, 3, 4, 8, 10] ?_
  simp only [zz20, zzI, look_nil, Nat.reduceBEq]
  refine awp_seq fun K0 hK0 => ?_
  refine awp_seq fun K1 hK1 => ?_
  refine awp_plain F_mixed [some 21, some 22, some 23] rfl ?_
  simp only [List.nil_append, List.cons_append, true_and, and_true, zz0, true_implies, Nat.reduceLT, Nat.reduceLeDiff, zzI, look_nil, Nat.reduceBEq, implies_true, F_ok26, F_ag26, F_sz26, zz8, zz23, zzD, Nat.reduceAdd, Nat.zero_add, zzF, zzB, zzE, zz16, Option.some.injEq, exists_eq_left', exists_eq_left, Option.map_some, eq_self, reduceCtorEq, and_self, evS_call, evC_value, zz29, gr_v, zz30, memsD, instsD, assetsD, rollC, D.agg.injEq, memA, memC, instA, instC, zzG, zz6, Nat.reduceEqDiff, ↓reduceIte]
  refine call_go F_go22 (fun hG => rRoll_ r h) (by simp [AV.ids, AV.idsL, instA, instC]) (by simp) ?_
  simp only [List.nil_append, List.cons_append, true_and, and_true, zz0, true_implies, Nat.reduceLT, Nat.reduceLeDiff, zzI, look_nil, Nat.reduceBEq, implies_true, F_ok26, F_ag26, F_sz26, zz8, zz23, zzD, Nat.reduceAdd, Nat.zero_add, zzF, zzB, zzE, zz16, Option.some.injEq, exists_eq_left', exists_eq_left, Option.map_some, eq_self, reduceCtorEq, and_self, evS_call, evC_value, zz29, gr_v, zz30, memsD, instsD, assetsD, rollC, D.agg.injEq, memA, memC, instA, instC, zzG, zz6, Nat.reduceEqDiff, ↓reduceIte, atsL, oksG, freeN, AV.ren, AV.renL, addRows, ORow.row, Nat.reduceMul, Nat.reduceAdd, zz9, Option.bind_some, Option.map_some, forall_eq', D.sl.injEq, S_mem, Option.some.injEq, exists_eq_left', exists_eq_left, exists_eq', exists_eq, List.length_cons, zz2]
  refine hK1 _ ?_; try clear hK1 K1
  refine awp_keepL [1, 2, 3, 4, 8, 10, 23] ?_
  simp only [zz20, zzI, look_nil, Nat.reduceBEq]
  refine awp_condS _ (by decide) (by simp only [look_cons, Nat.reduceBEq, cond_true, cond_false]; rfl) ?_ ?_
  · intro hb
    have hr : rollOk r = false := by simpa using hb
    clear hb
    refine awp_seq fun K2 hK2 => ?_
    refine awp_plain F_mixed [some 24, none, some 9] rfl ?_
    simp only [List.nil_append, List.cons_append, true_and, and_true, zz0, true_implies, Nat.reduceLT, Nat.reduceLeDiff, zzI, look_nil, Nat.reduceBEq, implies_true, F_ok31, F_ag31, F_sz31, zz8, zz23, zzD, Nat.reduceAdd, Nat.zero_add, zzF, zzB, zzE, zz16, Option.some.injEq, exists_eq_left', exists_eq_left, Option.map_some, eq_self, reduceCtorEq, and_self, zz18, splice, List.append_nil, zz1, zzG, evS_assign, zz6, Nat.reduceEqDiff, ↓reduceIte]
    refine hK2 _ ?_; try clear hK2 K2
    refine awp_keepL [8, 9] ?_
    simp only [zz20, zzI, look_nil, Nat.reduceBEq]
    refine awp_ret ?_
    simp only [zz6, Nat.reduceEqDiff, ↓reduceIte]
    refine done0 (by simp [resCs, resC, S, List.getD, look_cons, lookR, F_ag31, F_sz31, F_ok31]) ?_ (by simp [flatA, flatAs, flatD, lossA]) (by simp [AV.ids, AV.idsL, lossA])
    simp only [List.map_cons, List.map_nil, resA, S_getD, S_mem, lookR_cons, lookR_nil, Nat.reduceLT, Nat.reduceLeDiff, look_cons, Nat.reduceBEq, cond_true, cond_false, resAll, List.getD_cons_zero, List.getD_cons_succ, List.drop_zero, List.drop_succ_cons, List.take_succ_cons, List.take_zero, F_ag31, F_sz31, F_ok31]
    have e : lossE r who cur l = 14 := by simp [lossE, pcsE, hr]
    have v : ∀ j, lossV r who cur l j = 0 := fun j => by simp [lossV, e]
    simp only [lossA, v, e]
  · intro hb
    have hr : rollOk r = true := by simpa using hb
    clear hb
    refine awp_skip ?_
    simp only [zz6, Nat.reduceEqDiff, ↓reduceIte]
    refine hK0 _ ?_; try clear hK0 K0
    refine awp_keepL [1, 2, 3, 4, 8, 10] ?_
    simp only [zz20, zzI, look_nil, Nat.reduceBEq]
    refine awp_seq fun K0 hK0 => ?_
    refine awp_seq fun K1 hK1 => ?_
    refine awp_plain F_mixed [some 11] rfl ?_
    simp only [List.nil_append, List.cons_append, true_and, and_true, zz0, true_implies, Nat.reduceLT, Nat.reduceLeDiff, zzI, look_nil, Nat.reduceBEq, implies_true, evS_assign, zz6, Nat.reduceEqDiff, ↓reduceIte]
    refine hK1 _ ?_; try clear hK1 K1
    refine awp_keepL [1, 2, 3, 4, 8, 10, 11] ?_
    simp only [zz20, zzI, look_nil, Nat.reduceBEq]
    refine awp_block ?_
    refine awp_loop (fun m s => ∃ pre post : List PosV, l = pre ++ post ∧ pre.all pQok = true ∧ m = post.length ∧ s = S 115 [(1, .d (iv who)), (2, .d (iv cur)), (3, .d (poss l)), (4, .ptr 4 0 0), (8, .ptr 8 0 0), (10, .ptr 10 0 0), (11, .d (iv pre.length))] [(4, (⟨True, 26, 3, true, false, 4, [[.d (.sl 3 (r.mems.map memC)), .d (.sl 12 (r.insts.map instC)), .d (.sl 4 (r.assets.map assetC))]]⟩ : ARow)), (8, (⟨True, 31, 6, true, false, 8, [[.d (.v (.int .i64 0)), .d (.v (.int .i64 0)), .d (.v (.int .i64 0)), .d (.v (.int .i64 0)), .d (.v (.int .i64 0)), .d (.v (.int .i64 0))]]⟩ : ARow)), (10, (⟨True, 31, 6, true, false, 10, [[.d (.v (.int .i64 0)), .d (.v (.int .i64 0)), .d (.v (.int .i64 0)), .d (.v (.int .i64 0)), .d (.v (.int .i64 0)), .d (.v (.int .i64 0))]]⟩ : ARow))]) l.length _ (le_SK id [] rfl (l' := [(1, .d (iv who)), (2, .d (iv cur)), (3, .d (poss l)), (4, .ptr 4 0 0), (8, .ptr 8 0 0), (10, .ptr 10 0 0), (11, .d (iv ([] : List PosV).length))]) (m' := [(4, (⟨True, 26, 3, true, false, 4, [[.d (.sl 3 (r.mems.map memC)), .d (.sl 12 (r.insts.map instC)), .d (.sl 4 (r.assets.map assetC))]]⟩ : ARow)), (8, (⟨True, 31, 6, true, false, 8, [[.d (.v (.int .i64 0)), .d (.v (.int .i64 0)), .d (.v (.int .i64 0)), .d (.v (.int .i64 0)), .d (.v (.int .i64 0)), .d (.v (.int .i64 0))]]⟩ : ARow)), (10, (⟨True, 31, 6, true, false, 10, [[.d (.v (.int .i64 0)), .d (.v (.int .i64 0)), .d (.v (.int .i64 0)), .d (.v (.int .i64 0)), .d (.v (.int .i64 0)), .d (.v (.int .i64 0))]]⟩ : ARow))]) ?_ ?_ ?_ ?_) ⟨[], l, rfl, rfl, rfl, rfl⟩ ?_
    · simp only [leV, look_cons, Nat.reduceBEq, cond_true, cond_false, poss, len_map]; exact ⟨VLe.refl _, VLe.refl _, VLe.refl _, VLe.refl _, VLe.refl _, VLe.refl _, VLe.refl _, trivial⟩
    · exact ⟨fun _ => ⟨_, rfl, ⟨id, rfl, rfl, rfl, id, .inl, VLess.refl _⟩⟩, fun h => by simp at h, fun _ => ⟨_, rfl, ⟨id, rfl, rfl, rfl, id, .inl, VLess.refl _⟩⟩, fun h => by simp at h, fun _ => ⟨_, rfl, ⟨id, rfl, rfl, rfl, id, .inl, VLess.refl _⟩⟩, fun h => by simp at h, trivial⟩
    · simp [wfV, AV.ids, AV.idsL, lookR]
    · simp [wfR, AV.idsL, AV.ids]
    rintro m s ⟨pre, post, rfl, hp, rfl, rfl⟩
    refine awp_seq fun K2 hK2 => ?_
    refine awp_seq fun K3 hK3 => ?_
    refine awp_plain F_mixed [some 25, some 26, some 27, some 28] rfl ?_
    simp only [List.nil_append, List.cons_append, true_and, and_true, zz0, true_implies, Nat.reduceLT, Nat.reduceLeDiff, zzI, look_nil, Nat.reduceBEq, implies_true, evS_move, evS_call, zz12, F_sl27, Option.isSome_some, zz21, gr_v, zz22, poss, len_map, zz6, Nat.reduceEqDiff, ↓reduceIte]
    refine hK3 _ ?_; try clear hK3 K3
    refine awp_keepL [1, 2, 3, 4, 8, 10, 11, 28] ?_
    simp only [zz20, zzI, look_nil, Nat.reduceBEq]
    refine awp_condS _ (by decide) (by simp only [look_cons, Nat.reduceBEq, cond_true, cond_false]; rfl) ?_ ?_
    · intro hb
      obtain ⟨x, post, rfl⟩ := more_of hb; clear hb
      refine awp_skip ?_
      simp only [zz6, Nat.reduceEqDiff, ↓reduceIte]
      refine hK2 _ ?_; try clear hK2 K2
      refine awp_keepL [1, 2, 3, 4, 8, 10, 11] ?_
      simp only [zz20, zzI, look_nil, Nat.reduceBEq]
      refine awp_seq fun K2 hK2 => ?_
      refine awp_block ?_
      refine awp_seq fun K3 hK3 => ?_
      refine awp_plain F_mixed [some 31, some 32, some 33, some 34, some 35, some 36, some 37] rfl ?_
      simp only [List.nil_append, List.cons_append, true_and, and_true, zz0, true_implies, Nat.reduceLT, Nat.reduceLeDiff, zzI, look_nil, Nat.reduceBEq, implies_true, evS_move, evS_indexAddr, zz23, zz24, F_sl27, F_sz46, Option.map_some, zz16, Option.some.injEq, exists_eq_left', exists_eq_left, eq_self, reduceCtorEq, and_self, zz19, F_off46_1, zzB, Nat.zero_add, Nat.reduceAdd, F_ok3, F_ag3, F_sz3, zz8, zzD, zzF, zzE, evS_call, evC_value, zz29, gr_v, zz30, poss, posC, getD_mid, len_map, lt_mid, ge_mid, zz6, Nat.reduceEqDiff, ↓reduceIte]
      refine call_go F_go23 (fun hG => rIn15_ x.qty (-1099511627776) 1099511627776) (by simp [AV.ids, AV.idsL]) (by simp) ?_
      simp only [List.nil_append, List.cons_append, true_and, and_true, zz0, true_implies, Nat.reduceLT, Nat.reduceLeDiff, zzI, look_nil, Nat.reduceBEq, implies_true, evS_move, evS_indexAddr, zz23, zz24, F_sl27, F_sz46, Option.map_some, zz16, Option.some.injEq, exists_eq_left', exists_eq_left, eq_self, reduceCtorEq, and_self, zz19, F_off46_1, zzB, Nat.zero_add, Nat.reduceAdd, F_ok3, F_ag3, F_sz3, zz8, zzD, zzF, zzE, evS_call, evC_value, zz29, gr_v, zz30, poss, posC, getD_mid, len_map, lt_mid, ge_mid, zz6, Nat.reduceEqDiff, ↓reduceIte, atsL, oksG, freeN, AV.ren, AV.renL, addRows, ORow.row, Nat.reduceMul, Nat.reduceAdd, zz9, Option.bind_some, Option.map_some, forall_eq', D.sl.injEq, S_mem, Option.some.injEq, exists_eq_left', exists_eq_left, exists_eq', exists_eq, List.length_cons, zz2]
      refine hK3 _ ?_; try clear hK3 K3
      refine awp_keepL [1, 2, 3, 4, 8, 10, 11, 37] ?_
      simp only [zz20, zzI, look_nil, Nat.reduceBEq]
      refine awp_condS _ (by decide) (by simp only [look_cons, Nat.reduceBEq, cond_true, cond_false]; rfl) ?_ ?_
      · intro hb
        rw [pQok_in] at hb
        have hq : pQok x = false := by simpa using hb
        clear hb
        refine awp_seq fun K4 hK4 => ?_
        refine awp_plain F_mixed [some 38, none, some 9] rfl ?_
        simp only [List.nil_append, List.cons_append, true_and, and_true, zz0, true_implies, Nat.reduceLT, Nat.reduceLeDiff, zzI, look_nil, Nat.reduceBEq, implies_true, F_ok31, F_ag31, F_sz31, zz8, zz23, zzD, Nat.reduceAdd, Nat.zero_add, zzF, zzB, zzE, zz16, Option.some.injEq, exists_eq_left', exists_eq_left, Option.map_some, eq_self, reduceCtorEq, and_self, zz18, splice, List.append_nil, zz1, zzG, evS_assign, zz6, Nat.reduceEqDiff, ↓reduceIte]
        refine hK4 _ ?_; try clear hK4 K4
        refine awp_keepL [8, 9] ?_
        simp only [zz20, zzI, look_nil, Nat.reduceBEq]
        refine awp_ret ?_
        simp only [zz6, Nat.reduceEqDiff, ↓reduceIte]
        refine done0 (by simp [resCs, resC, S, List.getD, look_cons, lookR, F_ag31, F_sz31, F_ok31]) ?_ (by simp [flatA, flatAs, flatD, lossA]) (by simp [AV.ids, AV.idsL, lossA])
        simp only [List.map_cons, List.map_nil, resA, S_getD, S_mem, lookR_cons, lookR_nil, Nat.reduceLT, Nat.reduceLeDiff, look_cons, Nat.reduceBEq, cond_true, cond_false, resAll, List.getD_cons_zero, List.getD_cons_succ, List.drop_zero, List.drop_succ_cons, List.take_succ_cons, List.take_zero, F_ag31, F_sz31, F_ok31]
        have e : lossE r who cur (pre ++ x :: post) = 3 := by simp [lossE, pcsE, hr, hq]
        have v : ∀ j, lossV r who cur (pre ++ x :: post) j = 0 := fun j => by simp [lossV, e]
        simp only [lossA, v, e]
      · intro hb
        rw [pQok_in] at hb
        have hq : pQok x = true := by simpa using hb
        clear hb
        refine awp_skip ?_
        simp only [zz6, Nat.reduceEqDiff, ↓reduceIte]
        refine hK2 _ ?_; try clear hK2 K2
        refine awp_keepL [1, 2, 3, 4, 8, 10, 11] ?_
        simp only [zz20, zzI, look_nil, Nat.reduceBEq]
        refine awp_plain F_mixed [some 29, some 30, some 11] rfl ?_
        simp only [List.nil_append, List.cons_append, true_and, and_true, zz0, true_implies, Nat.reduceLT, Nat.reduceLeDiff, zzI, look_nil, Nat.reduceBEq, implies_true, evS_move, zz21, gr_v, zz26, evS_assign, zz6, Nat.reduceEqDiff, ↓reduceIte]
        refine ⟨post.length, _, by simp, le_SK id [] rfl (l' := [(1, .d (iv who)), (2, .d (iv cur)), (3, .d (poss (pre ++ x :: post))), (4, .ptr 4 0 0), (8, .ptr 8 0 0), (10, .ptr 10 0 0), (11, .d (iv (pre ++ [x]).length))]) (m' := [(4, (⟨True, 26, 3, true, false, 4, [[.d (.sl 3 (r.mems.map memC)), .d (.sl 12 (r.insts.map instC)), .d (.sl 4 (r.assets.map assetC))]]⟩ : ARow)), (8, (⟨True, 31, 6, true, false, 8, [[.d (.v (.int .i64 0)), .d (.v (.int .i64 0)), .d (.v (.int .i64 0)), .d (.v (.int .i64 0)), .d (.v (.int .i64 0)), .d (.v (.int .i64 0))]]⟩ : ARow)), (10, (⟨True, 31, 6, true, false, 10, [[.d (.v (.int .i64 0)), .d (.v (.int .i64 0)), .d (.v (.int .i64 0)), .d (.v (.int .i64 0)), .d (.v (.int .i64 0)), .d (.v (.int .i64 0))]]⟩ : ARow))]) ?_ ?_ ?_ ?_, pre ++ [x], post, by simp, by simp [hp, hq], rfl, rfl⟩
        · simp only [leV, look_cons, Nat.reduceBEq, cond_true, cond_false, poss, len_map, wrap_len pre x (by simp at hl; omega)]; exact ⟨VLe.refl _, VLe.refl _, VLe.refl _, VLe.refl _, VLe.refl _, VLe.refl _, VLe.refl _, trivial⟩
        · exact ⟨fun _ => ⟨_, rfl, ⟨id, rfl, rfl, rfl, id, .inl, VLess.refl _⟩⟩, fun h => by simp at h, fun _ => ⟨_, rfl, ⟨id, rfl, rfl, rfl, id, .inl, VLess.refl _⟩⟩, fun h => by simp at h, fun _ => ⟨_, rfl, ⟨id, rfl, rfl, rfl, id, .inl, VLess.refl _⟩⟩, fun h => by simp at h, trivial⟩
        · simp [wfV, AV.ids, AV.idsL, lookR]
        · simp [wfR, AV.idsL, AV.ids]
    · intro hb
      obtain rfl := none_of hb; clear hb
      simp only [List.append_nil] at hl ⊢
      obtain ⟨l, el⟩ : ∃ x, x = pre := ⟨_, rfl⟩
      subst el
      have hE : pcsE r l = 0 := by simp [pcsE, hr, hp]
      have hps : ∀ x ∈ pcs r who cur l, PieceOk x := pcs_ok hE
      have hpl : (pcs r who cur l).length ≤ 500000 := Nat.le_trans (pcs_len r who cur l) hl
      have hfit : ∀ j, fitsW (List.map (fun x => lossOf x j) (pcs r who cur l)).sum = true := fun j => lossT_fits hps (by omega) j
      refine awp_exit ?_
      simp only [zz6, Nat.reduceEqDiff, ↓reduceIte]
      refine hK0 _ ?_; try clear hK0 K0
      refine awp_keepL [1, 2, 3, 4, 8, 10] ?_
      simp only [zz20, zzI, look_nil, Nat.reduceBEq]
      refine awp_seq fun K0 hK0 => ?_
      refine awp_seq fun K1 hK1 => ?_
      refine awp_plain F_mixed [some 12] rfl ?_
      simp only [List.nil_append, List.cons_append, true_and, and_true, zz0, true_implies, Nat.reduceLT, Nat.reduceLeDiff, zzI, look_nil, Nat.reduceBEq, implies_true, evS_assign, zz6, Nat.reduceEqDiff, ↓reduceIte]
      refine hK1 _ ?_; try clear hK1 K1
      refine awp_keepL [1, 2, 3, 4, 8, 10, 12] ?_
      simp only [zz20, zzI, look_nil, Nat.reduceBEq]
      refine awp_block ?_
      refine awp_loop (fun m s => (m = 6 ∧ s = S 115 [(1, .d (iv who)), (2, .d (iv cur)), (3, .d (poss l)), (4, .ptr 4 0 0), (8, .ptr 8 0 0), (10, .ptr 10 0 0), (12, .d (iv 0))] [(4, (⟨True, 26, 3, true, false, 4, [[.d (.sl 3 (r.mems.map memC)), .d (.sl 12 (r.insts.map instC)), .d (.sl 4 (r.assets.map assetC))]]⟩ : ARow)), (8, (⟨True, 31, 6, true, false, 8, [[.d (.v (.int .i64 0)), .d (.v (.int .i64 0)), .d (.v (.int .i64 0)), .d (.v (.int .i64 0)), .d (.v (.int .i64 0)), .d (.v (.int .i64 0))]]⟩ : ARow)), (10, (⟨True, 31, 6, true, false, 10, [[.d (.v (.int .i64 0)), .d (.v (.int .i64 0)), .d (.v (.int .i64 0)), .d (.v (.int .i64 0)), .d (.v (.int .i64 0)), .d (.v (.int .i64 0))]]⟩ : ARow))]) ∨ (m = 5 ∧ rightN (lossT (pcs r who cur l) 0) = true ∧ s = S 115 [(1, .d (iv who)), (2, .d (iv cur)), (3, .d (poss l)), (4, .ptr 4 0 0), (8, .ptr 8 0 0), (10, .ptr 10 0 0), (12, .d (iv 1))] [(4, (⟨True, 26, 3, true, false, 4, [[.d (.sl 3 (r.mems.map memC)), .d (.sl 12 (r.insts.map instC)), .d (.sl 4 (r.assets.map assetC))]]⟩ : ARow)), (8, (⟨True, 31, 6, true, false, 8, [[.d (.v (.int .i64 0)), .d (.v (.int .i64 0)), .d (.v (.int .i64 0)), .d (.v (.int .i64 0)), .d (.v (.int .i64 0)), .d (.v (.int .i64 0))]]⟩ : ARow)), (10, (⟨True, 31, 6, true, false, 10, [[.d (iv (lossT (pcs r who cur l) 0)), .d (.v (.int .i64 0)), .d (.v (.int .i64 0)), .d (.v (.int .i64 0)), .d (.v (.int .i64 0)), .d (.v (.int .i64 0))]]⟩ : ARow))]) ∨ (m = 4 ∧ rightN (lossT (pcs r who cur l) 0) = true ∧ rightN (lossT (pcs r who cur l) 1) = true ∧ s = S 115 [(1, .d (iv who)), (2, .d (iv cur)), (3, .d (poss l)), (4, .ptr 4 0 0), (8, .ptr 8 0 0), (10, .ptr 10 0 0), (12, .d (iv 2))] [(4, (⟨True, 26, 3, true, false, 4, [[.d (.sl 3 (r.mems.map memC)), .d (.sl 12 (r.insts.map instC)), .d (.sl 4 (r.assets.map assetC))]]⟩ : ARow)), (8, (⟨True, 31, 6, true, false, 8, [[.d (.v (.int .i64 0)), .d (.v (.int .i64 0)), .d (.v (.int .i64 0)), .d (.v (.int .i64 0)), .d (.v (.int .i64 0)), .d (.v (.int .i64 0))]]⟩ : ARow)), (10, (⟨True, 31, 6, true, false, 10, [[.d (iv (lossT (pcs r who cur l) 0)), .d (iv (lossT (pcs r who cur l) 1)), .d (.v (.int .i64 0)), .d (.v (.int .i64 0)), .d (.v (.int .i64 0)), .d (.v (.int .i64 0))]]⟩ : ARow))]) ∨ (m = 3 ∧ rightN (lossT (pcs r who cur l) 0) = true ∧ rightN (lossT (pcs r who cur l) 1) = true ∧ rightN (lossT (pcs r who cur l) 2) = true ∧ s = S 115 [(1, .d (iv who)), (2, .d (iv cur)), (3, .d (poss l)), (4, .ptr 4 0 0), (8, .ptr 8 0 0), (10, .ptr 10 0 0), (12, .d (iv 3))] [(4, (⟨True, 26, 3, true, false, 4, [[.d (.sl 3 (r.mems.map memC)), .d (.sl 12 (r.insts.map instC)), .d (.sl 4 (r.assets.map assetC))]]⟩ : ARow)), (8, (⟨True, 31, 6, true, false, 8, [[.d (.v (.int .i64 0)), .d (.v (.int .i64 0)), .d (.v (.int .i64 0)), .d (.v (.int .i64 0)), .d (.v (.int .i64 0)), .d (.v (.int .i64 0))]]⟩ : ARow)), (10, (⟨True, 31, 6, true, false, 10, [[.d (iv (lossT (pcs r who cur l) 0)), .d (iv (lossT (pcs r who cur l) 1)), .d (iv (lossT (pcs r who cur l) 2)), .d (.v (.int .i64 0)), .d (.v (.int .i64 0)), .d (.v (.int .i64 0))]]⟩ : ARow))]) ∨ (m = 2 ∧ rightN (lossT (pcs r who cur l) 0) = true ∧ rightN (lossT (pcs r who cur l) 1) = true ∧ rightN (lossT (pcs r who cur l) 2) = true ∧ rightN (lossT (pcs r who cur l) 3) = true ∧ s = S 115 [(1, .d (iv who)), (2, .d (iv cur)), (3, .d (poss l)), (4, .ptr 4 0 0), (8, .ptr 8 0 0), (10, .ptr 10 0 0), (12, .d (iv 4))] [(4, (⟨True, 26, 3, true, false, 4, [[.d (.sl 3 (r.mems.map memC)), .d (.sl 12 (r.insts.map instC)), .d (.sl 4 (r.assets.map assetC))]]⟩ : ARow)), (8, (⟨True, 31, 6, true, false, 8, [[.d (.v (.int .i64 0)), .d (.v (.int .i64 0)), .d (.v (.int .i64 0)), .d (.v (.int .i64 0)), .d (.v (.int .i64 0)), .d (.v (.int .i64 0))]]⟩ : ARow)), (10, (⟨True, 31, 6, true, false, 10, [[.d (iv (lossT (pcs r who cur l) 0)), .d (iv (lossT (pcs r who cur l) 1)), .d (iv (lossT (pcs r who cur l) 2)), .d (iv (lossT (pcs r who cur l) 3)), .d (.v (.int .i64 0)), .d (.v (.int .i64 0))]]⟩ : ARow))]) ∨ (m = 1 ∧ rightN (lossT (pcs r who cur l) 0) = true ∧ rightN (lossT (pcs r who cur l) 1) = true ∧ rightN (lossT (pcs r who cur l) 2) = true ∧ rightN (lossT (pcs r who cur l) 3) = true ∧ rightN (lossT (pcs r who cur l) 4) = true ∧ s = S 115 [(1, .d (iv who)), (2, .d (iv cur)), (3, .d (poss l)), (4, .ptr 4 0 0), (8, .ptr 8 0 0), (10, .ptr 10 0 0), (12, .d (iv 5))] [(4, (⟨True, 26, 3, true, false, 4, [[.d (.sl 3 (r.mems.map memC)), .d (.sl 12 (r.insts.map instC)), .d (.sl 4 (r.assets.map assetC))]]⟩ : ARow)), (8, (⟨True, 31, 6, true, false, 8, [[.d (.v (.int .i64 0)), .d (.v (.int .i64 0)), .d (.v (.int .i64 0)), .d (.v (.int .i64 0)), .d (.v (.int .i64 0)), .d (.v (.int .i64 0))]]⟩ : ARow)), (10, (⟨True, 31, 6, true, false, 10, [[.d (iv (lossT (pcs r who cur l) 0)), .d (iv (lossT (pcs r who cur l) 1)), .d (iv (lossT (pcs r who cur l) 2)), .d (iv (lossT (pcs r who cur l) 3)), .d (iv (lossT (pcs r who cur l) 4)), .d (.v (.int .i64 0))]]⟩ : ARow))]) ∨ (m = 0 ∧ rightN (lossT (pcs r who cur l) 0) = true ∧ rightN (lossT (pcs r who cur l) 1) = true ∧ rightN (lossT (pcs r who cur l) 2) = true ∧ rightN (lossT (pcs r who cur l) 3) = true ∧ rightN (lossT (pcs r who cur l) 4) = true ∧ rightN (lossT (pcs r who cur l) 5) = true ∧ s = S 115 [(1, .d (iv who)), (2, .d (iv cur)), (3, .d (poss l)), (4, .ptr 4 0 0), (8, .ptr 8 0 0), (10, .ptr 10 0 0), (12, .d (iv 6))] [(4, (⟨True, 26, 3, true, false, 4, [[.d (.sl 3 (r.mems.map memC)), .d (.sl 12 (r.insts.map instC)), .d (.sl 4 (r.assets.map assetC))]]⟩ : ARow)), (8, (⟨True, 31, 6, true, false, 8, [[.d (.v (.int .i64 0)), .d (.v (.int .i64 0)), .d (.v (.int .i64 0)), .d (.v (.int .i64 0)), .d (.v (.int .i64 0)), .d (.v (.int .i64 0))]]⟩ : ARow)), (10, (⟨True, 31, 6, true, false, 10, [[.d (iv (lossT (pcs r who cur l) 0)), .d (iv (lossT (pcs r who cur l) 1)), .d (iv (lossT (pcs r who cur l) 2)), .d (iv (lossT (pcs r who cur l) 3)), .d (iv (lossT (pcs r who cur l) 4)), .d (iv (lossT (pcs r who cur l) 5))]]⟩ : ARow))])) 6 _ (le_SK id [] rfl (l' := [(1, .d (iv who)), (2, .d (iv cur)), (3, .d (poss l)), (4, .ptr 4 0 0), (8, .ptr 8 0 0), (10, .ptr 10 0 0), (12, .d (iv 0))]) (m' := [(4, (⟨True, 26, 3, true, false, 4, [[.d (.sl 3 (r.mems.map memC)), .d (.sl 12 (r.insts.map instC)), .d (.sl 4 (r.assets.map assetC))]]⟩ : ARow)), (8, (⟨True, 31, 6, true, false, 8, [[.d (.v (.int .i64 0)), .d (.v (.int .i64 0)), .d (.v (.int .i64 0)), .d (.v (.int .i64 0)), .d (.v (.int .i64 0)), .d (.v (.int .i64 0))]]⟩ : ARow)), (10, (⟨True, 31, 6, true, false, 10, [[.d (.v (.int .i64 0)), .d (.v (.int .i64 0)), .d (.v (.int .i64 0)), .d (.v (.int .i64 0)), .d (.v (.int .i64 0)), .d (.v (.int .i64 0))]]⟩ : ARow))]) ?_ ?_ ?_ ?_) (.inl (⟨rfl, rfl⟩)) ?_
      · simp only [leV, look_cons, Nat.reduceBEq, cond_true, cond_false]; exact ⟨VLe.refl _, VLe.refl _, VLe.refl _, VLe.refl _, VLe.refl _, VLe.refl _, VLe.refl _, trivial⟩
      · exact ⟨fun _ => ⟨_, rfl, ⟨id, rfl, rfl, rfl, id, .inl, VLess.refl _⟩⟩, fun h => by simp at h, fun _ => ⟨_, rfl, ⟨id, rfl, rfl, rfl, id, .inl, VLess.refl _⟩⟩, fun h => by simp at h, fun _ => ⟨_, rfl, ⟨id, rfl, rfl, rfl, id, .inl, VLess.refl _⟩⟩, fun h => by simp at h, trivial⟩
      · simp [wfV, AV.ids, AV.idsL, lookR]
      · simp [wfR, AV.idsL, AV.ids]
      rintro m s (⟨rfl, rfl⟩ | ⟨rfl, h0, rfl⟩ | ⟨rfl, h0, h1, rfl⟩ | ⟨rfl, h0, h1, h2, rfl⟩ | ⟨rfl, h0, h1, h2, h3, rfl⟩ | ⟨rfl, h0, h1, h2, h3, h4, rfl⟩ | ⟨rfl, h0, h1, h2, h3, h4, h5, rfl⟩)
      · skip
        refine awp_seq fun K2 hK2 => ?_
        refine awp_seq fun K3 hK3 => ?_
        refine awp_plain F_mixed [some 39, some 40] rfl ?_
        simp only [List.nil_append, List.cons_append, true_and, and_true, zz0, true_implies, Nat.reduceLT, Nat.reduceLeDiff, zzI, look_nil, Nat.reduceBEq, implies_true, evS_move, zz21, gr_v, zz22, zz6, Nat.reduceEqDiff, ↓reduceIte]
        refine hK3 _ ?_; try clear hK3 K3
        refine awp_keepL [1, 2, 3, 4, 8, 10, 12, 40] ?_
        simp only [zz20, zzI, look_nil, Nat.reduceBEq]
        refine awp_condS _ (by decide) (by simp only [look_cons, Nat.reduceBEq, cond_true, cond_false]; rfl) ?_ ?_
        · intro hb
          clear hb
          refine awp_skip ?_
          simp only [zz6, Nat.reduceEqDiff, ↓reduceIte]
          refine hK2 _ ?_; try clear hK2 K2
          refine awp_keepL [1, 2, 3, 4, 8, 10, 12] ?_
          simp only [zz20, zzI, look_nil, Nat.reduceBEq]
          refine awp_seq fun K2 hK2 => ?_
          refine awp_block ?_
          refine awp_seq fun K3 hK3 => ?_
          refine awp_plain F_mixed [some 13] rfl ?_
          simp only [List.nil_append, List.cons_append, true_and, and_true, zz0, true_implies, Nat.reduceLT, Nat.reduceLeDiff, zzI, look_nil, Nat.reduceBEq, implies_true, evS_assign, zz6, Nat.reduceEqDiff, ↓reduceIte]
          refine hK3 _ ?_; try clear hK3 K3
          refine awp_keepL [1, 2, 3, 4, 8, 10, 12, 13] ?_
          simp only [zz20, zzI, look_nil, Nat.reduceBEq]
          refine awp_seq fun K3 hK3 => ?_
          refine awp_seq fun K4 hK4 => ?_
          refine awp_plain F_mixed [some 14] rfl ?_
          simp only [List.nil_append, List.cons_append, true_and, and_true, zz0, true_implies, Nat.reduceLT, Nat.reduceLeDiff, zzI, look_nil, Nat.reduceBEq, implies_true, evS_assign, zz6, Nat.reduceEqDiff, ↓reduceIte]
          refine hK4 _ ?_; try clear hK4 K4
          refine awp_keepL [1, 2, 3, 4, 8, 10, 12, 13, 14] ?_
          simp only [zz20, zzI, look_nil, Nat.reduceBEq]
          refine awp_block ?_
          refine awp_loop (fun m s => ∃ pre post : List PosV, l = pre ++ post ∧ m = post.length ∧ s = S 115 [(1, .d (iv who)), (2, .d (iv cur)), (3, .d (poss (pre ++ post))), (4, .ptr 4 0 0), (8, .ptr 8 0 0), (10, .ptr 10 0 0), (12, .d (iv 0)), (13, .ref 13 (pcs r who cur pre).length), (14, .d (iv pre.length))] [(4, (⟨True, 26, 3, true, false, 4, [[.d (.sl 3 (r.mems.map memC)), .d (.sl 12 (r.insts.map instC)), .d (.sl 4 (r.assets.map assetC))]]⟩ : ARow)), (8, (⟨True, 31, 6, true, false, 8, [[.d (.v (.int .i64 0)), .d (.v (.int .i64 0)), .d (.v (.int .i64 0)), .d (.v (.int .i64 0)), .d (.v (.int .i64 0)), .d (.v (.int .i64 0))]]⟩ : ARow)), (10, (⟨True, 31, 6, true, false, 10, [[.d (.v (.int .i64 0)), .d (.v (.int .i64 0)), .d (.v (.int .i64 0)), .d (.v (.int .i64 0)), .d (.v (.int .i64 0)), .d (.v (.int .i64 0))]]⟩ : ARow)), (13, grow 59 2 13 (((pcs r who cur pre).map (lossOf · 0)).map wideC))]) l.length _ (le_SK id [13] rfl (l' := [(1, .d (iv who)), (2, .d (iv cur)), (3, .d (poss (([] : List PosV) ++ l))), (4, .ptr 4 0 0), (8, .ptr 8 0 0), (10, .ptr 10 0 0), (12, .d (iv 0)), (13, .ref 13 (pcs r who cur ([] : List PosV)).length), (14, .d (iv ([] : List PosV).length))]) (m' := [(4, (⟨True, 26, 3, true, false, 4, [[.d (.sl 3 (r.mems.map memC)), .d (.sl 12 (r.insts.map instC)), .d (.sl 4 (r.assets.map assetC))]]⟩ : ARow)), (8, (⟨True, 31, 6, true, false, 8, [[.d (.v (.int .i64 0)), .d (.v (.int .i64 0)), .d (.v (.int .i64 0)), .d (.v (.int .i64 0)), .d (.v (.int .i64 0)), .d (.v (.int .i64 0))]]⟩ : ARow)), (10, (⟨True, 31, 6, true, false, 10, [[.d (.v (.int .i64 0)), .d (.v (.int .i64 0)), .d (.v (.int .i64 0)), .d (.v (.int .i64 0)), .d (.v (.int .i64 0)), .d (.v (.int .i64 0))]]⟩ : ARow)), (13, grow 59 2 13 (((pcs r who cur ([] : List PosV)).map (lossOf · 0)).map wideC))]) ?_ ?_ ?_ ?_) ⟨[], l, rfl, rfl, rfl⟩ ?_
          · simp only [leV, look_cons, Nat.reduceBEq, cond_true, cond_false, List.nil_append]; exact ⟨VLe.still rfl, VLe.still rfl, VLe.still rfl, VLe.ptr_ (f := id) (r := 4) (by simp), VLe.ptr_ (f := id) (r := 8) (by simp), VLe.ptr_ (f := id) (r := 10) (by simp), VLe.still rfl, VLe.nil_ (by decide), VLe.still rfl, trivial⟩
          · exact ⟨fun _ => ⟨_, rfl, RowLe.still (by simp [AV.idsL, AV.ids])⟩, fun h => by simp at h, fun _ => ⟨_, rfl, RowLe.still (by simp [AV.idsL, AV.ids])⟩, fun h => by simp at h, fun _ => ⟨_, rfl, RowLe.still (by simp [AV.idsL, AV.ids])⟩, fun h => by simp at h, fun h => by simp at h, fun _ => rfl, trivial⟩
          · simp [wfV, AV.ids, lookR]
          · simp [wfR, grow, pcs, AV.idsL, AV.ids]
          rintro m s ⟨pre, post, hsp, rfl, rfl⟩
          have hppl := pcs_len r who cur pre
          refine awp_seq fun K5 hK5 => ?_
          refine awp_seq fun K6 hK6 => ?_
          refine awp_plain F_mixed [some 43, some 44, some 45, some 46] rfl ?_
          simp only [List.nil_append, List.cons_append, true_and, and_true, zz0, true_implies, Nat.reduceLT, Nat.reduceLeDiff, zzI, look_nil, Nat.reduceBEq, implies_true, evS_move, evS_call, zz12, F_sl27, Option.isSome_some, zz21, gr_v, zz22, poss, len_map, zz6, Nat.reduceEqDiff, ↓reduceIte]
          refine hK6 _ ?_; try clear hK6 K6
          refine awp_keepL [1, 2, 3, 4, 8, 10, 12, 13, 14, 46] ?_
          simp only [zz20, zzI, look_nil, Nat.reduceBEq]
          refine awp_condS _ (by decide) (by simp only [look_cons, Nat.reduceBEq, cond_true, cond_false]; rfl) ?_ ?_
          · intro hb
            obtain ⟨x, post, rfl⟩ := more_of hb; clear hb
            refine awp_skip ?_
            simp only [zz6, Nat.reduceEqDiff, ↓reduceIte]
            refine hK5 _ ?_; try clear hK5 K5
            refine awp_keepL [1, 2, 3, 4, 8, 10, 12, 13, 14] ?_
            simp only [zz20, zzI, look_nil, Nat.reduceBEq]
            refine awp_seq fun K5 hK5 => ?_
            refine awp_block ?_
            refine awp_seq fun K6 hK6 => ?_
            refine awp_draw F_mixed [some 50, some 51, some 52, some 53, some 54, some 55, some 56, some 57, some 49, some 58, some 59, some 15, none, some 16] rfl (by kernel_rfl) ?_
            simp only [List.nil_append, List.cons_append, true_and, and_true, zz0, true_implies, Nat.reduceLT, Nat.reduceLeDiff, zzI, look_nil, Nat.reduceBEq, implies_true, F_ok26, F_ag26, F_sz26, zz8, zz23, zzD, Nat.reduceAdd, Nat.zero_add, zzF, zzB, zzE, zz16, Option.some.injEq, exists_eq_left', exists_eq_left, Option.map_some, eq_self, reduceCtorEq, and_self, evS_move, evS_indexAddr, zz24, F_sl27, F_sz46, zz19, F_off46_0, F_off44_1, F_ok3, F_ag3, F_sz3, evS_call, evC_value, zz14, zz32, newRow1, F_zero49, zz10, zz18, F_ok49, F_sz49, splice, List.append_nil, zz1, zzG, evS_assign, poss, posC, getD_mid, len_map, lt_mid, ge_mid, memsD, instsD, assetsD, rollC, D.agg.injEq, memA, memC, instA, instC, List.map_cons, zz6, Nat.reduceEqDiff, ↓reduceIte]
            refine call_go F_go24 (fun hG => rInst_ r.mems r.insts r.assets x.inst h.insts) (by simp [AV.ids, AV.idsL, instA, instC]) (by simp) ?_
            simp only [List.nil_append, List.cons_append, true_and, and_true, zz0, true_implies, Nat.reduceLT, Nat.reduceLeDiff, zzI, look_nil, Nat.reduceBEq, implies_true, F_ok26, F_ag26, F_sz26, zz8, zz23, zzD, Nat.reduceAdd, Nat.zero_add, zzF, zzB, zzE, zz16, Option.some.injEq, exists_eq_left', exists_eq_left, Option.map_some, eq_self, reduceCtorEq, and_self, evS_move, evS_indexAddr, zz24, F_sl27, F_sz46, zz19, F_off46_0, F_off44_1, F_ok3, F_ag3, F_sz3, evS_call, evC_value, zz14, zz32, newRow1, F_zero49, zz10, zz18, F_ok49, F_sz49, splice, List.append_nil, zz1, zzG, evS_assign, poss, posC, getD_mid, len_map, lt_mid, ge_mid, memsD, instsD, assetsD, rollC, D.agg.injEq, memA, memC, instA, instC, List.map_cons, zz6, Nat.reduceEqDiff, ↓reduceIte, atsL, oksG, freeN, AV.ren, AV.renL, addRows, ORow.row, Nat.reduceMul, Nat.reduceAdd, zz9, Option.bind_some, Option.map_some, forall_eq', D.sl.injEq, S_mem, Option.some.injEq, exists_eq_left', exists_eq_left, exists_eq', exists_eq, List.length_cons, zz2]
            refine hK6 _ ?_; try clear hK6 K6
            refine awp_keepL [1, 2, 3, 4, 8, 10, 12, 13, 14, 15, 16] ?_
            simp only [zz20, zzI, look_nil, Nat.reduceBEq]
            refine awp_seq fun K6 hK6 => ?_
            refine awp_plain F_mixed [some 60, some 61, some 62, some 63, some 64, some 65, some 66, some 67, some 68, some 69, some 70, some 71, some 72, some 73, some 74, some 75, some 76] rfl ?_
            simp only [List.nil_append, List.cons_append, true_and, and_true, zz0, true_implies, Nat.reduceLT, Nat.reduceLeDiff, zzI, look_nil, Nat.reduceBEq, implies_true, Nat.reduceSub, S_getD, zz5, and_imp, imp_and, imp_self, and_self, evS_move, evS_indexAddr, zz23, zz24, F_sl27, F_sz46, Option.map_some, zz16, Option.some.injEq, exists_eq_left', exists_eq_left, eq_self, reduceCtorEq, zz19, F_off46_0, zzB, Nat.zero_add, Nat.reduceAdd, F_off44_0, F_ok3, F_ag3, F_sz3, zz8, zzD, zzF, zzE, zz21, gr_v, zz34, zz13, F_off49_1, poss, posC, getD_mid, len_map, lt_mid, ge_mid, zz6, Nat.reduceEqDiff, ↓reduceIte]
            refine hK6 _ ?_; try clear hK6 K6
            refine awp_keepL [1, 2, 3, 4, 8, 10, 12, 13, 14, 15, 76] ?_
            simp only [zz20, zzI, look_nil, Nat.reduceBEq]
            refine awp_condS _ (by decide) (by simp only [look_cons, Nat.reduceBEq, cond_true, cond_false]; rfl) ?_ ?_
            · intro hb
              have hs : pSel r who cur x = true := hb
              clear hb
              have hx : PieceOk (pPiece r x) := pPiece_ok hr (List.all_eq_true.1 hp x (by rw [hsp]; simp)) hs
              have hb := hx.loss 0
              have hsj := hx.s 0
              have q0 := hx.q0; have q1 := hx.q1; have m0 := hx.m0; have m1 := hx.m1
              simp only [shN, pPiece] at hsj q0 q1 m0 m1 hb
              have hw : IntKind.wrap .i64 (0 - x.qty) = -x.qty := by rw [wrapI (n := 0 - x.qty) (by omega) (by omega)]; omega
              have hm2 := abs_mul (a := (findX InstV.no x.inst zInst r.insts).mult) (b := (findX InstV.no x.inst zInst r.insts).s0) (x := 1024) (y := 1073741824) (by omega) (by omega)
              have hw2 : IntKind.wrap .i64 ((findX InstV.no x.inst zInst r.insts).mult * (findX InstV.no x.inst zInst r.insts).s0) = (findX InstV.no x.inst zInst r.insts).mult * (findX InstV.no x.inst zInst r.insts).s0 := wrapI (by omega) (by omega)
              refine awp_draw F_mixed [some 77, some 78, some 79, some 80, some 81, some 82, some 83, some 84, some 85, some 86, some 87, some 88, some 89, some 90, some 91, some 92, some 93, some 13] rfl (by kernel_rfl) ?_
              simp only [List.nil_append, List.cons_append, true_and, and_true, zz0, true_implies, Nat.reduceLT, Nat.reduceLeDiff, zzI, look_nil, Nat.reduceBEq, implies_true, evS_move, evS_indexAddr, zz23, zz24, F_sl27, F_sz46, Option.map_some, zz16, Option.some.injEq, exists_eq_left', exists_eq_left, eq_self, reduceCtorEq, and_self, zz19, F_off46_1, zzB, Nat.zero_add, Nat.reduceAdd, F_ok3, F_ag3, F_sz3, zz8, zzD, zzF, zzE, zz29, gr_v, zz37, F_off49_2, F_off49_6, zz15, F_arr31, zz21, zz36, evS_call, evC_value, F_sl54, F_zero59, F_sz59, zz3, newRow1, zz1, zzG, maxLen_le, Nat.reduceMul, F_by59, zz4, zz9, Option.bind_some, evS_assign, poss, posC, getD_mid, len_map, lt_mid, ge_mid, hw, hw2, wideA, grow, D.agg.injEq, unDs_map, Int.reduceToNat, Int.reduceLT, Int.reduceLE, cast6, Nat.reduceMul, zz6, Nat.reduceEqDiff, ↓reduceIte]
              refine call_go F_go25 (fun hG => rTimes_ (-x.qty) ((findX InstV.no x.inst zInst r.insts).mult * (findX InstV.no x.inst zInst r.insts).s0) (by omega) (by omega) (by omega) (by omega)) (by simp [AV.ids, AV.idsL, wideA]) (by simp) ?_
              simp only [List.nil_append, List.cons_append, true_and, and_true, zz0, true_implies, Nat.reduceLT, Nat.reduceLeDiff, zzI, look_nil, Nat.reduceBEq, implies_true, evS_move, evS_indexAddr, zz23, zz24, F_sl27, F_sz46, Option.map_some, zz16, Option.some.injEq, exists_eq_left', exists_eq_left, eq_self, reduceCtorEq, and_self, zz19, F_off46_1, zzB, Nat.zero_add, Nat.reduceAdd, F_ok3, F_ag3, F_sz3, zz8, zzD, zzF, zzE, zz29, gr_v, zz37, F_off49_2, F_off49_6, zz15, F_arr31, zz21, zz36, evS_call, evC_value, F_sl54, F_zero59, F_sz59, zz3, newRow1, zz1, zzG, maxLen_le, Nat.reduceMul, F_by59, zz4, zz9, Option.bind_some, evS_assign, poss, posC, getD_mid, len_map, lt_mid, ge_mid, hw, hw2, wideA, grow, D.agg.injEq, unDs_map, Int.reduceToNat, Int.reduceLT, Int.reduceLE, cast6, Nat.reduceMul, zz6, Nat.reduceEqDiff, ↓reduceIte, atsL, oksG, freeN, AV.ren, AV.renL, addRows, ORow.row, Nat.reduceMul, Nat.reduceAdd, unDs_cons, Option.bind_some, Option.map_some, forall_eq', D.sl.injEq, S_mem, Option.some.injEq, exists_eq_left', exists_eq_left, exists_eq', exists_eq, List.length_cons, zz2]
              have hm : (pcs r who cur pre).length + 1 ≤ 1000000 := by have e := congrArg List.length hsp; simp only [List.length_append, List.length_cons] at e; omega
              first | refine ⟨le_maxLen hm, by omega, ?_⟩ | refine ⟨by simp, le_maxLen hm, by omega, ?_⟩
              clear hm
              refine hK5 _ ?_; try clear hK5 K5
              refine awp_keepL [1, 2, 3, 4, 8, 10, 12, 13, 14] ?_
              simp only [zz20, zzI, look_nil, Nat.reduceBEq]
              refine awp_plain F_mixed [some 47, some 48, some 14] rfl ?_
              simp only [List.nil_append, List.cons_append, true_and, and_true, zz0, true_implies, Nat.reduceLT, Nat.reduceLeDiff, zzI, look_nil, Nat.reduceBEq, implies_true, evS_move, zz21, gr_v, zz26, evS_assign, zz6, Nat.reduceEqDiff, ↓reduceIte]
              refine ⟨post.length, _, by simp, le_SK (fun r => bif r == 13 then 93 else r) [] rfl (l' := [(1, .d (iv who)), (2, .d (iv cur)), (3, .d (poss ((pre ++ [x]) ++ post))), (4, .ptr 4 0 0), (8, .ptr 8 0 0), (10, .ptr 10 0 0), (12, .d (iv 0)), (13, .ref 13 (pcs r who cur (pre ++ [x])).length), (14, .d (iv (pre ++ [x]).length))]) (m' := [(4, (⟨True, 26, 3, true, false, 4, [[.d (.sl 3 (r.mems.map memC)), .d (.sl 12 (r.insts.map instC)), .d (.sl 4 (r.assets.map assetC))]]⟩ : ARow)), (8, (⟨True, 31, 6, true, false, 8, [[.d (.v (.int .i64 0)), .d (.v (.int .i64 0)), .d (.v (.int .i64 0)), .d (.v (.int .i64 0)), .d (.v (.int .i64 0)), .d (.v (.int .i64 0))]]⟩ : ARow)), (10, (⟨True, 31, 6, true, false, 10, [[.d (.v (.int .i64 0)), .d (.v (.int .i64 0)), .d (.v (.int .i64 0)), .d (.v (.int .i64 0)), .d (.v (.int .i64 0)), .d (.v (.int .i64 0))]]⟩ : ARow)), (13, grow 59 2 13 (((pcs r who cur (pre ++ [x])).map (lossOf · 0)).map wideC))]) ?_ ?_ ?_ ?_, pre ++ [x], post, by simp [hsp], rfl, rfl⟩
              · simp only [leV, look_cons, Nat.reduceBEq, cond_true, cond_false, poss, len_map, List.append_assoc, List.singleton_append, wrap_len pre x (by have e := congrArg List.length hsp; simp only [List.length_append, List.length_cons, List.length_map] at e; omega)]
                refine ⟨VLe.still rfl, VLe.still rfl, VLe.still rfl, VLe.ptr_ (f := (fun r => bif r == 13 then 93 else r)) (r := 4) (by simp), VLe.ptr_ (f := (fun r => bif r == 13 then 93 else r)) (r := 8) (by simp), VLe.ptr_ (f := (fun r => bif r == 13 then 93 else r)) (r := 10) (by simp), VLe.still rfl, ?_, VLe.still rfl, trivial⟩
                rw [pcs_yes hs]
                rw [show (AV.ref 93 _ : AV) = .ref ((fun r => bif r == 13 then 93 else r) 13) (pcs r who cur pre ++ [pPiece r x]).length from by simp]; try exact VLe.ref_ (f := (fun r => bif r == 13 then 93 else r)) (r := 13) (by simp)
              · exact ⟨fun _ => ⟨_, rfl, RowLe.still (by simp [AV.idsL, AV.ids])⟩, fun h => by simp at h, fun _ => ⟨_, rfl, RowLe.still (by simp [AV.idsL, AV.ids])⟩, fun h => by simp at h, fun _ => ⟨_, rfl, RowLe.still (by simp [AV.idsL, AV.ids])⟩, fun h => by simp at h, fun _ => ⟨_, rfl, RowLe.data_ (by rw [pcs_yes hs] <;> simp [wideC, lossOf, shN, pPiece, Int.mul_assoc])⟩, fun h => by simp at h, trivial⟩
              · simp [wfV, AV.ids, lookR, grow]
              · exact ⟨by simp [AV.idsL, AV.ids], by simp [AV.idsL, AV.ids], by simp [AV.idsL, AV.ids], wf_data _ _, trivial⟩
            · intro hb
              have hs : pSel r who cur x = false := hb
              clear hb
              refine awp_skip ?_
              simp only [zz6, Nat.reduceEqDiff, ↓reduceIte]
              refine hK5 _ ?_; try clear hK5 K5
              refine awp_keepL [1, 2, 3, 4, 8, 10, 12, 13, 14] ?_
              simp only [zz20, zzI, look_nil, Nat.reduceBEq]
              refine awp_plain F_mixed [some 47, some 48, some 14] rfl ?_
              simp only [List.nil_append, List.cons_append, true_and, and_true, zz0, true_implies, Nat.reduceLT, Nat.reduceLeDiff, zzI, look_nil, Nat.reduceBEq, implies_true, evS_move, zz21, gr_v, zz26, evS_assign, zz6, Nat.reduceEqDiff, ↓reduceIte]
              refine ⟨post.length, _, by simp, le_SK (fun r => bif r == 13 then 13 else r) [] rfl (l' := [(1, .d (iv who)), (2, .d (iv cur)), (3, .d (poss ((pre ++ [x]) ++ post))), (4, .ptr 4 0 0), (8, .ptr 8 0 0), (10, .ptr 10 0 0), (12, .d (iv 0)), (13, .ref 13 (pcs r who cur (pre ++ [x])).length), (14, .d (iv (pre ++ [x]).length))]) (m' := [(4, (⟨True, 26, 3, true, false, 4, [[.d (.sl 3 (r.mems.map memC)), .d (.sl 12 (r.insts.map instC)), .d (.sl 4 (r.assets.map assetC))]]⟩ : ARow)), (8, (⟨True, 31, 6, true, false, 8, [[.d (.v (.int .i64 0)), .d (.v (.int .i64 0)), .d (.v (.int .i64 0)), .d (.v (.int .i64 0)), .d (.v (.int .i64 0)), .d (.v (.int .i64 0))]]⟩ : ARow)), (10, (⟨True, 31, 6, true, false, 10, [[.d (.v (.int .i64 0)), .d (.v (.int .i64 0)), .d (.v (.int .i64 0)), .d (.v (.int .i64 0)), .d (.v (.int .i64 0)), .d (.v (.int .i64 0))]]⟩ : ARow)), (13, grow 59 2 13 (((pcs r who cur (pre ++ [x])).map (lossOf · 0)).map wideC))]) ?_ ?_ ?_ ?_, pre ++ [x], post, by simp [hsp], rfl, rfl⟩
              · simp only [leV, look_cons, Nat.reduceBEq, cond_true, cond_false, poss, len_map, List.append_assoc, List.singleton_append, wrap_len pre x (by have e := congrArg List.length hsp; simp only [List.length_append, List.length_cons, List.length_map] at e; omega)]
                refine ⟨VLe.still rfl, VLe.still rfl, VLe.still rfl, VLe.ptr_ (f := (fun r => bif r == 13 then 13 else r)) (r := 4) (by simp), VLe.ptr_ (f := (fun r => bif r == 13 then 13 else r)) (r := 8) (by simp), VLe.ptr_ (f := (fun r => bif r == 13 then 13 else r)) (r := 10) (by simp), VLe.still rfl, ?_, VLe.still rfl, trivial⟩
                rw [pcs_no hs]
                rw [show (AV.ref 13 _ : AV) = .ref ((fun r => bif r == 13 then 13 else r) 13) (pcs r who cur pre).length from by simp]; try exact VLe.ref_ (f := (fun r => bif r == 13 then 13 else r)) (r := 13) (by simp)
              · exact ⟨fun _ => ⟨_, rfl, RowLe.still (by simp [AV.idsL, AV.ids])⟩, fun h => by simp at h, fun _ => ⟨_, rfl, RowLe.still (by simp [AV.idsL, AV.ids])⟩, fun h => by simp at h, fun _ => ⟨_, rfl, RowLe.still (by simp [AV.idsL, AV.ids])⟩, fun h => by simp at h, fun _ => ⟨_, rfl, RowLe.data_ (by rw [pcs_no hs] <;> simp [wideC, lossOf, shN, pPiece, Int.mul_assoc])⟩, fun h => by simp at h, trivial⟩
              · simp [wfV, AV.ids, lookR, grow]
              · exact ⟨by simp [AV.idsL, AV.ids], by simp [AV.idsL, AV.ids], by simp [AV.idsL, AV.ids], wf_data _ _, trivial⟩
          · intro hb
            obtain rfl := none_of hb; clear hb
            simp only [List.append_nil] at hsp ⊢
            obtain rfl : l = pre := hsp
            refine awp_exit ?_
            simp only [zz6, Nat.reduceEqDiff, ↓reduceIte]
            refine hK3 _ ?_; try clear hK3 K3
            refine awp_keepL [1, 2, 3, 4, 8, 10, 12, 13] ?_
            simp only [zz20, zzI, look_nil, Nat.reduceBEq]
            refine awp_seq fun K3 hK3 => ?_
            refine awp_plain F_mixed [some 95, some 96, some 94, some 97, some 98, some 17, none, some 18] rfl ?_
            simp only [List.nil_append, List.cons_append, true_and, and_true, zz0, true_implies, Nat.reduceLT, Nat.reduceLeDiff, zzI, look_nil, Nat.reduceBEq, implies_true, evS_move, evS_call, evC_value, zz14, zzD, Nat.reduceAdd, Nat.zero_add, zzF, zz32, newRow1, F_zero59, zz16, Option.some.injEq, exists_eq_left', exists_eq_left, Option.map_some, eq_self, reduceCtorEq, and_self, zzB, zzE, zz10, zz18, F_ok59, F_sz59, splice, List.append_nil, zz1, zzG, evS_assign, wides, wideA, grow, hfit, zz6, Nat.reduceEqDiff, ↓reduceIte]
            refine call_go F_go26 (fun hG => WSum_ ((pcs r who cur l).map (lossOf · 0)) (by simp; omega) (fun y hy => by obtain ⟨x, hx, rfl⟩ := List.mem_map.1 hy; have := ((hps x hx).loss 0).2; omega)) (by simp [AV.ids, AV.idsL, wideA]) (by simp) ?_
            simp only [List.nil_append, List.cons_append, true_and, and_true, zz0, true_implies, Nat.reduceLT, Nat.reduceLeDiff, zzI, look_nil, Nat.reduceBEq, implies_true, evS_move, evS_call, evC_value, zz14, zzD, Nat.reduceAdd, Nat.zero_add, zzF, zz32, newRow1, F_zero59, zz16, Option.some.injEq, exists_eq_left', exists_eq_left, Option.map_some, eq_self, reduceCtorEq, and_self, zzB, zzE, zz10, zz18, F_ok59, F_sz59, splice, List.append_nil, zz1, zzG, evS_assign, wides, wideA, grow, hfit, zz6, Nat.reduceEqDiff, ↓reduceIte, atsL, oksG, freeN, AV.ren, AV.renL, addRows, ORow.row, Nat.reduceMul, Nat.reduceAdd, zz9, Option.bind_some, Option.map_some, forall_eq', D.sl.injEq, S_mem, Option.some.injEq, exists_eq_left', exists_eq_left, exists_eq', exists_eq, List.length_cons, zz2]
            refine ⟨by simp, ?_⟩
            refine hK3 _ ?_; try clear hK3 K3
            refine awp_keepL [1, 2, 3, 4, 8, 10, 12, 17, 18] ?_
            simp only [zz20, zzI, look_nil, Nat.reduceBEq]
            refine awp_seq fun K3 hK3 => ?_
            refine awp_plain F_mixed [some 100, some 101, some 99, some 102, some 103, some 19, some 20] rfl ?_
            simp only [List.nil_append, List.cons_append, true_and, and_true, zz0, true_implies, Nat.reduceLT, Nat.reduceLeDiff, zzI, look_nil, Nat.reduceBEq, implies_true, F_ok59, F_ag59, F_sz59, zz8, zz23, zzD, Nat.reduceAdd, Nat.zero_add, zzF, zzB, zzE, zz16, Option.some.injEq, exists_eq_left', exists_eq_left, Option.map_some, eq_self, reduceCtorEq, and_self, evS_call, evC_value, evS_move, zz14, evS_assign, wideC, wideA, zz6, Nat.reduceEqDiff, ↓reduceIte]
            refine call_go F_go27 (fun hG => Int_ ((pcs r who cur l).map (lossOf · 0)).sum) (by simp [AV.ids, AV.idsL, wideC, wideA]) (by simp) ?_
            simp only [List.nil_append, List.cons_append, true_and, and_true, zz0, true_implies, Nat.reduceLT, Nat.reduceLeDiff, zzI, look_nil, Nat.reduceBEq, implies_true, F_ok59, F_ag59, F_sz59, zz8, zz23, zzD, Nat.reduceAdd, Nat.zero_add, zzF, zzB, zzE, zz16, Option.some.injEq, exists_eq_left', exists_eq_left, Option.map_some, eq_self, reduceCtorEq, and_self, evS_call, evC_value, evS_move, zz14, evS_assign, wideC, wideA, zz6, Nat.reduceEqDiff, ↓reduceIte, atsL, oksG, freeN, AV.ren, AV.renL, addRows, ORow.row, Nat.reduceMul, Nat.reduceAdd, zz9, Option.bind_some, Option.map_some, forall_eq', D.sl.injEq, S_mem, Option.some.injEq, exists_eq_left', exists_eq_left, exists_eq', exists_eq, List.length_cons, zz2]
            refine hK3 _ ?_; try clear hK3 K3
            refine awp_keepL [1, 2, 3, 4, 8, 10, 12, 18, 19, 20] ?_
            simp only [zz20, zzI, look_nil, Nat.reduceBEq]
            refine awp_seq fun K3 hK3 => ?_
            refine awp_seq fun K4 hK4 => ?_
            refine awp_plain F_mixed [some 104, some 105, some 106, some 107, some 108, some 109] rfl ?_
            simp only [List.nil_append, List.cons_append, true_and, and_true, zz0, true_implies, Nat.reduceLT, Nat.reduceLeDiff, zzI, look_nil, Nat.reduceBEq, implies_true, Nat.reduceSub, S_getD, zz5, and_imp, imp_and, imp_self, and_self, evS_move, zz29, gr_v, zz30, zz13, zz6, Nat.reduceEqDiff, ↓reduceIte]
            refine hK4 _ ?_; try clear hK4 K4
            refine awp_keepL [1, 2, 3, 4, 8, 10, 12, 19, 109] ?_
            simp only [zz20, zzI, look_nil, Nat.reduceBEq]
            refine awp_condS _ (by decide) (by simp only [look_cons, Nat.reduceBEq, cond_true, cond_false]; rfl) ?_ ?_
            · intro hb
              have hj : rightN (lossT (pcs r who cur l) 0) = false := by have h2 := hb; simp at h2; exact h2
              clear hb
              refine awp_seq fun K5 hK5 => ?_
              refine awp_plain F_mixed [some 110, none, some 9] rfl ?_
              simp only [List.nil_append, List.cons_append, true_and, and_true, zz0, true_implies, Nat.reduceLT, Nat.reduceLeDiff, zzI, look_nil, Nat.reduceBEq, implies_true, F_zero31, F_bld31, zz7, splice, Option.getD_some, List.append_nil, zz1, zzG, zzD, zz16, Option.some.injEq, exists_eq_left', exists_eq_left, Option.map_some, eq_self, reduceCtorEq, and_self, Nat.reduceAdd, Nat.zero_add, zzF, zzB, zzE, zz10, zz18, F_ok31, F_sz31, evS_assign, zz6, Nat.reduceEqDiff, ↓reduceIte]
              refine hK5 _ ?_; try clear hK5 K5
              refine awp_keepL [8, 9] ?_
              simp only [zz20, zzI, look_nil, Nat.reduceBEq]
              refine awp_ret ?_
              simp only [zz6, Nat.reduceEqDiff, ↓reduceIte]
              try simp only [List.append_nil]
              refine done0 (by simp [resCs, resC, S, List.getD, look_cons, lookR, F_ag31, F_sz31, F_ok31]) ?_ (by simp [flatA, flatAs, flatD, lossA]) (by simp [AV.ids, AV.idsL, lossA])
              simp only [List.map_cons, List.map_nil, resA, S_getD, S_mem, lookR_cons, lookR_nil, Nat.reduceLT, Nat.reduceLeDiff, look_cons, Nat.reduceBEq, cond_true, cond_false, resAll, List.getD_cons_zero, List.getD_cons_succ, List.drop_zero, List.drop_succ_cons, List.take_succ_cons, List.take_zero, F_ag31, F_sz31, F_ok31]
              have e : lossE r who cur l = 1 := by simp [lossE, hE, lossOk, hj]
              have v : ∀ j, lossV r who cur l j = 0 := fun j => by simp [lossV, e]
              simp only [lossA, v, e]; try rfl
            · intro hb
              have hj : rightN (lossT (pcs r who cur l) 0) = true := by have h2 := hb; simp at h2; exact h2
              clear hb
              simp only [show rightN (List.map (fun x => lossOf x 0) (pcs r who cur l)).sum = true from hj, cond_true]
              have h0 := hj
              refine awp_skip ?_
              simp only [zz6, Nat.reduceEqDiff, ↓reduceIte]
              refine hK3 _ ?_; try clear hK3 K3
              refine awp_keepL [1, 2, 3, 4, 8, 10, 12, 19] ?_
              simp only [zz20, zzI, look_nil, Nat.reduceBEq]
              refine awp_plain F_mixed [some 111, some 112, some 113, none] rfl ?_
              simp only [List.nil_append, List.cons_append, true_and, and_true, zz0, true_implies, Nat.reduceLT, Nat.reduceLeDiff, zzI, look_nil, Nat.reduceBEq, implies_true, evS_move, evS_indexAddr, zz23, zz15, F_arr31, F_sz3, zz16, Option.some.injEq, exists_eq_left', exists_eq_left, Option.map_some, eq_self, reduceCtorEq, and_self, zz18, F_ok3, splice, List.append_nil, zzD, Nat.reduceAdd, Nat.zero_add, zzF, zzB, zzE, zz1, zzG, Int.reduceToNat, Int.reduceLT, Int.reduceLE, cast6, Nat.reduceMul, zz6, Nat.reduceEqDiff, ↓reduceIte]
              refine hK2 _ ?_; try clear hK2 K2
              refine awp_keepL [1, 2, 3, 4, 8, 10, 12] ?_
              simp only [zz20, zzI, look_nil, Nat.reduceBEq]
              refine awp_plain F_mixed [some 41, some 42, some 12] rfl ?_
              simp only [List.nil_append, List.cons_append, true_and, and_true, zz0, true_implies, Nat.reduceLT, Nat.reduceLeDiff, zzI, look_nil, Nat.reduceBEq, implies_true, evS_move, zz21, gr_v, zz26, evS_assign, zz6, Nat.reduceEqDiff, ↓reduceIte]
              refine ⟨5, _, by decide, le_SK id [] rfl (l' := [(1, .d (iv who)), (2, .d (iv cur)), (3, .d (poss l)), (4, .ptr 4 0 0), (8, .ptr 8 0 0), (10, .ptr 10 0 0), (12, .d (iv 1))]) (m' := [(4, (⟨True, 26, 3, true, false, 4, [[.d (.sl 3 (r.mems.map memC)), .d (.sl 12 (r.insts.map instC)), .d (.sl 4 (r.assets.map assetC))]]⟩ : ARow)), (8, (⟨True, 31, 6, true, false, 8, [[.d (.v (.int .i64 0)), .d (.v (.int .i64 0)), .d (.v (.int .i64 0)), .d (.v (.int .i64 0)), .d (.v (.int .i64 0)), .d (.v (.int .i64 0))]]⟩ : ARow)), (10, (⟨True, 31, 6, true, false, 10, [[.d (iv (lossT (pcs r who cur l) 0)), .d (.v (.int .i64 0)), .d (.v (.int .i64 0)), .d (.v (.int .i64 0)), .d (.v (.int .i64 0)), .d (.v (.int .i64 0))]]⟩ : ARow))]) ?_ ?_ ?_ ?_, .inr (.inl (⟨rfl, h0, rfl⟩))⟩
              · simp only [leV, look_cons, Nat.reduceBEq, cond_true, cond_false]; exact ⟨VLe.refl _, VLe.refl _, VLe.refl _, VLe.refl _, VLe.refl _, VLe.refl _, VLe.refl _, trivial⟩
              · exact ⟨fun _ => ⟨_, rfl, ⟨id, rfl, rfl, rfl, id, .inl, VLess.refl _⟩⟩, fun h => by simp at h, fun _ => ⟨_, rfl, ⟨id, rfl, rfl, rfl, id, .inl, VLess.refl _⟩⟩, fun h => by simp at h, fun _ => ⟨_, rfl, ⟨id, rfl, rfl, rfl, id, .inl, VLess.refl _⟩⟩, fun h => by simp at h, trivial⟩
              · simp [wfV, AV.ids, AV.idsL, lookR]
              · simp [wfR, AV.idsL, AV.ids]
        · intro hb
          simp at hb
      · skip
        refine awp_seq fun K2 hK2 => ?_
        refine awp_seq fun K3 hK3 => ?_
        refine awp_plain F_mixed [some 39, some 40] rfl ?_
        simp only [List.nil_append, List.cons_append, true_and, and_true, zz0, true_implies, Nat.reduceLT, Nat.reduceLeDiff, zzI, look_nil, Nat.reduceBEq, implies_true, evS_move, zz21, gr_v, zz22, zz6, Nat.reduceEqDiff, ↓reduceIte]
        refine hK3 _ ?_; try clear hK3 K3
        refine awp_keepL [1, 2, 3, 4, 8, 10, 12, 40] ?_
        simp only [zz20, zzI, look_nil, Nat.reduceBEq]
        refine awp_condS _ (by decide) (by simp only [look_cons, Nat.reduceBEq, cond_true, cond_false]; rfl) ?_ ?_
        · intro hb
          clear hb
          refine awp_skip ?_
          simp only [zz6, Nat.reduceEqDiff, ↓reduceIte]
          refine hK2 _ ?_; try clear hK2 K2
          refine awp_keepL [1, 2, 3, 4, 8, 10, 12] ?_
          simp only [zz20, zzI, look_nil, Nat.reduceBEq]
          refine awp_seq fun K2 hK2 => ?_
          refine awp_block ?_
          refine awp_seq fun K3 hK3 => ?_
          refine awp_plain F_mixed [some 13] rfl ?_
          simp only [List.nil_append, List.cons_append, true_and, and_true, zz0, true_implies, Nat.reduceLT, Nat.reduceLeDiff, zzI, look_nil, Nat.reduceBEq, implies_true, evS_assign, zz6, Nat.reduceEqDiff, ↓reduceIte]
          refine hK3 _ ?_; try clear hK3 K3
          refine awp_keepL [1, 2, 3, 4, 8, 10, 12, 13] ?_
          simp only [zz20, zzI, look_nil, Nat.reduceBEq]
          refine awp_seq fun K3 hK3 => ?_
          refine awp_seq fun K4 hK4 => ?_
          refine awp_plain F_mixed [some 14] rfl ?_
          simp only [List.nil_append, List.cons_append, true_and, and_true, zz0, true_implies, Nat.reduceLT, Nat.reduceLeDiff, zzI, look_nil, Nat.reduceBEq, implies_true, evS_assign, zz6, Nat.reduceEqDiff, ↓reduceIte]
          refine hK4 _ ?_; try clear hK4 K4
          refine awp_keepL [1, 2, 3, 4, 8, 10, 12, 13, 14] ?_
          simp only [zz20, zzI, look_nil, Nat.reduceBEq]
          refine awp_block ?_
          refine awp_loop (fun m s => ∃ pre post : List PosV, l = pre ++ post ∧ m = post.length ∧ s = S 115 [(1, .d (iv who)), (2, .d (iv cur)), (3, .d (poss (pre ++ post))), (4, .ptr 4 0 0), (8, .ptr 8 0 0), (10, .ptr 10 0 0), (12, .d (iv 1)), (13, .ref 13 (pcs r who cur pre).length), (14, .d (iv pre.length))] [(4, (⟨True, 26, 3, true, false, 4, [[.d (.sl 3 (r.mems.map memC)), .d (.sl 12 (r.insts.map instC)), .d (.sl 4 (r.assets.map assetC))]]⟩ : ARow)), (8, (⟨True, 31, 6, true, false, 8, [[.d (.v (.int .i64 0)), .d (.v (.int .i64 0)), .d (.v (.int .i64 0)), .d (.v (.int .i64 0)), .d (.v (.int .i64 0)), .d (.v (.int .i64 0))]]⟩ : ARow)), (10, (⟨True, 31, 6, true, false, 10, [[.d (iv (lossT (pcs r who cur l) 0)), .d (.v (.int .i64 0)), .d (.v (.int .i64 0)), .d (.v (.int .i64 0)), .d (.v (.int .i64 0)), .d (.v (.int .i64 0))]]⟩ : ARow)), (13, grow 59 2 13 (((pcs r who cur pre).map (lossOf · 1)).map wideC))]) l.length _ (le_SK id [13] rfl (l' := [(1, .d (iv who)), (2, .d (iv cur)), (3, .d (poss (([] : List PosV) ++ l))), (4, .ptr 4 0 0), (8, .ptr 8 0 0), (10, .ptr 10 0 0), (12, .d (iv 1)), (13, .ref 13 (pcs r who cur ([] : List PosV)).length), (14, .d (iv ([] : List PosV).length))]) (m' := [(4, (⟨True, 26, 3, true, false, 4, [[.d (.sl 3 (r.mems.map memC)), .d (.sl 12 (r.insts.map instC)), .d (.sl 4 (r.assets.map assetC))]]⟩ : ARow)), (8, (⟨True, 31, 6, true, false, 8, [[.d (.v (.int .i64 0)), .d (.v (.int .i64 0)), .d (.v (.int .i64 0)), .d (.v (.int .i64 0)), .d (.v (.int .i64 0)), .d (.v (.int .i64 0))]]⟩ : ARow)), (10, (⟨True, 31, 6, true, false, 10, [[.d (iv (lossT (pcs r who cur l) 0)), .d (.v (.int .i64 0)), .d (.v (.int .i64 0)), .d (.v (.int .i64 0)), .d (.v (.int .i64 0)), .d (.v (.int .i64 0))]]⟩ : ARow)), (13, grow 59 2 13 (((pcs r who cur ([] : List PosV)).map (lossOf · 1)).map wideC))]) ?_ ?_ ?_ ?_) ⟨[], l, rfl, rfl, rfl⟩ ?_
          · simp only [leV, look_cons, Nat.reduceBEq, cond_true, cond_false, List.nil_append]; exact ⟨VLe.still rfl, VLe.still rfl, VLe.still rfl, VLe.ptr_ (f := id) (r := 4) (by simp), VLe.ptr_ (f := id) (r := 8) (by simp), VLe.ptr_ (f := id) (r := 10) (by simp), VLe.still rfl, VLe.nil_ (by decide), VLe.still rfl, trivial⟩
          · exact ⟨fun _ => ⟨_, rfl, RowLe.still (by simp [AV.idsL, AV.ids])⟩, fun h => by simp at h, fun _ => ⟨_, rfl, RowLe.still (by simp [AV.idsL, AV.ids])⟩, fun h => by simp at h, fun _ => ⟨_, rfl, RowLe.still (by simp [AV.idsL, AV.ids])⟩, fun h => by simp at h, fun h => by simp at h, fun _ => rfl, trivial⟩
          · simp [wfV, AV.ids, lookR]
          · simp [wfR, grow, pcs, AV.idsL, AV.ids]
          rintro m s ⟨pre, post, hsp, rfl, rfl⟩
          have hppl := pcs_len r who cur pre
          refine awp_seq fun K5 hK5 => ?_
          refine awp_seq fun K6 hK6 => ?_
          refine awp_plain F_mixed [some 43, some 44, some 45, some 46] rfl ?_
          simp only [List.nil_append, List.cons_append, true_and, and_true, zz0, true_implies, Nat.reduceLT, Nat.reduceLeDiff, zzI, look_nil, Nat.reduceBEq, implies_true, evS_move, evS_call, zz12, F_sl27, Option.isSome_some, zz21, gr_v, zz22, poss, len_map, zz6, Nat.reduceEqDiff, ↓reduceIte]
          refine hK6 _ ?_; try clear hK6 K6
          refine awp_keepL [1, 2, 3, 4, 8, 10, 12, 13, 14, 46] ?_
          simp only [zz20, zzI, look_nil, Nat.reduceBEq]
          refine awp_condS _ (by decide) (by simp only [look_cons, Nat.reduceBEq, cond_true, cond_false]; rfl) ?_ ?_
          · intro hb
            obtain ⟨x, post, rfl⟩ := more_of hb; clear hb
            refine awp_skip ?_
            simp only [zz6, Nat.reduceEqDiff, ↓reduceIte]
            refine hK5 _ ?_; try clear hK5 K5
            refine awp_keepL [1, 2, 3, 4, 8, 10, 12, 13, 14] ?_
            simp only [zz20, zzI, look_nil, Nat.reduceBEq]
            refine awp_seq fun K5 hK5 => ?_
            refine awp_block ?_
            refine awp_seq fun K6 hK6 => ?_
            refine awp_draw F_mixed [some 50, some 51, some 52, some 53, some 54, some 55, some 56, some 57, some 49, some 58, some 59, some 15, none, some 16] rfl (by kernel_rfl) ?_
            simp only [List.nil_append, List.cons_append, true_and, and_true, zz0, true_implies, Nat.reduceLT, Nat.reduceLeDiff, zzI, look_nil, Nat.reduceBEq, implies_true, F_ok26, F_ag26, F_sz26, zz8, zz23, zzD, Nat.reduceAdd, Nat.zero_add, zzF, zzB, zzE, zz16, Option.some.injEq, exists_eq_left', exists_eq_left, Option.map_some, eq_self, reduceCtorEq, and_self, evS_move, evS_indexAddr, zz24, F_sl27, F_sz46, zz19, F_off46_0, F_off44_1, F_ok3, F_ag3, F_sz3, evS_call, evC_value, zz14, zz32, newRow1, F_zero49, zz10, zz18, F_ok49, F_sz49, splice, List.append_nil, zz1, zzG, evS_assign, poss, posC, getD_mid, len_map, lt_mid, ge_mid, memsD, instsD, assetsD, rollC, D.agg.injEq, memA, memC, instA, instC, List.map_cons, zz6, Nat.reduceEqDiff, ↓reduceIte]
            refine call_go F_go24 (fun hG => rInst_ r.mems r.insts r.assets x.inst h.insts) (by simp [AV.ids, AV.idsL, instA, instC]) (by simp) ?_
            simp only [List.nil_append, List.cons_append, true_and, and_true, zz0, true_implies, Nat.reduceLT, Nat.reduceLeDiff, zzI, look_nil, Nat.reduceBEq, implies_true, F_ok26, F_ag26, F_sz26, zz8, zz23, zzD, Nat.reduceAdd, Nat.zero_add, zzF, zzB, zzE, zz16, Option.some.injEq, exists_eq_left', exists_eq_left, Option.map_some, eq_self, reduceCtorEq, and_self, evS_move, evS_indexAddr, zz24, F_sl27, F_sz46, zz19, F_off46_0, F_off44_1, F_ok3, F_ag3, F_sz3, evS_call, evC_value, zz14, zz32, newRow1, F_zero49, zz10, zz18, F_ok49, F_sz49, splice, List.append_nil, zz1, zzG, evS_assign, poss, posC, getD_mid, len_map, lt_mid, ge_mid, memsD, instsD, assetsD, rollC, D.agg.injEq, memA, memC, instA, instC, List.map_cons, zz6, Nat.reduceEqDiff, ↓reduceIte, atsL, oksG, freeN, AV.ren, AV.renL, addRows, ORow.row, Nat.reduceMul, Nat.reduceAdd, zz9, Option.bind_some, Option.map_some, forall_eq', D.sl.injEq, S_mem, Option.some.injEq, exists_eq_left', exists_eq_left, exists_eq', exists_eq, List.length_cons, zz2]
            refine hK6 _ ?_; try clear hK6 K6
            refine awp_keepL [1, 2, 3, 4, 8, 10, 12, 13, 14, 15, 16] ?_
            simp only [zz20, zzI, look_nil, Nat.reduceBEq]
            refine awp_seq fun K6 hK6 => ?_
            refine awp_plain F_mixed [some 60, some 61, some 62, some 63, some 64, some 65, some 66, some 67, some 68, some 69, some 70, some 71, some 72, some 73, some 74, some 75, some 76] rfl ?_
            simp only [List.nil_append, List.cons_append, true_and, and_true, zz0, true_implies, Nat.reduceLT, Nat.reduceLeDiff, zzI, look_nil, Nat.reduceBEq, implies_true, Nat.reduceSub, S_getD, zz5, and_imp, imp_and, imp_self, and_self, evS_move, evS_indexAddr, zz23, zz24, F_sl27, F_sz46, Option.map_some, zz16, Option.some.injEq, exists_eq_left', exists_eq_left, eq_self, reduceCtorEq, zz19, F_off46_0, zzB, Nat.zero_add, Nat.reduceAdd, F_off44_0, F_ok3, F_ag3, F_sz3, zz8, zzD, zzF, zzE, zz21, gr_v, zz34, zz13, F_off49_1, poss, posC, getD_mid, len_map, lt_mid, ge_mid, zz6, Nat.reduceEqDiff, ↓reduceIte]
            refine hK6 _ ?_; try clear hK6 K6
            refine awp_keepL [1, 2, 3, 4, 8, 10, 12, 13, 14, 15, 76] ?_
            simp only [zz20, zzI, look_nil, Nat.reduceBEq]
            refine awp_condS _ (by decide) (by simp only [look_cons, Nat.reduceBEq, cond_true, cond_false]; rfl) ?_ ?_
            · intro hb
              have hs : pSel r who cur x = true := hb
              clear hb
              have hx : PieceOk (pPiece r x) := pPiece_ok hr (List.all_eq_true.1 hp x (by rw [hsp]; simp)) hs
              have hb := hx.loss 1
              have hsj := hx.s 1
              have q0 := hx.q0; have q1 := hx.q1; have m0 := hx.m0; have m1 := hx.m1
              simp only [shN, pPiece] at hsj q0 q1 m0 m1 hb
              have hw : IntKind.wrap .i64 (0 - x.qty) = -x.qty := by rw [wrapI (n := 0 - x.qty) (by omega) (by omega)]; omega
              have hm2 := abs_mul (a := (findX InstV.no x.inst zInst r.insts).mult) (b := (findX InstV.no x.inst zInst r.insts).s1) (x := 1024) (y := 1073741824) (by omega) (by omega)
              have hw2 : IntKind.wrap .i64 ((findX InstV.no x.inst zInst r.insts).mult * (findX InstV.no x.inst zInst r.insts).s1) = (findX InstV.no x.inst zInst r.insts).mult * (findX InstV.no x.inst zInst r.insts).s1 := wrapI (by omega) (by omega)
              refine awp_draw F_mixed [some 77, some 78, some 79, some 80, some 81, some 82, some 83, some 84, some 85, some 86, some 87, some 88, some 89, some 90, some 91, some 92, some 93, some 13] rfl (by kernel_rfl) ?_
              simp only [List.nil_append, List.cons_append, true_and, and_true, zz0, true_implies, Nat.reduceLT, Nat.reduceLeDiff, zzI, look_nil, Nat.reduceBEq, implies_true, evS_move, evS_indexAddr, zz23, zz24, F_sl27, F_sz46, Option.map_some, zz16, Option.some.injEq, exists_eq_left', exists_eq_left, eq_self, reduceCtorEq, and_self, zz19, F_off46_1, zzB, Nat.zero_add, Nat.reduceAdd, F_ok3, F_ag3, F_sz3, zz8, zzD, zzF, zzE, zz29, gr_v, zz37, F_off49_2, F_off49_6, zz15, F_arr31, zz21, zz36, evS_call, evC_value, F_sl54, F_zero59, F_sz59, zz3, newRow1, zz1, zzG, maxLen_le, Nat.reduceMul, F_by59, zz4, zz9, Option.bind_some, evS_assign, poss, posC, getD_mid, len_map, lt_mid, ge_mid, hw, hw2, wideA, grow, D.agg.injEq, unDs_map, Int.reduceToNat, Int.reduceLT, Int.reduceLE, cast6, Nat.reduceMul, zz6, Nat.reduceEqDiff, ↓reduceIte]
              refine call_go F_go25 (fun hG => rTimes_ (-x.qty) ((findX InstV.no x.inst zInst r.insts).mult * (findX InstV.no x.inst zInst r.insts).s1) (by omega) (by omega) (by omega) (by omega)) (by simp [AV.ids, AV.idsL, wideA]) (by simp) ?_
              simp only [List.nil_append, List.cons_append, true_and, and_true, zz0, true_implies, Nat.reduceLT, Nat.reduceLeDiff, zzI, look_nil, Nat.reduceBEq, implies_true, evS_move, evS_indexAddr, zz23, zz24, F_sl27, F_sz46, Option.map_some, zz16, Option.some.injEq, exists_eq_left', exists_eq_left, eq_self, reduceCtorEq, and_self, zz19, F_off46_1, zzB, Nat.zero_add, Nat.reduceAdd, F_ok3, F_ag3, F_sz3, zz8, zzD, zzF, zzE, zz29, gr_v, zz37, F_off49_2, F_off49_6, zz15, F_arr31, zz21, zz36, evS_call, evC_value, F_sl54, F_zero59, F_sz59, zz3, newRow1, zz1, zzG, maxLen_le, Nat.reduceMul, F_by59, zz4, zz9, Option.bind_some, evS_assign, poss, posC, getD_mid, len_map, lt_mid, ge_mid, hw, hw2, wideA, grow, D.agg.injEq, unDs_map, Int.reduceToNat, Int.reduceLT, Int.reduceLE, cast6, Nat.reduceMul, zz6, Nat.reduceEqDiff, ↓reduceIte, atsL, oksG, freeN, AV.ren, AV.renL, addRows, ORow.row, Nat.reduceMul, Nat.reduceAdd, unDs_cons, Option.bind_some, Option.map_some, forall_eq', D.sl.injEq, S_mem, Option.some.injEq, exists_eq_left', exists_eq_left, exists_eq', exists_eq, List.length_cons, zz2]
              have hm : (pcs r who cur pre).length + 1 ≤ 1000000 := by have e := congrArg List.length hsp; simp only [List.length_append, List.length_cons] at e; omega
              first | refine ⟨le_maxLen hm, by omega, ?_⟩ | refine ⟨by simp, le_maxLen hm, by omega, ?_⟩
              clear hm
              refine hK5 _ ?_; try clear hK5 K5
              refine awp_keepL [1, 2, 3, 4, 8, 10, 12, 13, 14] ?_
              simp only [zz20, zzI, look_nil, Nat.reduceBEq]
              refine awp_plain F_mixed [some 47, some 48, some 14] rfl ?_
              simp only [List.nil_append, List.cons_append, true_and, and_true, zz0, true_implies, Nat.reduceLT, Nat.reduceLeDiff, zzI, look_nil, Nat.reduceBEq, implies_true, evS_move, zz21, gr_v, zz26, evS_assign, zz6, Nat.reduceEqDiff, ↓reduceIte]
              refine ⟨post.length, _, by simp, le_SK (fun r => bif r == 13 then 93 else r) [] rfl (l' := [(1, .d (iv who)), (2, .d (iv cur)), (3, .d (poss ((pre ++ [x]) ++ post))), (4, .ptr 4 0 0), (8, .ptr 8 0 0), (10, .ptr 10 0 0), (12, .d (iv 1)), (13, .ref 13 (pcs r who cur (pre ++ [x])).length), (14, .d (iv (pre ++ [x]).length))]) (m' := [(4, (⟨True, 26, 3, true, false, 4, [[.d (.sl 3 (r.mems.map memC)), .d (.sl 12 (r.insts.map instC)), .d (.sl 4 (r.assets.map assetC))]]⟩ : ARow)), (8, (⟨True, 31, 6, true, false, 8, [[.d (.v (.int .i64 0)), .d (.v (.int .i64 0)), .d (.v (.int .i64 0)), .d (.v (.int .i64 0)), .d (.v (.int .i64 0)), .d (.v (.int .i64 0))]]⟩ : ARow)), (10, (⟨True, 31, 6, true, false, 10, [[.d (iv (lossT (pcs r who cur l) 0)), .d (.v (.int .i64 0)), .d (.v (.int .i64 0)), .d (.v (.int .i64 0)), .d (.v (.int .i64 0)), .d (.v (.int .i64 0))]]⟩ : ARow)), (13, grow 59 2 13 (((pcs r who cur (pre ++ [x])).map (lossOf · 1)).map wideC))]) ?_ ?_ ?_ ?_, pre ++ [x], post, by simp [hsp], rfl, rfl⟩
              · simp only [leV, look_cons, Nat.reduceBEq, cond_true, cond_false, poss, len_map, List.append_assoc, List.singleton_append, wrap_len pre x (by have e := congrArg List.length hsp; simp only [List.length_append, List.length_cons, List.length_map] at e; omega)]
                refine ⟨VLe.still rfl, VLe.still rfl, VLe.still rfl, VLe.ptr_ (f := (fun r => bif r == 13 then 93 else r)) (r := 4) (by simp), VLe.ptr_ (f := (fun r => bif r == 13 then 93 else r)) (r := 8) (by simp), VLe.ptr_ (f := (fun r => bif r == 13 then 93 else r)) (r := 10) (by simp), VLe.still rfl, ?_, VLe.still rfl, trivial⟩
                rw [pcs_yes hs]
                rw [show (AV.ref 93 _ : AV) = .ref ((fun r => bif r == 13 then 93 else r) 13) (pcs r who cur pre ++ [pPiece r x]).length from by simp]; try exact VLe.ref_ (f := (fun r => bif r == 13 then 93 else r)) (r := 13) (by simp)
              · exact ⟨fun _ => ⟨_, rfl, RowLe.still (by simp [AV.idsL, AV.ids])⟩, fun h => by simp at h, fun _ => ⟨_, rfl, RowLe.still (by simp [AV.idsL, AV.ids])⟩, fun h => by simp at h, fun _ => ⟨_, rfl, RowLe.still (by simp [AV.idsL, AV.ids])⟩, fun h => by simp at h, fun _ => ⟨_, rfl, RowLe.data_ (by rw [pcs_yes hs] <;> simp [wideC, lossOf, shN, pPiece, Int.mul_assoc])⟩, fun h => by simp at h, trivial⟩
              · simp [wfV, AV.ids, lookR, grow]
              · exact ⟨by simp [AV.idsL, AV.ids], by simp [AV.idsL, AV.ids], by simp [AV.idsL, AV.ids], wf_data _ _, trivial⟩
            · intro hb
              have hs : pSel r who cur x = false := hb
              clear hb
              refine awp_skip ?_
              simp only [zz6, Nat.reduceEqDiff, ↓reduceIte]
              refine hK5 _ ?_; try clear hK5 K5
              refine awp_keepL [1, 2, 3, 4, 8, 10, 12, 13, 14] ?_
              simp only [zz20, zzI, look_nil, Nat.reduceBEq]
              refine awp_plain F_mixed [some 47, some 48, some 14] rfl ?_
              simp only [List.nil_append, List.cons_append, true_and, and_true, zz0, true_implies, Nat.reduceLT, Nat.reduceLeDiff, zzI, look_nil, Nat.reduceBEq, implies_true, evS_move, zz21, gr_v, zz26, evS_assign, zz6, Nat.reduceEqDiff, ↓reduceIte]
              refine ⟨post.length, _, by simp, le_SK (fun r => bif r == 13 then 13 else r) [] rfl (l' := [(1, .d (iv who)), (2, .d (iv cur)), (3, .d (poss ((pre ++ [x]) ++ post))), (4, .ptr 4 0 0), (8, .ptr 8 0 0), (10, .ptr 10 0 0), (12, .d (iv 1)), (13, .ref 13 (pcs r who cur (pre ++ [x])).length), (14, .d (iv (pre ++ [x]).length))]) (m' := [(4, (⟨True, 26, 3, true, false, 4, [[.d (.sl 3 (r.mems.map memC)), .d (.sl 12 (r.insts.map instC)), .d (.sl 4 (r.assets.map assetC))]]⟩ : ARow)), (8, (⟨True, 31, 6, true, false, 8, [[.d (.v (.int .i64 0)), .d (.v (.int .i64 0)), .d (.v (.int .i64 0)), .d (.v (.int .i64 0)), .d (.v (.int .i64 0)), .d (.v (.int .i64 0))]]⟩ : ARow)), (10, (⟨True, 31, 6, true, false, 10, [[.d (iv (lossT (pcs r who cur l) 0)), .d (.v (.int .i64 0)), .d (.v (.int .i64 0)), .d (.v (.int .i64 0)), .d (.v (.int .i64 0)), .d (.v (.int .i64 0))]]⟩ : ARow)), (13, grow 59 2 13 (((pcs r who cur (pre ++ [x])).map (lossOf · 1)).map wideC))]) ?_ ?_ ?_ ?_, pre ++ [x], post, by simp [hsp], rfl, rfl⟩
              · simp only [leV, look_cons, Nat.reduceBEq, cond_true, cond_false, poss, len_map, List.append_assoc, List.singleton_append, wrap_len pre x (by have e := congrArg List.length hsp; simp only [List.length_append, List.length_cons, List.length_map] at e; omega)]
                refine ⟨VLe.still rfl, VLe.still rfl, VLe.still rfl, VLe.ptr_ (f := (fun r => bif r == 13 then 13 else r)) (r := 4) (by simp), VLe.ptr_ (f := (fun r => bif r == 13 then 13 else r)) (r := 8) (by simp), VLe.ptr_ (f := (fun r => bif r == 13 then 13 else r)) (r := 10) (by simp), VLe.still rfl, ?_, VLe.still rfl, trivial⟩
                rw [pcs_no hs]
                rw [show (AV.ref 13 _ : AV) = .ref ((fun r => bif r == 13 then 13 else r) 13) (pcs r who cur pre).length from by simp]; try exact VLe.ref_ (f := (fun r => bif r == 13 then 13 else r)) (r := 13) (by simp)
              · exact ⟨fun _ => ⟨_, rfl, RowLe.still (by simp [AV.idsL, AV.ids])⟩, fun h => by simp at h, fun _ => ⟨_, rfl, RowLe.still (by simp [AV.idsL, AV.ids])⟩, fun h => by simp at h, fun _ => ⟨_, rfl, RowLe.still (by simp [AV.idsL, AV.ids])⟩, fun h => by simp at h, fun _ => ⟨_, rfl, RowLe.data_ (by rw [pcs_no hs] <;> simp [wideC, lossOf, shN, pPiece, Int.mul_assoc])⟩, fun h => by simp at h, trivial⟩
              · simp [wfV, AV.ids, lookR, grow]
              · exact ⟨by simp [AV.idsL, AV.ids], by simp [AV.idsL, AV.ids], by simp [AV.idsL, AV.ids], wf_data _ _, trivial⟩
          · intro hb
            obtain rfl := none_of hb; clear hb
            simp only [List.append_nil] at hsp ⊢
            obtain rfl : l = pre := hsp
            refine awp_exit ?_
            simp only [zz6, Nat.reduceEqDiff, ↓reduceIte]
            refine hK3 _ ?_; try clear hK3 K3
            refine awp_keepL [1, 2, 3, 4, 8, 10, 12, 13] ?_
            simp only [zz20, zzI, look_nil, Nat.reduceBEq]
            refine awp_seq fun K3 hK3 => ?_
            refine awp_plain F_mixed [some 95, some 96, some 94, some 97, some 98, some 17, none, some 18] rfl ?_
            simp only [List.nil_append, List.cons_append, true_and, and_true, zz0, true_implies, Nat.reduceLT, Nat.reduceLeDiff, zzI, look_nil, Nat.reduceBEq, implies_true, evS_move, evS_call, evC_value, zz14, zzD, Nat.reduceAdd, Nat.zero_add, zzF, zz32, newRow1, F_zero59, zz16, Option.some.injEq, exists_eq_left', exists_eq_left, Option.map_some, eq_self, reduceCtorEq, and_self, zzB, zzE, zz10, zz18, F_ok59, F_sz59, splice, List.append_nil, zz1, zzG, evS_assign, wides, wideA, grow, hfit, zz6, Nat.reduceEqDiff, ↓reduceIte]
            refine call_go F_go26 (fun hG => WSum_ ((pcs r who cur l).map (lossOf · 1)) (by simp; omega) (fun y hy => by obtain ⟨x, hx, rfl⟩ := List.mem_map.1 hy; have := ((hps x hx).loss 1).2; omega)) (by simp [AV.ids, AV.idsL, wideA]) (by simp) ?_
            simp only [List.nil_append, List.cons_append, true_and, and_true, zz0, true_implies, Nat.reduceLT, Nat.reduceLeDiff, zzI, look_nil, Nat.reduceBEq, implies_true, evS_move, evS_call, evC_value, zz14, zzD, Nat.reduceAdd, Nat.zero_add, zzF, zz32, newRow1, F_zero59, zz16, Option.some.injEq, exists_eq_left', exists_eq_left, Option.map_some, eq_self, reduceCtorEq, and_self, zzB, zzE, zz10, zz18, F_ok59, F_sz59, splice, List.append_nil, zz1, zzG, evS_assign, wides, wideA, grow, hfit, zz6, Nat.reduceEqDiff, ↓reduceIte, atsL, oksG, freeN, AV.ren, AV.renL, addRows, ORow.row, Nat.reduceMul, Nat.reduceAdd, zz9, Option.bind_some, Option.map_some, forall_eq', D.sl.injEq, S_mem, Option.some.injEq, exists_eq_left', exists_eq_left, exists_eq', exists_eq, List.length_cons, zz2]
            refine ⟨by simp, ?_⟩
            refine hK3 _ ?_; try clear hK3 K3
            refine awp_keepL [1, 2, 3, 4, 8, 10, 12, 17, 18] ?_
            simp only [zz20, zzI, look_nil, Nat.reduceBEq]
            refine awp_seq fun K3 hK3 => ?_
            refine awp_plain F_mixed [some 100, some 101, some 99, some 102, some 103, some 19, some 20] rfl ?_
            simp only [List.nil_append, List.cons_append, true_and, and_true, zz0, true_implies, Nat.reduceLT, Nat.reduceLeDiff, zzI, look_nil, Nat.reduceBEq, implies_true, F_ok59, F_ag59, F_sz59, zz8, zz23, zzD, Nat.reduceAdd, Nat.zero_add, zzF, zzB, zzE, zz16, Option.some.injEq, exists_eq_left', exists_eq_left, Option.map_some, eq_self, reduceCtorEq, and_self, evS_call, evC_value, evS_move, zz14, evS_assign, wideC, wideA, zz6, Nat.reduceEqDiff, ↓reduceIte]
            refine call_go F_go27 (fun hG => Int_ ((pcs r who cur l).map (lossOf · 1)).sum) (by simp [AV.ids, AV.idsL, wideC, wideA]) (by simp) ?_
            simp only [List.nil_append, List.cons_append, true_and, and_true, zz0, true_implies, Nat.reduceLT, Nat.reduceLeDiff, zzI, look_nil, Nat.reduceBEq, implies_true, F_ok59, F_ag59, F_sz59, zz8, zz23, zzD, Nat.reduceAdd, Nat.zero_add, zzF, zzB, zzE, zz16, Option.some.injEq, exists_eq_left', exists_eq_left, Option.map_some, eq_self, reduceCtorEq, and_self, evS_call, evC_value, evS_move, zz14, evS_assign, wideC, wideA, zz6, Nat.reduceEqDiff, ↓reduceIte, atsL, oksG, freeN, AV.ren, AV.renL, addRows, ORow.row, Nat.reduceMul, Nat.reduceAdd, zz9, Option.bind_some, Option.map_some, forall_eq', D.sl.injEq, S_mem, Option.some.injEq, exists_eq_left', exists_eq_left, exists_eq', exists_eq, List.length_cons, zz2]
            refine hK3 _ ?_; try clear hK3 K3
            refine awp_keepL [1, 2, 3, 4, 8, 10, 12, 18, 19, 20] ?_
            simp only [zz20, zzI, look_nil, Nat.reduceBEq]
            refine awp_seq fun K3 hK3 => ?_
            refine awp_seq fun K4 hK4 => ?_
            refine awp_plain F_mixed [some 104, some 105, some 106, some 107, some 108, some 109] rfl ?_
            simp only [List.nil_append, List.cons_append, true_and, and_true, zz0, true_implies, Nat.reduceLT, Nat.reduceLeDiff, zzI, look_nil, Nat.reduceBEq, implies_true, Nat.reduceSub, S_getD, zz5, and_imp, imp_and, imp_self, and_self, evS_move, zz29, gr_v, zz30, zz13, zz6, Nat.reduceEqDiff, ↓reduceIte]
            refine hK4 _ ?_; try clear hK4 K4
            refine awp_keepL [1, 2, 3, 4, 8, 10, 12, 19, 109] ?_
            simp only [zz20, zzI, look_nil, Nat.reduceBEq]
            refine awp_condS _ (by decide) (by simp only [look_cons, Nat.reduceBEq, cond_true, cond_false]; rfl) ?_ ?_
            · intro hb
              have hj : rightN (lossT (pcs r who cur l) 1) = false := by have h2 := hb; simp at h2; exact h2
              clear hb
              refine awp_seq fun K5 hK5 => ?_
              refine awp_plain F_mixed [some 110, none, some 9] rfl ?_
              simp only [List.nil_append, List.cons_append, true_and, and_true, zz0, true_implies, Nat.reduceLT, Nat.reduceLeDiff, zzI, look_nil, Nat.reduceBEq, implies_true, F_zero31, F_bld31, zz7, splice, Option.getD_some, List.append_nil, zz1, zzG, zzD, zz16, Option.some.injEq, exists_eq_left', exists_eq_left, Option.map_some, eq_self, reduceCtorEq, and_self, Nat.reduceAdd, Nat.zero_add, zzF, zzB, zzE, zz10, zz18, F_ok31, F_sz31, evS_assign, zz6, Nat.reduceEqDiff, ↓reduceIte]
              refine hK5 _ ?_; try clear hK5 K5
              refine awp_keepL [8, 9] ?_
              simp only [zz20, zzI, look_nil, Nat.reduceBEq]
              refine awp_ret ?_
              simp only [zz6, Nat.reduceEqDiff, ↓reduceIte]
              try simp only [List.append_nil]
              refine done0 (by simp [resCs, resC, S, List.getD, look_cons, lookR, F_ag31, F_sz31, F_ok31]) ?_ (by simp [flatA, flatAs, flatD, lossA]) (by simp [AV.ids, AV.idsL, lossA])
              simp only [List.map_cons, List.map_nil, resA, S_getD, S_mem, lookR_cons, lookR_nil, Nat.reduceLT, Nat.reduceLeDiff, look_cons, Nat.reduceBEq, cond_true, cond_false, resAll, List.getD_cons_zero, List.getD_cons_succ, List.drop_zero, List.drop_succ_cons, List.take_succ_cons, List.take_zero, F_ag31, F_sz31, F_ok31]
              have e : lossE r who cur l = 1 := by simp [lossE, hE, lossOk, hj]
              have v : ∀ j, lossV r who cur l j = 0 := fun j => by simp [lossV, e]
              simp only [lossA, v, e]; try rfl
            · intro hb
              have hj : rightN (lossT (pcs r who cur l) 1) = true := by have h2 := hb; simp at h2; exact h2
              clear hb
              simp only [show rightN (List.map (fun x => lossOf x 1) (pcs r who cur l)).sum = true from hj, cond_true]
              have h1 := hj
              refine awp_skip ?_
              simp only [zz6, Nat.reduceEqDiff, ↓reduceIte]
              refine hK3 _ ?_; try clear hK3 K3
              refine awp_keepL [1, 2, 3, 4, 8, 10, 12, 19] ?_
              simp only [zz20, zzI, look_nil, Nat.reduceBEq]
              refine awp_plain F_mixed [some 111, some 112, some 113, none] rfl ?_
              simp only [List.nil_append, List.cons_append, true_and, and_true, zz0, true_implies, Nat.reduceLT, Nat.reduceLeDiff, zzI, look_nil, Nat.reduceBEq, implies_true, evS_move, evS_indexAddr, zz23, zz15, F_arr31, F_sz3, zz16, Option.some.injEq, exists_eq_left', exists_eq_left, Option.map_some, eq_self, reduceCtorEq, and_self, zz18, F_ok3, splice, List.append_nil, zzD, Nat.reduceAdd, Nat.zero_add, zzF, zzB, zzE, zz1, zzG, Int.reduceToNat, Int.reduceLT, Int.reduceLE, cast6, Nat.reduceMul, zz6, Nat.reduceEqDiff, ↓reduceIte]
              refine hK2 _ ?_; try clear hK2 K2
              refine awp_keepL [1, 2, 3, 4, 8, 10, 12] ?_
              simp only [zz20, zzI, look_nil, Nat.reduceBEq]
              refine awp_plain F_mixed [some 41, some 42, some 12] rfl ?_
              simp only [List.nil_append, List.cons_append, true_and, and_true, zz0, true_implies, Nat.reduceLT, Nat.reduceLeDiff, zzI, look_nil, Nat.reduceBEq, implies_true, evS_move, zz21, gr_v, zz26, evS_assign, zz6, Nat.reduceEqDiff, ↓reduceIte]
              refine ⟨4, _, by decide, le_SK id [] rfl (l' := [(1, .d (iv who)), (2, .d (iv cur)), (3, .d (poss l)), (4, .ptr 4 0 0), (8, .ptr 8 0 0), (10, .ptr 10 0 0), (12, .d (iv 2))]) (m' := [(4, (⟨True, 26, 3, true, false, 4, [[.d (.sl 3 (r.mems.map memC)), .d (.sl 12 (r.insts.map instC)), .d (.sl 4 (r.assets.map assetC))]]⟩ : ARow)), (8, (⟨True, 31, 6, true, false, 8, [[.d (.v (.int .i64 0)), .d (.v (.int .i64 0)), .d (.v (.int .i64 0)), .d (.v (.int .i64 0)), .d (.v (.int .i64 0)), .d (.v (.int .i64 0))]]⟩ : ARow)), (10, (⟨True, 31, 6, true, false, 10, [[.d (iv (lossT (pcs r who cur l) 0)), .d (iv (lossT (pcs r who cur l) 1)), .d (.v (.int .i64 0)), .d (.v (.int .i64 0)), .d (.v (.int .i64 0)), .d (.v (.int .i64 0))]]⟩ : ARow))]) ?_ ?_ ?_ ?_, .inr (.inr (.inl (⟨rfl, h0, h1, rfl⟩)))⟩
              · simp only [leV, look_cons, Nat.reduceBEq, cond_true, cond_false]; exact ⟨VLe.refl _, VLe.refl _, VLe.refl _, VLe.refl _, VLe.refl _, VLe.refl _, VLe.refl _, trivial⟩
              · exact ⟨fun _ => ⟨_, rfl, ⟨id, rfl, rfl, rfl, id, .inl, VLess.refl _⟩⟩, fun h => by simp at h, fun _ => ⟨_, rfl, ⟨id, rfl, rfl, rfl, id, .inl, VLess.refl _⟩⟩, fun h => by simp at h, fun _ => ⟨_, rfl, ⟨id, rfl, rfl, rfl, id, .inl, VLess.refl _⟩⟩, fun h => by simp at h, trivial⟩
              · simp [wfV, AV.ids, AV.idsL, lookR]
              · simp [wfR, AV.idsL, AV.ids]
        · intro hb
          simp at hb
      · skip
        refine awp_seq fun K2 hK2 => ?_
        refine awp_seq fun K3 hK3 => ?_
        refine awp_plain F_mixed [some 39, some 40] rfl ?_
        simp only [List.nil_append, List.cons_append, true_and, and_true, zz0, true_implies, Nat.reduceLT, Nat.reduceLeDiff, zzI, look_nil, Nat.reduceBEq, implies_true, evS_move, zz21, gr_v, zz22, zz6, Nat.reduceEqDiff, ↓reduceIte]
        refine hK3 _ ?_; try clear hK3 K3
        refine awp_keepL [1, 2, 3, 4, 8, 10, 12, 40] ?_
        simp only [zz20, zzI, look_nil, Nat.reduceBEq]
        refine awp_condS _ (by decide) (by simp only [look_cons, Nat.reduceBEq, cond_true, cond_false]; rfl) ?_ ?_
        · intro hb
          clear hb
          refine awp_skip ?_
          simp only [zz6, Nat.reduceEqDiff, ↓reduceIte]
          refine hK2 _ ?_; try clear hK2 K2
          refine awp_keepL [1, 2, 3, 4, 8, 10, 12] ?_
          simp only [zz20, zzI, look_nil, Nat.reduceBEq]
          refine awp_seq fun K2 hK2 => ?_
          refine awp_block ?_
          refine awp_seq fun K3 hK3 => ?_
          refine awp_plain F_mixed [some 13] rfl ?_
          simp only [List.nil_append, List.cons_append, true_and, and_true, zz0, true_implies, Nat.reduceLT, Nat.reduceLeDiff, zzI, look_nil, Nat.reduceBEq, implies_true, evS_assign, zz6, Nat.reduceEqDiff, ↓reduceIte]
          refine hK3 _ ?_; try clear hK3 K3
          refine awp_keepL [1, 2, 3, 4, 8, 10, 12, 13] ?_
          simp only [zz20, zzI, look_nil, Nat.reduceBEq]
          refine awp_seq fun K3 hK3 => ?_
          refine awp_seq fun K4 hK4 => ?_
          refine awp_plain F_mixed [some 14] rfl ?_
          simp only [List.nil_append, List.cons_append, true_and, and_true, zz0, true_implies, Nat.reduceLT, Nat.reduceLeDiff, zzI, look_nil, Nat.reduceBEq, implies_true, evS_assign, zz6, Nat.reduceEqDiff, ↓reduceIte]
          refine hK4 _ ?_; try clear hK4 K4
          refine awp_keepL [1, 2, 3, 4, 8, 10, 12, 13, 14] ?_
          simp only [zz20, zzI, look_nil, Nat.reduceBEq]
          refine awp_block ?_
          refine awp_loop (fun m s => ∃ pre post : List PosV, l = pre ++ post ∧ m = post.length ∧ s = S 115 [(1, .d (iv who)), (2, .d (iv cur)), (3, .d (poss (pre ++ post))), (4, .ptr 4 0 0), (8, .ptr 8 0 0), (10, .ptr 10 0 0), (12, .d (iv 2)), (13, .ref 13 (pcs r who cur pre).length), (14, .d (iv pre.length))] [(4, (⟨True, 26, 3, true, false, 4, [[.d (.sl 3 (r.mems.map memC)), .d (.sl 12 (r.insts.map instC)), .d (.sl 4 (r.assets.map assetC))]]⟩ : ARow)), (8, (⟨True, 31, 6, true, false, 8, [[.d (.v (.int .i64 0)), .d (.v (.int .i64 0)), .d (.v (.int .i64 0)), .d (.v (.int .i64 0)), .d (.v (.int .i64 0)), .d (.v (.int .i64 0))]]⟩ : ARow)), (10, (⟨True, 31, 6, true, false, 10, [[.d (iv (lossT (pcs r who cur l) 0)), .d (iv (lossT (pcs r who cur l) 1)), .d (.v (.int .i64 0)), .d (.v (.int .i64 0)), .d (.v (.int .i64 0)), .d (.v (.int .i64 0))]]⟩ : ARow)), (13, grow 59 2 13 (((pcs r who cur pre).map (lossOf · 2)).map wideC))]) l.length _ (le_SK id [13] rfl (l' := [(1, .d (iv who)), (2, .d (iv cur)), (3, .d (poss (([] : List PosV) ++ l))), (4, .ptr 4 0 0), (8, .ptr 8 0 0), (10, .ptr 10 0 0), (12, .d (iv 2)), (13, .ref 13 (pcs r who cur ([] : List PosV)).length), (14, .d (iv ([] : List PosV).length))]) (m' := [(4, (⟨True, 26, 3, true, false, 4, [[.d (.sl 3 (r.mems.map memC)), .d (.sl 12 (r.insts.map instC)), .d (.sl 4 (r.assets.map assetC))]]⟩ : ARow)), (8, (⟨True, 31, 6, true, false, 8, [[.d (.v (.int .i64 0)), .d (.v (.int .i64 0)), .d (.v (.int .i64 0)), .d (.v (.int .i64 0)), .d (.v (.int .i64 0)), .d (.v (.int .i64 0))]]⟩ : ARow)), (10, (⟨True, 31, 6, true, false, 10, [[.d (iv (lossT (pcs r who cur l) 0)), .d (iv (lossT (pcs r who cur l) 1)), .d (.v (.int .i64 0)), .d (.v (.int .i64 0)), .d (.v (.int .i64 0)), .d (.v (.int .i64 0))]]⟩ : ARow)), (13, grow 59 2 13 (((pcs r who cur ([] : List PosV)).map (lossOf · 2)).map wideC))]) ?_ ?_ ?_ ?_) ⟨[], l, rfl, rfl, rfl⟩ ?_
          · simp only [leV, look_cons, Nat.reduceBEq, cond_true, cond_false, List.nil_append]; exact ⟨VLe.still rfl, VLe.still rfl, VLe.still rfl, VLe.ptr_ (f := id) (r := 4) (by simp), VLe.ptr_ (f := id) (r := 8) (by simp), VLe.ptr_ (f := id) (r := 10) (by simp), VLe.still rfl, VLe.nil_ (by decide), VLe.still rfl, trivial⟩
          · exact ⟨fun _ => ⟨_, rfl, RowLe.still (by simp [AV.idsL, AV.ids])⟩, fun h => by simp at h, fun _ => ⟨_, rfl, RowLe.still (by simp [AV.idsL, AV.ids])⟩, fun h => by simp at h, fun _ => ⟨_, rfl, RowLe.still (by simp [AV.idsL, AV.ids])⟩, fun h => by simp at h, fun h => by simp at h, fun _ => rfl, trivial⟩
          · simp [wfV, AV.ids, lookR]
          · simp [wfR, grow, pcs, AV.idsL, AV.ids]
          rintro m s ⟨pre, post, hsp, rfl, rfl⟩
          have hppl := pcs_len r who cur pre
          refine awp_seq fun K5 hK5 => ?_
          refine awp_seq fun K6 hK6 => ?_
          refine awp_plain F_mixed [some 43, some 44, some 45, some 46] rfl ?_
          simp only [List.nil_append, List.cons_append, true_and, and_true, zz0, true_implies, Nat.reduceLT, Nat.reduceLeDiff, zzI, look_nil, Nat.reduceBEq, implies_true, evS_move, evS_call, zz12, F_sl27, Option.isSome_some, zz21, gr_v, zz22, poss, len_map, zz6, Nat.reduceEqDiff, ↓reduceIte]
          refine hK6 _ ?_; try clear hK6 K6
          refine awp_keepL [1, 2, 3, 4, 8, 10, 12, 13, 14, 46] ?_
          simp only [zz20, zzI, look_nil, Nat.reduceBEq]
          refine awp_condS _ (by decide) (by simp only [look_cons, Nat.reduceBEq, cond_true, cond_false]; rfl) ?_ ?_
          · intro hb
            obtain ⟨x, post, rfl⟩ := more_of hb; clear hb
            refine awp_skip ?_
            simp only [zz6, Nat.reduceEqDiff, ↓reduceIte]
            refine hK5 _ ?_; try clear hK5 K5
            refine awp_keepL [1, 2, 3, 4, 8, 10, 12, 13, 14] ?_
            simp only [zz20, zzI, look_nil, Nat.reduceBEq]
            refine awp_seq fun K5 hK5 => ?_
            refine awp_block ?_
            refine awp_seq fun K6 hK6 => ?_
            refine awp_draw F_mixed [some 50, some 51, some 52, some 53, some 54, some 55, some 56, some 57, some 49, some 58, some 59, some 15, none, some 16] rfl (by kernel_rfl) ?_
            simp only [List.nil_append, List.cons_append, true_and, and_true, zz0, true_implies, Nat.reduceLT, Nat.reduceLeDiff, zzI, look_nil, Nat.reduceBEq, implies_true, F_ok26, F_ag26, F_sz26, zz8, zz23, zzD, Nat.reduceAdd, Nat.zero_add, zzF, zzB, zzE, zz16, Option.some.injEq, exists_eq_left', exists_eq_left, Option.map_some, eq_self, reduceCtorEq, and_self, evS_move, evS_indexAddr, zz24, F_sl27, F_sz46, zz19, F_off46_0, F_off44_1, F_ok3, F_ag3, F_sz3, evS_call, evC_value, zz14, zz32, newRow1, F_zero49, zz10, zz18, F_ok49, F_sz49, splice, List.append_nil, zz1, zzG, evS_assign, poss, posC, getD_mid, len_map, lt_mid, ge_mid, memsD, instsD, assetsD, rollC, D.agg.injEq, memA, memC, instA, instC, List.map_cons, zz6, Nat.reduceEqDiff, ↓reduceIte]
            refine call_go F_go24 (fun hG => rInst_ r.mems r.insts r.assets x.inst h.insts) (by simp [AV.ids, AV.idsL, instA, instC]) (by simp) ?_
            simp only [List.nil_append, List.cons_append, true_and, and_true, zz0, true_implies, Nat.reduceLT, Nat.reduceLeDiff, zzI, look_nil, Nat.reduceBEq, implies_true, F_ok26, F_ag26, F_sz26, zz8, zz23, zzD, Nat.reduceAdd, Nat.zero_add, zzF, zzB, zzE, zz16, Option.some.injEq, exists_eq_left', exists_eq_left, Option.map_some, eq_self, reduceCtorEq, and_self, evS_move, evS_indexAddr, zz24, F_sl27, F_sz46, zz19, F_off46_0, F_off44_1, F_ok3, F_ag3, F_sz3, evS_call, evC_value, zz14, zz32, newRow1, F_zero49, zz10, zz18, F_ok49, F_sz49, splice, List.append_nil, zz1, zzG, evS_assign, poss, posC, getD_mid, len_map, lt_mid, ge_mid, memsD, instsD, assetsD, rollC, D.agg.injEq, memA, memC, instA, instC, List.map_cons, zz6, Nat.reduceEqDiff, ↓reduceIte, atsL, oksG, freeN, AV.ren, AV.renL, addRows, ORow.row, Nat.reduceMul, Nat.reduceAdd, zz9, Option.bind_some, Option.map_some, forall_eq', D.sl.injEq, S_mem, Option.some.injEq, exists_eq_left', exists_eq_left, exists_eq', exists_eq, List.length_cons, zz2]
            refine hK6 _ ?_; try clear hK6 K6
            refine awp_keepL [1, 2, 3, 4, 8, 10, 12, 13, 14, 15, 16] ?_
            simp only [zz20, zzI, look_nil, Nat.reduceBEq]
            refine awp_seq fun K6 hK6 => ?_
            refine awp_plain F_mixed [some 60, some 61, some 62, some 63, some 64, some 65, some 66, some 67, some 68, some 69, some 70, some 71, some 72, some 73, some 74, some 75, some 76] rfl ?_
            simp only [List.nil_append, List.cons_append, true_and, and_true, zz0, true_implies, Nat.reduceLT, Nat.reduceLeDiff, zzI, look_nil, Nat.reduceBEq, implies_true, Nat.reduceSub, S_getD, zz5, and_imp, imp_and, imp_self, and_self, evS_move, evS_indexAddr, zz23, zz24, F_sl27, F_sz46, Option.map_some, zz16, Option.some.injEq, exists_eq_left', exists_eq_left, eq_self, reduceCtorEq, zz19, F_off46_0, zzB, Nat.zero_add, Nat.reduceAdd, F_off44_0, F_ok3, F_ag3, F_sz3, zz8, zzD, zzF, zzE, zz21, gr_v, zz34, zz13, F_off49_1, poss, posC, getD_mid, len_map, lt_mid, ge_mid, zz6, Nat.reduceEqDiff, ↓reduceIte]
            refine hK6 _ ?_; try clear hK6 K6
            refine awp_keepL [1, 2, 3, 4, 8, 10, 12, 13, 14, 15, 76] ?_
            simp only [zz20, zzI, look_nil, Nat.reduceBEq]
            refine awp_condS _ (by decide) (by simp only [look_cons, Nat.reduceBEq, cond_true, cond_false]; rfl) ?_ ?_
            · intro hb
              have hs : pSel r who cur x = true := hb
              clear hb
              have hx : PieceOk (pPiece r x) := pPiece_ok hr (List.all_eq_true.1 hp x (by rw [hsp]; simp)) hs
              have hb := hx.loss 2
              have hsj := hx.s 2
              have q0 := hx.q0; have q1 := hx.q1; have m0 := hx.m0; have m1 := hx.m1
              simp only [shN, pPiece] at hsj q0 q1 m0 m1 hb
              have hw : IntKind.wrap .i64 (0 - x.qty) = -x.qty := by rw [wrapI (n := 0 - x.qty) (by omega) (by omega)]; omega
              have hm2 := abs_mul (a := (findX InstV.no x.inst zInst r.insts).mult) (b := (findX InstV.no x.inst zInst r.insts).s2) (x := 1024) (y := 1073741824) (by omega) (by omega)
              have hw2 : IntKind.wrap .i64 ((findX InstV.no x.inst zInst r.insts).mult * (findX InstV.no x.inst zInst r.insts).s2) = (findX InstV.no x.inst zInst r.insts).mult * (findX InstV.no x.inst zInst r.insts).s2 := wrapI (by omega) (by omega)
              refine awp_draw F_mixed [some 77, some 78, some 79, some 80, some 81, some 82, some 83, some 84, some 85, some 86, some 87, some 88, some 89, some 90, some 91, some 92, some 93, some 13] rfl (by kernel_rfl) ?_
              simp only [List.nil_append, List.cons_append, true_and, and_true, zz0, true_implies, Nat.reduceLT, Nat.reduceLeDiff, zzI, look_nil, Nat.reduceBEq, implies_true, evS_move, evS_indexAddr, zz23, zz24, F_sl27, F_sz46, Option.map_some, zz16, Option.some.injEq, exists_eq_left', exists_eq_left, eq_self, reduceCtorEq, and_self, zz19, F_off46_1, zzB, Nat.zero_add, Nat.reduceAdd, F_ok3, F_ag3, F_sz3, zz8, zzD, zzF, zzE, zz29, gr_v, zz37, F_off49_2, F_off49_6, zz15, F_arr31, zz21, zz36, evS_call, evC_value, F_sl54, F_zero59, F_sz59, zz3, newRow1, zz1, zzG, maxLen_le, Nat.reduceMul, F_by59, zz4, zz9, Option.bind_some, evS_assign, poss, posC, getD_mid, len_map, lt_mid, ge_mid, hw, hw2, wideA, grow, D.agg.injEq, unDs_map, Int.reduceToNat, Int.reduceLT, Int.reduceLE, cast6, Nat.reduceMul, zz6, Nat.reduceEqDiff, ↓reduceIte]
              refine call_go F_go25 (fun hG => rTimes_ (-x.qty) ((findX InstV.no x.inst zInst r.insts).mult * (findX InstV.no x.inst zInst r.insts).s2) (by omega) (by omega) (by omega) (by omega)) (by simp [AV.ids, AV.idsL, wideA]) (by simp) ?_
              simp only [List.nil_append, List.cons_append, true_and, and_true, zz0, true_implies, Nat.reduceLT, Nat.reduceLeDiff, zzI, look_nil, Nat.reduceBEq, implies_true, evS_move, evS_indexAddr, zz23, zz24, F_sl27, F_sz46, Option.map_some, zz16, Option.some.injEq, exists_eq_left', exists_eq_left, eq_self, reduceCtorEq, and_self, zz19, F_off46_1, zzB, Nat.zero_add, Nat.reduceAdd, F_ok3, F_ag3, F_sz3, zz8, zzD, zzF, zzE, zz29, gr_v, zz37, F_off49_2, F_off49_6, zz15, F_arr31, zz21, zz36, evS_call, evC_value, F_sl54, F_zero59, F_sz59, zz3, newRow1, zz1, zzG, maxLen_le, Nat.reduceMul, F_by59, zz4, zz9, Option.bind_some, evS_assign, poss, posC, getD_mid, len_map, lt_mid, ge_mid, hw, hw2, wideA, grow, D.agg.injEq, unDs_map, Int.reduceToNat, Int.reduceLT, Int.reduceLE, cast6, Nat.reduceMul, zz6, Nat.reduceEqDiff, ↓reduceIte, atsL, oksG, freeN, AV.ren, AV.renL, addRows, ORow.row, Nat.reduceMul, Nat.reduceAdd, unDs_cons, Option.bind_some, Option.map_some, forall_eq', D.sl.injEq, S_mem, Option.some.injEq, exists_eq_left', exists_eq_left, exists_eq', exists_eq, List.length_cons, zz2]
              have hm : (pcs r who cur pre).length + 1 ≤ 1000000 := by have e := congrArg List.length hsp; simp only [List.length_append, List.length_cons] at e; omega
              first | refine ⟨le_maxLen hm, by omega, ?_⟩ | refine ⟨by simp, le_maxLen hm, by omega, ?_⟩
              clear hm
              refine hK5 _ ?_; try clear hK5 K5
              refine awp_keepL [1, 2, 3, 4, 8, 10, 12, 13, 14] ?_
              simp only [zz20, zzI, look_nil, Nat.reduceBEq]
              refine awp_plain F_mixed [some 47, some 48, some 14] rfl ?_
              simp only [List.nil_append, List.cons_append, true_and, and_true, zz0, true_implies, Nat.reduceLT, Nat.reduceLeDiff, zzI, look_nil, Nat.reduceBEq, implies_true, evS_move, zz21, gr_v, zz26, evS_assign, zz6, Nat.reduceEqDiff, ↓reduceIte]
              refine ⟨post.length, _, by simp, le_SK (fun r => bif r == 13 then 93 else r) [] rfl (l' := [(1, .d (iv who)), (2, .d (iv cur)), (3, .d (poss ((pre ++ [x]) ++ post))), (4, .ptr 4 0 0), (8, .ptr 8 0 0), (10, .ptr 10 0 0), (12, .d (iv 2)), (13, .ref 13 (pcs r who cur (pre ++ [x])).length), (14, .d (iv (pre ++ [x]).length))]) (m' := [(4, (⟨True, 26, 3, true, false, 4, [[.d (.sl 3 (r.mems.map memC)), .d (.sl 12 (r.insts.map instC)), .d (.sl 4 (r.assets.map assetC))]]⟩ : ARow)), (8, (⟨True, 31, 6, true, false, 8, [[.d (.v (.int .i64 0)), .d (.v (.int .i64 0)), .d (.v (.int .i64 0)), .d (.v (.int .i64 0)), .d (.v (.int .i64 0)), .d (.v (.int .i64 0))]]⟩ : ARow)), (10, (⟨True, 31, 6, true, false, 10, [[.d (iv (lossT (pcs r who cur l) 0)), .d (iv (lossT (pcs r who cur l) 1)), .d (.v (.int .i64 0)), .d (.v (.int .i64 0)), .d (.v (.int .i64 0)), .d (.v (.int .i64 0))]]⟩ : ARow)), (13, grow 59 2 13 (((pcs r who cur (pre ++ [x])).map (lossOf · 2)).map wideC))]) ?_ ?_ ?_ ?_, pre ++ [x], post, by simp [hsp], rfl, rfl⟩
              · simp only [leV, look_cons, Nat.reduceBEq, cond_true, cond_false, poss, len_map, List.append_assoc, List.singleton_append, wrap_len pre x (by have e := congrArg List.length hsp; simp only [List.length_append, List.length_cons, List.length_map] at e; omega)]
                refine ⟨VLe.still rfl, VLe.still rfl, VLe.still rfl, VLe.ptr_ (f := (fun r => bif r == 13 then 93 else r)) (r := 4) (by simp), VLe.ptr_ (f := (fun r => bif r == 13 then 93 else r)) (r := 8) (by simp), VLe.ptr_ (f := (fun r => bif r == 13 then 93 else r)) (r := 10) (by simp), VLe.still rfl, ?_, VLe.still rfl, trivial⟩
                rw [pcs_yes hs]
                rw [show (AV.ref 93 _ : AV) = .ref ((fun r => bif r == 13 then 93 else r) 13) (pcs r who cur pre ++ [pPiece r x]).length from by simp]; try exact VLe.ref_ (f := (fun r => bif r == 13 then 93 else r)) (r := 13) (by simp)
              · exact ⟨fun _ => ⟨_, rfl, RowLe.still (by simp [AV.idsL, AV.ids])⟩, fun h => by simp at h, fun _ => ⟨_, rfl, RowLe.still (by simp [AV.idsL, AV.ids])⟩, fun h => by simp at h, fun _ => ⟨_, rfl, RowLe.still (by simp [AV.idsL, AV.ids])⟩, fun h => by simp at h, fun _ => ⟨_, rfl, RowLe.data_ (by rw [pcs_yes hs] <;> simp [wideC, lossOf, shN, pPiece, Int.mul_assoc])⟩, fun h => by simp at h, trivial⟩
              · simp [wfV, AV.ids, lookR, grow]
              · exact ⟨by simp [AV.idsL, AV.ids], by simp [AV.idsL, AV.ids], by simp [AV.idsL, AV.ids], wf_data _ _, trivial⟩
            · intro hb
              have hs : pSel r who cur x = false := hb
              clear hb
              refine awp_skip ?_
              simp only [zz6, Nat.reduceEqDiff, ↓reduceIte]
              refine hK5 _ ?_; try clear hK5 K5
              refine awp_keepL [1, 2, 3, 4, 8, 10, 12, 13, 14] ?_
              simp only [zz20, zzI, look_nil, Nat.reduceBEq]
              refine awp_plain F_mixed [some 47, some 48, some 14] rfl ?_
              simp only [List.nil_append, List.cons_append, true_and, and_true, zz0, true_implies, Nat.reduceLT, Nat.reduceLeDiff, zzI, look_nil, Nat.reduceBEq, implies_true, evS_move, zz21, gr_v, zz26, evS_assign, zz6, Nat.reduceEqDiff, ↓reduceIte]
              refine ⟨post.length, _, by simp, le_SK (fun r => bif r == 13 then 13 else r) [] rfl (l' := [(1, .d (iv who)), (2, .d (iv cur)), (3, .d (poss ((pre ++ [x]) ++ post))), (4, .ptr 4 0 0), (8, .ptr 8 0 0), (10, .ptr 10 0 0), (12, .d (iv 2)), (13, .ref 13 (pcs r who cur (pre ++ [x])).length), (14, .d (iv (pre ++ [x]).length))]) (m' := [(4, (⟨True, 26, 3, true, false, 4, [[.d (.sl 3 (r.mems.map memC)), .d (.sl 12 (r.insts.map instC)), .d (.sl 4 (r.assets.map assetC))]]⟩ : ARow)), (8, (⟨True, 31, 6, true, false, 8, [[.d (.v (.int .i64 0)), .d (.v (.int .i64 0)), .d (.v (.int .i64 0)), .d (.v (.int .i64 0)), .d (.v (.int .i64 0)), .d (.v (.int .i64 0))]]⟩ : ARow)), (10, (⟨True, 31, 6, true, false, 10, [[.d (iv (lossT (pcs r who cur l) 0)), .d (iv (lossT (pcs r who cur l) 1)), .d (.v (.int .i64 0)), .d (.v (.int .i64 0)), .d (.v (.int .i64 0)), .d (.v (.int .i64 0))]]⟩ : ARow)), (13, grow 59 2 13 (((pcs r who cur (pre ++ [x])).map (lossOf · 2)).map wideC))]) ?_ ?_ ?_ ?_, pre ++ [x], post, by simp [hsp], rfl, rfl⟩
              · simp only [leV, look_cons, Nat.reduceBEq, cond_true, cond_false, poss, len_map, List.append_assoc, List.singleton_append, wrap_len pre x (by have e := congrArg List.length hsp; simp only [List.length_append, List.length_cons, List.length_map] at e; omega)]
                refine ⟨VLe.still rfl, VLe.still rfl, VLe.still rfl, VLe.ptr_ (f := (fun r => bif r == 13 then 13 else r)) (r := 4) (by simp), VLe.ptr_ (f := (fun r => bif r == 13 then 13 else r)) (r := 8) (by simp), VLe.ptr_ (f := (fun r => bif r == 13 then 13 else r)) (r := 10) (by simp), VLe.still rfl, ?_, VLe.still rfl, trivial⟩
                rw [pcs_no hs]
                rw [show (AV.ref 13 _ : AV) = .ref ((fun r => bif r == 13 then 13 else r) 13) (pcs r who cur pre).length from by simp]; try exact VLe.ref_ (f := (fun r => bif r == 13 then 13 else r)) (r := 13) (by simp)
              · exact ⟨fun _ => ⟨_, rfl, RowLe.still (by simp [AV.idsL, AV.ids])⟩, fun h => by simp at h, fun _ => ⟨_, rfl, RowLe.still (by simp [AV.idsL, AV.ids])⟩, fun h => by simp at h, fun _ => ⟨_, rfl, RowLe.still (by simp [AV.idsL, AV.ids])⟩, fun h => by simp at h, fun _ => ⟨_, rfl, RowLe.data_ (by rw [pcs_no hs] <;> simp [wideC, lossOf, shN, pPiece, Int.mul_assoc])⟩, fun h => by simp at h, trivial⟩
              · simp [wfV, AV.ids, lookR, grow]
              · exact ⟨by simp [AV.idsL, AV.ids], by simp [AV.idsL, AV.ids], by simp [AV.idsL, AV.ids], wf_data _ _, trivial⟩
          · intro hb
            obtain rfl := none_of hb; clear hb
            simp only [List.append_nil] at hsp ⊢
            obtain rfl : l = pre := hsp
            refine awp_exit ?_
            simp only [zz6, Nat.reduceEqDiff, ↓reduceIte]
            refine hK3 _ ?_; try clear hK3 K3
            refine awp_keepL [1, 2, 3, 4, 8, 10, 12, 13] ?_
            simp only [zz20, zzI, look_nil, Nat.reduceBEq]
            refine awp_seq fun K3 hK3 => ?_
            refine awp_plain F_mixed [some 95, some 96, some 94, some 97, some 98, some 17, none, some 18] rfl ?_
            simp only [List.nil_append, List.cons_append, true_and, and_true, zz0, true_implies, Nat.reduceLT, Nat.reduceLeDiff, zzI, look_nil, Nat.reduceBEq, implies_true, evS_move, evS_call, evC_value, zz14, zzD, Nat.reduceAdd, Nat.zero_add, zzF, zz32, newRow1, F_zero59, zz16, Option.some.injEq, exists_eq_left', exists_eq_left, Option.map_some, eq_self, reduceCtorEq, and_self, zzB, zzE, zz10, zz18, F_ok59, F_sz59, splice, List.append_nil, zz1, zzG, evS_assign, wides, wideA, grow, hfit, zz6, Nat.reduceEqDiff, ↓reduceIte]
            refine call_go F_go26 (fun hG => WSum_ ((pcs r who cur l).map (lossOf · 2)) (by simp; omega) (fun y hy => by obtain ⟨x, hx, rfl⟩ := List.mem_map.1 hy; have := ((hps x hx).loss 2).2; omega)) (by simp [AV.ids, AV.idsL, wideA]) (by simp) ?_
            simp only [List.nil_append, List.cons_append, true_and, and_true, zz0, true_implies, Nat.reduceLT, Nat.reduceLeDiff, zzI, look_nil, Nat.reduceBEq, implies_true, evS_move, evS_call, evC_value, zz14, zzD, Nat.reduceAdd, Nat.zero_add, zzF, zz32, newRow1, F_zero59, zz16, Option.some.injEq, exists_eq_left', exists_eq_left, Option.map_some, eq_self, reduceCtorEq, and_self, zzB, zzE, zz10, zz18, F_ok59, F_sz59, splice, List.append_nil, zz1, zzG, evS_assign, wides, wideA, grow, hfit, zz6, Nat.reduceEqDiff, ↓reduceIte, atsL, oksG, freeN, AV.ren, AV.renL, addRows, ORow.row, Nat.reduceMul, Nat.reduceAdd, zz9, Option.bind_some, Option.map_some, forall_eq', D.sl.injEq, S_mem, Option.some.injEq, exists_eq_left', exists_eq_left, exists_eq', exists_eq, List.length_cons, zz2]
            refine ⟨by simp, ?_⟩
            refine hK3 _ ?_; try clear hK3 K3
            refine awp_keepL [1, 2, 3, 4, 8, 10, 12, 17, 18] ?_
            simp only [zz20, zzI, look_nil, Nat.reduceBEq]
            refine awp_seq fun K3 hK3 => ?_
            refine awp_plain F_mixed [some 100, some 101, some 99, some 102, some 103, some 19, some 20] rfl ?_
            simp only [List.nil_append, List.cons_append, true_and, and_true, zz0, true_implies, Nat.reduceLT, Nat.reduceLeDiff, zzI, look_nil, Nat.reduceBEq, implies_true, F_ok59, F_ag59, F_sz59, zz8, zz23, zzD, Nat.reduceAdd, Nat.zero_add, zzF, zzB, zzE, zz16, Option.some.injEq, exists_eq_left', exists_eq_left, Option.map_some, eq_self, reduceCtorEq, and_self, evS_call, evC_value, evS_move, zz14, evS_assign, wideC, wideA, zz6, Nat.reduceEqDiff, ↓reduceIte]
            refine call_go F_go27 (fun hG => Int_ ((pcs r who cur l).map (lossOf · 2)).sum) (by simp [AV.ids, AV.idsL, wideC, wideA]) (by simp) ?_
            simp only [List.nil_append, List.cons_append, true_and, and_true, zz0, true_implies, Nat.reduceLT, Nat.reduceLeDiff, zzI, look_nil, Nat.reduceBEq, implies_true, F_ok59, F_ag59, F_sz59, zz8, zz23, zzD, Nat.reduceAdd, Nat.zero_add, zzF, zzB, zzE, zz16, Option.some.injEq, exists_eq_left', exists_eq_left, Option.map_some, eq_self, reduceCtorEq, and_self, evS_call, evC_value, evS_move, zz14, evS_assign, wideC, wideA, zz6, Nat.reduceEqDiff, ↓reduceIte, atsL, oksG, freeN, AV.ren, AV.renL, addRows, ORow.row, Nat.reduceMul, Nat.reduceAdd, zz9, Option.bind_some, Option.map_some, forall_eq', D.sl.injEq, S_mem, Option.some.injEq, exists_eq_left', exists_eq_left, exists_eq', exists_eq, List.length_cons, zz2]
            refine hK3 _ ?_; try clear hK3 K3
            refine awp_keepL [1, 2, 3, 4, 8, 10, 12, 18, 19, 20] ?_
            simp only [zz20, zzI, look_nil, Nat.reduceBEq]
            refine awp_seq fun K3 hK3 => ?_
            refine awp_seq fun K4 hK4 => ?_
            refine awp_plain F_mixed [some 104, some 105, some 106, some 107, some 108, some 109] rfl ?_
            simp only [List.nil_append, List.cons_append, true_and, and_true, zz0, true_implies, Nat.reduceLT, Nat.reduceLeDiff, zzI, look_nil, Nat.reduceBEq, implies_true, Nat.reduceSub, S_getD, zz5, and_imp, imp_and, imp_self, and_self, evS_move, zz29, gr_v, zz30, zz13, zz6, Nat.reduceEqDiff, ↓reduceIte]
            refine hK4 _ ?_; try clear hK4 K4
            refine awp_keepL [1, 2, 3, 4, 8, 10, 12, 19, 109] ?_
            simp only [zz20, zzI, look_nil, Nat.reduceBEq]
            refine awp_condS _ (by decide) (by simp only [look_cons, Nat.reduceBEq, cond_true, cond_false]; rfl) ?_ ?_
            · intro hb
              have hj : rightN (lossT (pcs r who cur l) 2) = false := by have h2 := hb; simp at h2; exact h2
              clear hb
              refine awp_seq fun K5 hK5 => ?_
              refine awp_plain F_mixed [some 110, none, some 9] rfl ?_
              simp only [List.nil_append, List.cons_append, true_and, and_true, zz0, true_implies, Nat.reduceLT, Nat.reduceLeDiff, zzI, look_nil, Nat.reduceBEq, implies_true, F_zero31, F_bld31, zz7, splice, Option.getD_some, List.append_nil, zz1, zzG, zzD, zz16, Option.some.injEq, exists_eq_left', exists_eq_left, Option.map_some, eq_self, reduceCtorEq, and_self, Nat.reduceAdd, Nat.zero_add, zzF, zzB, zzE, zz10, zz18, F_ok31, F_sz31, evS_assign, zz6, Nat.reduceEqDiff, ↓reduceIte]
              refine hK5 _ ?_; try clear hK5 K5
              refine awp_keepL [8, 9] ?_
              simp only [zz20, zzI, look_nil, Nat.reduceBEq]
              refine awp_ret ?_
              simp only [zz6, Nat.reduceEqDiff, ↓reduceIte]
              try simp only [List.append_nil]
              refine done0 (by simp [resCs, resC, S, List.getD, look_cons, lookR, F_ag31, F_sz31, F_ok31]) ?_ (by simp [flatA, flatAs, flatD, lossA]) (by simp [AV.ids, AV.idsL, lossA])
              simp only [List.map_cons, List.map_nil, resA, S_getD, S_mem, lookR_cons, lookR_nil, Nat.reduceLT, Nat.reduceLeDiff, look_cons, Nat.reduceBEq, cond_true, cond_false, resAll, List.getD_cons_zero, List.getD_cons_succ, List.drop_zero, List.drop_succ_cons, List.take_succ_cons, List.take_zero, F_ag31, F_sz31, F_ok31]
              have e : lossE r who cur l = 1 := by simp [lossE, hE, lossOk, hj]
              have v : ∀ j, lossV r who cur l j = 0 := fun j => by simp [lossV, e]
              simp only [lossA, v, e]; try rfl
            · intro hb
              have hj : rightN (lossT (pcs r who cur l) 2) = true := by have h2 := hb; simp at h2; exact h2
              clear hb
              simp only [show rightN (List.map (fun x => lossOf x 2) (pcs r who cur l)).sum = true from hj, cond_true]
              have h2 := hj
              refine awp_skip ?_
              simp only [zz6, Nat.reduceEqDiff, ↓reduceIte]
              refine hK3 _ ?_; try clear hK3 K3
              refine awp_keepL [1, 2, 3, 4, 8, 10, 12, 19] ?_
              simp only [zz20, zzI, look_nil, Nat.reduceBEq]
              refine awp_plain F_mixed [some 111, some 112, some 113, none] rfl ?_
              simp only [List.nil_append, List.cons_append, true_and, and_true, zz0, true_implies, Nat.reduceLT, Nat.reduceLeDiff, zzI, look_nil, Nat.reduceBEq, implies_true, evS_move, evS_indexAddr, zz23, zz15, F_arr31, F_sz3, zz16, Option.some.injEq, exists_eq_left', exists_eq_left, Option.map_some, eq_self, reduceCtorEq, and_self, zz18, F_ok3, splice, List.append_nil, zzD, Nat.reduceAdd, Nat.zero_add, zzF, zzB, zzE, zz1, zzG, Int.reduceToNat, Int.reduceLT, Int.reduceLE, cast6, Nat.reduceMul, zz6, Nat.reduceEqDiff, ↓reduceIte]
              refine hK2 _ ?_; try clear hK2 K2
              refine awp_keepL [1, 2, 3, 4, 8, 10, 12] ?_
              simp only [zz20, zzI, look_nil, Nat.reduceBEq]
              refine awp_plain F_mixed [some 41, some 42, some 12] rfl ?_
              simp only [List.nil_append, List.cons_append, true_and, and_true, zz0, true_implies, Nat.reduceLT, Nat.reduceLeDiff, zzI, look_nil, Nat.reduceBEq, implies_true, evS_move, zz21, gr_v, zz26, evS_assign, zz6, Nat.reduceEqDiff, ↓reduceIte]
              refine ⟨3, _, by decide, le_SK id [] rfl (l' := [(1, .d (iv who)), (2, .d (iv cur)), (3, .d (poss l)), (4, .ptr 4 0 0), (8, .ptr 8 0 0), (10, .ptr 10 0 0), (12, .d (iv 3))]) (m' := [(4, (⟨True, 26, 3, true, false, 4, [[.d (.sl 3 (r.mems.map memC)), .d (.sl 12 (r.insts.map instC)), .d (.sl 4 (r.assets.map assetC))]]⟩ : ARow)), (8, (⟨True, 31, 6, true, false, 8, [[.d (.v (.int .i64 0)), .d (.v (.int .i64 0)), .d (.v (.int .i64 0)), .d (.v (.int .i64 0)), .d (.v (.int .i64 0)), .d (.v (.int .i64 0))]]⟩ : ARow)), (10, (⟨True, 31, 6, true, false, 10, [[.d (iv (lossT (pcs r who cur l) 0)), .d (iv (lossT (pcs r who cur l) 1)), .d (iv (lossT (pcs r who cur l) 2)), .d (.v (.int .i64 0)), .d (.v (.int .i64 0)), .d (.v (.int .i64 0))]]⟩ : ARow))]) ?_ ?_ ?_ ?_, .inr (.inr (.inr (.inl (⟨rfl, h0, h1, h2, rfl⟩))))⟩
              · simp only [leV, look_cons, Nat.reduceBEq, cond_true, cond_false]; exact ⟨VLe.refl _, VLe.refl _, VLe.refl _, VLe.refl _, VLe.refl _, VLe.refl _, VLe.refl _, trivial⟩
              · exact ⟨fun _ => ⟨_, rfl, ⟨id, rfl, rfl, rfl, id, .inl, VLess.refl _⟩⟩, fun h => by simp at h, fun _ => ⟨_, rfl, ⟨id, rfl, rfl, rfl, id, .inl, VLess.refl _⟩⟩, fun h => by simp at h, fun _ => ⟨_, rfl, ⟨id, rfl, rfl, rfl, id, .inl, VLess.refl _⟩⟩, fun h => by simp at h, trivial⟩
              · simp [wfV, AV.ids, AV.idsL, lookR]
              · simp [wfR, AV.idsL, AV.ids]
        · intro hb
          simp at hb
      · skip
        refine awp_seq fun K2 hK2 => ?_
        refine awp_seq fun K3 hK3 => ?_
        refine awp_plain F_mixed [some 39, some 40] rfl ?_
        simp only [List.nil_append, List.cons_append, true_and, and_true, zz0, true_implies, Nat.reduceLT, Nat.reduceLeDiff, zzI, look_nil, Nat.reduceBEq, implies_true, evS_move, zz21, gr_v, zz22, zz6, Nat.reduceEqDiff, ↓reduceIte]
        refine hK3 _ ?_; try clear hK3 K3
        refine awp_keepL [1, 2, 3, 4, 8, 10, 12, 40] ?_
        simp only [zz20, zzI, look_nil, Nat.reduceBEq]
        refine awp_condS _ (by decide) (by simp only [look_cons, Nat.reduceBEq, cond_true, cond_false]; rfl) ?_ ?_
        · intro hb
          clear hb
          refine awp_skip ?_
          simp only [zz6, Nat.reduceEqDiff, ↓reduceIte]
          refine hK2 _ ?_; try clear hK2 K2
          refine awp_keepL [1, 2, 3, 4, 8, 10, 12] ?_
          simp only [zz20, zzI, look_nil, Nat.reduceBEq]
          refine awp_seq fun K2 hK2 => ?_
          refine awp_block ?_
          refine awp_seq fun K3 hK3 => ?_
          refine awp_plain F_mixed [some 13] rfl ?_
          simp only [List.nil_append, List.cons_append, true_and, and_true, zz0, true_implies, Nat.reduceLT, Nat.reduceLeDiff, zzI, look_nil, Nat.reduceBEq, implies_true, evS_assign, zz6, Nat.reduceEqDiff, ↓reduceIte]
          refine hK3 _ ?_; try clear hK3 K3
          refine awp_keepL [1, 2, 3, 4, 8, 10, 12, 13] ?_
          simp only [zz20, zzI, look_nil, Nat.reduceBEq]
          refine awp_seq fun K3 hK3 => ?_
          refine awp_seq fun K4 hK4 => ?_
          refine awp_plain F_mixed [some 14] rfl ?_
          simp only [List.nil_append, List.cons_append, true_and, and_true, zz0, true_implies, Nat.reduceLT, Nat.reduceLeDiff, zzI, look_nil, Nat.reduceBEq, implies_true, evS_assign, zz6, Nat.reduceEqDiff, ↓reduceIte]
          refine hK4 _ ?_; try clear hK4 K4
          refine awp_keepL [1, 2, 3, 4, 8, 10, 12, 13, 14] ?_
          simp only [zz20, zzI, look_nil, Nat.reduceBEq]
          refine awp_block ?_
          refine awp_loop (fun m s => ∃ pre post : List PosV, l = pre ++ post ∧ m = post.length ∧ s = S 115 [(1, .d (iv who)), (2, .d (iv cur)), (3, .d (poss (pre ++ post))), (4, .ptr 4 0 0), (8, .ptr 8 0 0), (10, .ptr 10 0 0), (12, .d (iv 3)), (13, .ref 13 (pcs r who cur pre).length), (14, .d (iv pre.length))] [(4, (⟨True, 26, 3, true, false, 4, [[.d (.sl 3 (r.mems.map memC)), .d (.sl 12 (r.insts.map instC)), .d (.sl 4 (r.assets.map assetC))]]⟩ : ARow)), (8, (⟨True, 31, 6, true, false, 8, [[.d (.v (.int .i64 0)), .d (.v (.int .i64 0)), .d (.v (.int .i64 0)), .d (.v (.int .i64 0)), .d (.v (.int .i64 0)), .d (.v (.int .i64 0))]]⟩ : ARow)), (10, (⟨True, 31, 6, true, false, 10, [[.d (iv (lossT (pcs r who cur l) 0)), .d (iv (lossT (pcs r who cur l) 1)), .d (iv (lossT (pcs r who cur l) 2)), .d (.v (.int .i64 0)), .d (.v (.int .i64 0)), .d (.v (.int .i64 0))]]⟩ : ARow)), (13, grow 59 2 13 (((pcs r who cur pre).map (lossOf · 3)).map wideC))]) l.length _ (le_SK id [13] rfl (l' := [(1, .d (iv who)), (2, .d (iv cur)), (3, .d (poss (([] : List PosV) ++ l))), (4, .ptr 4 0 0), (8, .ptr 8 0 0), (10, .ptr 10 0 0), (12, .d (iv 3)), (13, .ref 13 (pcs r who cur ([] : List PosV)).length), (14, .d (iv ([] : List PosV).length))]) (m' := [(4, (⟨True, 26, 3, true, false, 4, [[.d (.sl 3 (r.mems.map memC)), .d (.sl 12 (r.insts.map instC)), .d (.sl 4 (r.assets.map assetC))]]⟩ : ARow)), (8, (⟨True, 31, 6, true, false, 8, [[.d (.v (.int .i64 0)), .d (.v (.int .i64 0)), .d (.v (.int .i64 0)), .d (.v (.int .i64 0)), .d (.v (.int .i64 0)), .d (.v (.int .i64 0))]]⟩ : ARow)), (10, (⟨True, 31, 6, true, false, 10, [[.d (iv (lossT (pcs r who cur l) 0)), .d (iv (lossT (pcs r who cur l) 1)), .d (iv (lossT (pcs r who cur l) 2)), .d (.v (.int .i64 0)), .d (.v (.int .i64 0)), .d (.v (.int .i64 0))]]⟩ : ARow)), (13, grow 59 2 13 (((pcs r who cur ([] : List PosV)).map (lossOf · 3)).map wideC))]) ?_ ?_ ?_ ?_) ⟨[], l, rfl, rfl, rfl⟩ ?_
          · simp only [leV, look_cons, Nat.reduceBEq, cond_true, cond_false, List.nil_append]; exact ⟨VLe.still rfl, VLe.still rfl, VLe.still rfl, VLe.ptr_ (f := id) (r := 4) (by simp), VLe.ptr_ (f := id) (r := 8) (by simp), VLe.ptr_ (f := id) (r := 10) (by simp), VLe.still rfl, VLe.nil_ (by decide), VLe.still rfl, trivial⟩
          · exact ⟨fun _ => ⟨_, rfl, RowLe.still (by simp [AV.idsL, AV.ids])⟩, fun h => by simp at h, fun _ => ⟨_, rfl, RowLe.still (by simp [AV.idsL, AV.ids])⟩, fun h => by simp at h, fun _ => ⟨_, rfl, RowLe.still (by simp [AV.idsL, AV.ids])⟩, fun h => by simp at h, fun h => by simp at h, fun _ => rfl, trivial⟩
          · simp [wfV, AV.ids, lookR]
          · simp [wfR, grow, pcs, AV.idsL, AV.ids]
          rintro m s ⟨pre, post, hsp, rfl, rfl⟩
          have hppl := pcs_len r who cur pre
          refine awp_seq fun K5 hK5 => ?_
          refine awp_seq fun K6 hK6 => ?_
          refine awp_plain F_mixed [some 43, some 44, some 45, some 46] rfl ?_
          simp only [List.nil_append, List.cons_append, true_and, and_true, zz0, true_implies, Nat.reduceLT, Nat.reduceLeDiff, zzI, look_nil, Nat.reduceBEq, implies_true, evS_move, evS_call, zz12, F_sl27, Option.isSome_some, zz21, gr_v, zz22, poss, len_map, zz6, Nat.reduceEqDiff, ↓reduceIte]
          refine hK6 _ ?_; try clear hK6 K6
          refine awp_keepL [1, 2, 3, 4, 8, 10, 12, 13, 14, 46] ?_
          simp only [zz20, zzI, look_nil, Nat.reduceBEq]
          refine awp_condS _ (by decide) (by simp only [look_cons, Nat.reduceBEq, cond_true, cond_false]; rfl) ?_ ?_
          · intro hb
            obtain ⟨x, post, rfl⟩ := more_of hb; clear hb
            refine awp_skip ?_
            simp only [zz6, Nat.reduceEqDiff, ↓reduceIte]
            refine hK5 _ ?_; try clear hK5 K5
            refine awp_keepL [1, 2, 3, 4, 8, 10, 12, 13, 14] ?_
            simp only [zz20, zzI, look_nil, Nat.reduceBEq]
            refine awp_seq fun K5 hK5 => ?_
            refine awp_block ?_
            refine awp_seq fun K6 hK6 => ?_
            refine awp_draw F_mixed [some 50, some 51, some 52, some 53, some 54, some 55, some 56, some 57, some 49, some 58, some 59, some 15, none, some 16] rfl (by kernel_rfl) ?_
            simp only [List.nil_append, List.cons_append, true_and, and_true, zz0, true_implies, Nat.reduceLT, Nat.reduceLeDiff, zzI, look_nil, Nat.reduceBEq, implies_true, F_ok26, F_ag26, F_sz26, zz8, zz23, zzD, Nat.reduceAdd, Nat.zero_add, zzF, zzB, zzE, zz16, Option.some.injEq, exists_eq_left', exists_eq_left, Option.map_some, eq_self, reduceCtorEq, and_self, evS_move, evS_indexAddr, zz24, F_sl27, F_sz46, zz19, F_off46_0, F_off44_1, F_ok3, F_ag3, F_sz3, evS_call, evC_value, zz14, zz32, newRow1, F_zero49, zz10, zz18, F_ok49, F_sz49, splice, List.append_nil, zz1, zzG, evS_assign, poss, posC, getD_mid, len_map, lt_mid, ge_mid, memsD, instsD, assetsD, rollC, D.agg.injEq, memA, memC, instA, instC, List.map_cons, zz6, Nat.reduceEqDiff, ↓reduceIte]
            refine call_go F_go24 (fun hG => rInst_ r.mems r.insts r.assets x.inst h.insts) (by simp [AV.ids, AV.idsL, instA, instC]) (by simp) ?_
            simp only [List.nil_append, List.cons_append, true_and, and_true, zz0, true_implies, Nat.reduceLT, Nat.reduceLeDiff, zzI, look_nil, Nat.reduceBEq, implies_true, F_ok26, F_ag26, F_sz26, zz8, zz23, zzD, Nat.reduceAdd, Nat.zero_add, zzF, zzB, zzE, zz16, Option.some.injEq, exists_eq_left', exists_eq_left, Option.map_some, eq_self, reduceCtorEq, and_self, evS_move, evS_indexAddr, zz24, F_sl27, F_sz46, zz19, F_off46_0, F_off44_1, F_ok3, F_ag3, F_sz3, evS_call, evC_value, zz14, zz32, newRow1, F_zero49, zz10, zz18, F_ok49, F_sz49, splice, List.append_nil, zz1, zzG, evS_assign, poss, posC, getD_mid, len_map, lt_mid, ge_mid, memsD, instsD, assetsD, rollC, D.agg.injEq, memA, memC, instA, instC, List.map_cons, zz6, Nat.reduceEqDiff, ↓reduceIte, atsL, oksG, freeN, AV.ren, AV.renL, addRows, ORow.row, Nat.reduceMul, Nat.reduceAdd, zz9, Option.bind_some, Option.map_some, forall_eq', D.sl.injEq, S_mem, Option.some.injEq, exists_eq_left', exists_eq_left, exists_eq', exists_eq, List.length_cons, zz2]
            refine hK6 _ ?_; try clear hK6 K6
            refine awp_keepL [1, 2, 3, 4, 8, 10, 12, 13, 14, 15, 16] ?_
            simp only [zz20, zzI, look_nil, Nat.reduceBEq]
            refine awp_seq fun K6 hK6 => ?_
            refine awp_plain F_mixed [some 60, some 61, some 62, some 63, some 64, some 65, some 66, some 67, some 68, some 69, some 70, some 71, some 72, some 73, some 74, some 75, some 76] rfl ?_
            simp only [List.nil_append, List.cons_append, true_and, and_true, zz0, true_implies, Nat.reduceLT, Nat.reduceLeDiff, zzI, look_nil, Nat.reduceBEq, implies_true, Nat.reduceSub, S_getD, zz5, and_imp, imp_and, imp_self, and_self, evS_move, evS_indexAddr, zz23, zz24, F_sl27, F_sz46, Option.map_some, zz16, Option.some.injEq, exists_eq_left', exists_eq_left, eq_self, reduceCtorEq, zz19, F_off46_0, zzB, Nat.zero_add, Nat.reduceAdd, F_off44_0, F_ok3, F_ag3, F_sz3, zz8, zzD, zzF, zzE, zz21, gr_v, zz34, zz13, F_off49_1, poss, posC, getD_mid, len_map, lt_mid, ge_mid, zz6, Nat.reduceEqDiff, ↓reduceIte]
            refine hK6 _ ?_; try clear hK6 K6
            refine awp_keepL [1, 2, 3, 4, 8, 10, 12, 13, 14, 15, 76] ?_
            simp only [zz20, zzI, look_nil, Nat.reduceBEq]
            refine awp_condS _ (by decide) (by simp only [look_cons, Nat.reduceBEq, cond_true, cond_false]; rfl) ?_ ?_
            · intro hb
              have hs : pSel r who cur x = true := hb
              clear hb
              have hx : PieceOk (pPiece r x) := pPiece_ok hr (List.all_eq_true.1 hp x (by rw [hsp]; simp)) hs
              have hb := hx.loss 3
              have hsj := hx.s 3
              have q0 := hx.q0; have q1 := hx.q1; have m0 := hx.m0; have m1 := hx.m1
              simp only [shN, pPiece] at hsj q0 q1 m0 m1 hb
              have hw : IntKind.wrap .i64 (0 - x.qty) = -x.qty := by rw [wrapI (n := 0 - x.qty) (by omega) (by omega)]; omega
              have hm2 := abs_mul (a := (findX InstV.no x.inst zInst r.insts).mult) (b := (findX InstV.no x.inst zInst r.insts).s3) (x := 1024) (y := 1073741824) (by omega) (by omega)
              have hw2 : IntKind.wrap .i64 ((findX InstV.no x.inst zInst r.insts).mult * (findX InstV.no x.inst zInst r.insts).s3) = (findX InstV.no x.inst zInst r.insts).mult * (findX InstV.no x.inst zInst r.insts).s3 := wrapI (by omega) (by omega)
              refine awp_draw F_mixed [some 77, some 78, some 79, some 80, some 81, some 82, some 83, some 84, some 85, some 86, some 87, some 88, some 89, some 90, some 91, some 92, some 93, some 13] rfl (by kernel_rfl) ?_
              simp only [List.nil_append, List.cons_append, true_and, and_true, zz0, true_implies, Nat.reduceLT, Nat.reduceLeDiff, zzI, look_nil, Nat.reduceBEq, implies_true, evS_move, evS_indexAddr, zz23, zz24, F_sl27, F_sz46, Option.map_some, zz16, Option.some.injEq, exists_eq_left', exists_eq_left, eq_self, reduceCtorEq, and_self, zz19, F_off46_1, zzB, Nat.zero_add, Nat.reduceAdd, F_ok3, F_ag3, F_sz3, zz8, zzD, zzF, zzE, zz29, gr_v, zz37, F_off49_2, F_off49_6, zz15, F_arr31, zz21, zz36, evS_call, evC_value, F_sl54, F_zero59, F_sz59, zz3, newRow1, zz1, zzG, maxLen_le, Nat.reduceMul, F_by59, zz4, zz9, Option.bind_some, evS_assign, poss, posC, getD_mid, len_map, lt_mid, ge_mid, hw, hw2, wideA, grow, D.agg.injEq, unDs_map, Int.reduceToNat, Int.reduceLT, Int.reduceLE, cast6, Nat.reduceMul, zz6, Nat.reduceEqDiff, ↓reduceIte]
              refine call_go F_go25 (fun hG => rTimes_ (-x.qty) ((findX InstV.no x.inst zInst r.insts).mult * (findX InstV.no x.inst zInst r.insts).s3) (by omega) (by omega) (by omega) (by omega)) (by simp [AV.ids, AV.idsL, wideA]) (by simp) ?_
              simp only [List.nil_append, List.cons_append, true_and, and_true, zz0, true_implies, Nat.reduceLT, Nat.reduceLeDiff, zzI, look_nil, Nat.reduceBEq, implies_true, evS_move, evS_indexAddr, zz23, zz24, F_sl27, F_sz46, Option.map_some, zz16, Option.some.injEq, exists_eq_left', exists_eq_left, eq_self, reduceCtorEq, and_self, zz19, F_off46_1, zzB, Nat.zero_add, Nat.reduceAdd, F_ok3, F_ag3, F_sz3, zz8, zzD, zzF, zzE, zz29, gr_v, zz37, F_off49_2, F_off49_6, zz15, F_arr31, zz21, zz36, evS_call, evC_value, F_sl54, F_zero59, F_sz59, zz3, newRow1, zz1, zzG, maxLen_le, Nat.reduceMul, F_by59, zz4, zz9, Option.bind_some, evS_assign, poss, posC, getD_mid, len_map, lt_mid, ge_mid, hw, hw2, wideA, grow, D.agg.injEq, unDs_map, Int.reduceToNat, Int.reduceLT, Int.reduceLE, cast6, Nat.reduceMul, zz6, Nat.reduceEqDiff, ↓reduceIte, atsL, oksG, freeN, AV.ren, AV.renL, addRows, ORow.row, Nat.reduceMul, Nat.reduceAdd, unDs_cons, Option.bind_some, Option.map_some, forall_eq', D.sl.injEq, S_mem, Option.some.injEq, exists_eq_left', exists_eq_left, exists_eq', exists_eq, List.length_cons, zz2]
              have hm : (pcs r who cur pre).length + 1 ≤ 1000000 := by have e := congrArg List.length hsp; simp only [List.length_append, List.length_cons] at e; omega
              first | refine ⟨le_maxLen hm, by omega, ?_⟩ | refine ⟨by simp, le_maxLen hm, by omega, ?_⟩
              clear hm
              refine hK5 _ ?_; try clear hK5 K5
              refine awp_keepL [1, 2, 3, 4, 8, 10, 12, 13, 14] ?_
              simp only [zz20, zzI, look_nil, Nat.reduceBEq]
              refine awp_plain F_mixed [some 47, some 48, some 14] rfl ?_
              simp only [List.nil_append, List.cons_append, true_and, and_true, zz0, true_implies, Nat.reduceLT, Nat.reduceLeDiff, zzI, look_nil, Nat.reduceBEq, implies_true, evS_move, zz21, gr_v, zz26, evS_assign, zz6, Nat.reduceEqDiff, ↓reduceIte]
              refine ⟨post.length, _, by simp, le_SK (fun r => bif r == 13 then 93 else r) [] rfl (l' := [(1, .d (iv who)), (2, .d (iv cur)), (3, .d (poss ((pre ++ [x]) ++ post))), (4, .ptr 4 0 0), (8, .ptr 8 0 0), (10, .ptr 10 0 0), (12, .d (iv 3)), (13, .ref 13 (pcs r who cur (pre ++ [x])).length), (14, .d (iv (pre ++ [x]).length))]) (m' := [(4, (⟨True, 26, 3, true, false, 4, [[.d (.sl 3 (r.mems.map memC)), .d (.sl 12 (r.insts.map instC)), .d (.sl 4 (r.assets.map assetC))]]⟩ : ARow)), (8, (⟨True, 31, 6, true, false, 8, [[.d (.v (.int .i64 0)), .d (.v (.int .i64 0)), .d (.v (.int .i64 0)), .d (.v (.int .i64 0)), .d (.v (.int .i64 0)), .d (.v (.int .i64 0))]]⟩ : ARow)), (10, (⟨True, 31, 6, true, false, 10, [[.d (iv (lossT (pcs r who cur l) 0)), .d (iv (lossT (pcs r who cur l) 1)), .d (iv (lossT (pcs r who cur l) 2)), .d (.v (.int .i64 0)), .d (.v (.int .i64 0)), .d (.v (.int .i64 0))]]⟩ : ARow)), (13, grow 59 2 13 (((pcs r who cur (pre ++ [x])).map (lossOf · 3)).map wideC))]) ?_ ?_ ?_ ?_, pre ++ [x], post, by simp [hsp], rfl, rfl⟩
              · simp only [leV, look_cons, Nat.reduceBEq, cond_true, cond_false, poss, len_map, List.append_assoc, List.singleton_append, wrap_len pre x (by have e := congrArg List.length hsp; simp only [List.length_append, List.length_cons, List.length_map] at e; omega)]
                refine ⟨VLe.still rfl, VLe.still rfl, VLe.still rfl, VLe.ptr_ (f := (fun r => bif r == 13 then 93 else r)) (r := 4) (by simp), VLe.ptr_ (f := (fun r => bif r == 13 then 93 else r)) (r := 8) (by simp), VLe.ptr_ (f := (fun r => bif r == 13 then 93 else r)) (r := 10) (by simp), VLe.still rfl, ?_, VLe.still rfl, trivial⟩
                rw [pcs_yes hs]
                rw [show (AV.ref 93 _ : AV) = .ref ((fun r => bif r == 13 then 93 else r) 13) (pcs r who cur pre ++ [pPiece r x]).length from by simp]; try exact VLe.ref_ (f := (fun r => bif r == 13 then 93 else r)) (r := 13) (by simp)
              · exact ⟨fun _ => ⟨_, rfl, RowLe.still (by simp [AV.idsL, AV.ids])⟩, fun h => by simp at h, fun _ => ⟨_, rfl, RowLe.still (by simp [AV.idsL, AV.ids])⟩, fun h => by simp at h, fun _ => ⟨_, rfl, RowLe.still (by simp [AV.idsL, AV.ids])⟩, fun h => by simp at h, fun _ => ⟨_, rfl, RowLe.data_ (by rw [pcs_yes hs] <;> simp [wideC, lossOf, shN, pPiece, Int.mul_assoc])⟩, fun h => by simp at h, trivial⟩
              · simp [wfV, AV.ids, lookR, grow]
              · exact ⟨by simp [AV.idsL, AV.ids], by simp [AV.idsL, AV.ids], by simp [AV.idsL, AV.ids], wf_data _ _, trivial⟩
            · intro hb
              have hs : pSel r who cur x = false := hb
              clear hb
              refine awp_skip ?_
              simp only [zz6, Nat.reduceEqDiff, ↓reduceIte]
              refine hK5 _ ?_; try clear hK5 K5
              refine awp_keepL [1, 2, 3, 4, 8, 10, 12, 13, 14] ?_
              simp only [zz20, zzI, look_nil, Nat.reduceBEq]
              refine awp_plain F_mixed [some 47, some 48, some 14] rfl ?_
              simp only [List.nil_append, List.cons_append, true_and, and_true, zz0, true_implies, Nat.reduceLT, Nat.reduceLeDiff, zzI, look_nil, Nat.reduceBEq, implies_true, evS_move, zz21, gr_v, zz26, evS_assign, zz6, Nat.reduceEqDiff, ↓reduceIte]
              refine ⟨post.length, _, by simp, le_SK (fun r => bif r == 13 then 13 else r) [] rfl (l' := [(1, .d (iv who)), (2, .d (iv cur)), (3, .d (poss ((pre ++ [x]) ++ post))), (4, .ptr 4 0 0), (8, .ptr 8 0 0), (10, .ptr 10 0 0), (12, .d (iv 3)), (13, .ref 13 (pcs r who cur (pre ++ [x])).length), (14, .d (iv (pre ++ [x]).length))]) (m' := [(4, (⟨True, 26, 3, true, false, 4, [[.d (.sl 3 (r.mems.map memC)), .d (.sl 12 (r.insts.map instC)), .d (.sl 4 (r.assets.map assetC))]]⟩ : ARow)), (8, (⟨True, 31, 6, true, false, 8, [[.d (.v (.int .i64 0)), .d (.v (.int .i64 0)), .d (.v (.int .i64 0)), .d (.v (.int .i64 0)), .d (.v (.int .i64 0)), .d (.v (.int .i64 0))]]⟩ : ARow)), (10, (⟨True, 31, 6, true, false, 10, [[.d (iv (lossT (pcs r who cur l) 0)), .d (iv (lossT (pcs r who cur l) 1)), .d (iv (lossT (pcs r who cur l) 2)), .d (.v (.int .i64 0)), .d (.v (.int .i64 0)), .d (.v (.int .i64 0))]]⟩ : ARow)), (13, grow 59 2 13 (((pcs r who cur (pre ++ [x])).map (lossOf · 3)).map wideC))]) ?_ ?_ ?_ ?_, pre ++ [x], post, by simp [hsp], rfl, rfl⟩
              · simp only [leV, look_cons, Nat.reduceBEq, cond_true, cond_false, poss, len_map, List.append_assoc, List.singleton_append, wrap_len pre x (by have e := congrArg List.length hsp; simp only [List.length_append, List.length_cons, List.length_map] at e; omega)]
                refine ⟨VLe.still rfl, VLe.still rfl, VLe.still rfl, VLe.ptr_ (f := (fun r => bif r == 13 then 13 else r)) (r := 4) (by simp), VLe.ptr_ (f := (fun r => bif r == 13 then 13 else r)) (r := 8) (by simp), VLe.ptr_ (f := (fun r => bif r == 13 then 13 else r)) (r := 10) (by simp), VLe.still rfl, ?_, VLe.still rfl, trivial⟩
                rw [pcs_no hs]
                rw [show (AV.ref 13 _ : AV) = .ref ((fun r => bif r == 13 then 13 else r) 13) (pcs r who cur pre).length from by simp]; try exact VLe.ref_ (f := (fun r => bif r == 13 then 13 else r)) (r := 13) (by simp)
              · exact ⟨fun _ => ⟨_, rfl, RowLe.still (by simp [AV.idsL, AV.ids])⟩, fun h => by simp at h, fun _ => ⟨_, rfl, RowLe.still (by simp [AV.idsL, AV.ids])⟩, fun h => by simp at h, fun _ => ⟨_, rfl, RowLe.still (by simp [AV.idsL, AV.ids])⟩, fun h => by simp at h, fun _ => ⟨_, rfl, RowLe.data_ (by rw [pcs_no hs] <;> simp [wideC, lossOf, shN, pPiece, Int.mul_assoc])⟩, fun h => by simp at h, trivial⟩
              · simp [wfV, AV.ids, lookR, grow]
              · exact ⟨by simp [AV.idsL, AV.ids], by simp [AV.idsL, AV.ids], by simp [AV.idsL, AV.ids], wf_data _ _, trivial⟩
          · intro hb
            obtain rfl := none_of hb; clear hb
            simp only [List.append_nil] at hsp ⊢
            obtain rfl : l = pre := hsp
            refine awp_exit ?_
            simp only [zz6, Nat.reduceEqDiff, ↓reduceIte]
            refine hK3 _ ?_; try clear hK3 K3
            refine awp_keepL [1, 2, 3, 4, 8, 10, 12, 13] ?_
            simp only [zz20, zzI, look_nil, Nat.reduceBEq]
            refine awp_seq fun K3 hK3 => ?_
            refine awp_plain F_mixed [some 95, some 96, some 94, some 97, some 98, some 17, none, some 18] rfl ?_
            simp only [List.nil_append, List.cons_append, true_and, and_true, zz0, true_implies, Nat.reduceLT, Nat.reduceLeDiff, zzI, look_nil, Nat.reduceBEq, implies_true, evS_move, evS_call, evC_value, zz14, zzD, Nat.reduceAdd, Nat.zero_add, zzF, zz32, newRow1, F_zero59, zz16, Option.some.injEq, exists_eq_left', exists_eq_left, Option.map_some, eq_self, reduceCtorEq, and_self, zzB, zzE, zz10, zz18, F_ok59, F_sz59, splice, List.append_nil, zz1, zzG, evS_assign, wides, wideA, grow, hfit, zz6, Nat.reduceEqDiff, ↓reduceIte]
            refine call_go F_go26 (fun hG => WSum_ ((pcs r who cur l).map (lossOf · 3)) (by simp; omega) (fun y hy => by obtain ⟨x, hx, rfl⟩ := List.mem_map.1 hy; have := ((hps x hx).loss 3).2; omega)) (by simp [AV.ids, AV.idsL, wideA]) (by simp) ?_
            simp only [List.nil_append, List.cons_append, true_and, and_true, zz0, true_implies, Nat.reduceLT, Nat.reduceLeDiff, zzI, look_nil, Nat.reduceBEq, implies_true, evS_move, evS_call, evC_value, zz14, zzD, Nat.reduceAdd, Nat.zero_add, zzF, zz32, newRow1, F_zero59, zz16, Option.some.injEq, exists_eq_left', exists_eq_left, Option.map_some, eq_self, reduceCtorEq, and_self, zzB, zzE, zz10, zz18, F_ok59, F_sz59, splice, List.append_nil, zz1, zzG, evS_assign, wides, wideA, grow, hfit, zz6, Nat.reduceEqDiff, ↓reduceIte, atsL, oksG, freeN, AV.ren, AV.renL, addRows, ORow.row, Nat.reduceMul, Nat.reduceAdd, zz9, Option.bind_some, Option.map_some, forall_eq', D.sl.injEq, S_mem, Option.some.injEq, exists_eq_left', exists_eq_left, exists_eq', exists_eq, List.length_cons, zz2]
            refine ⟨by simp, ?_⟩
            refine hK3 _ ?_; try clear hK3 K3
            refine awp_keepL [1, 2, 3, 4, 8, 10, 12, 17, 18] ?_
            simp only [zz20, zzI, look_nil, Nat.reduceBEq]
            refine awp_seq fun K3 hK3 => ?_
            refine awp_plain F_mixed [some 100, some 101, some 99, some 102, some 103, some 19, some 20] rfl ?_
            simp only [List.nil_append, List.cons_append, true_and, and_true, zz0, true_implies, Nat.reduceLT, Nat.reduceLeDiff, zzI, look_nil, Nat.reduceBEq, implies_true, F_ok59, F_ag59, F_sz59, zz8, zz23, zzD, Nat.reduceAdd, Nat.zero_add, zzF, zzB, zzE, zz16, Option.some.injEq, exists_eq_left', exists_eq_left, Option.map_some, eq_self, reduceCtorEq, and_self, evS_call, evC_value, evS_move, zz14, evS_assign, wideC, wideA, zz6, Nat.reduceEqDiff, ↓reduceIte]
            refine call_go F_go27 (fun hG => Int_ ((pcs r who cur l).map (lossOf · 3)).sum) (by simp [AV.ids, AV.idsL, wideC, wideA]) (by simp) ?_
            simp only [List.nil_append, List.cons_append, true_and, and_true, zz0, true_implies, Nat.reduceLT, Nat.reduceLeDiff, zzI, look_nil, Nat.reduceBEq, implies_true, F_ok59, F_ag59, F_sz59, zz8, zz23, zzD, Nat.reduceAdd, Nat.zero_add, zzF, zzB, zzE, zz16, Option.some.injEq, exists_eq_left', exists_eq_left, Option.map_some, eq_self, reduceCtorEq, and_self, evS_call, evC_value, evS_move, zz14, evS_assign, wideC, wideA, zz6, Nat.reduceEqDiff, ↓reduceIte, atsL, oksG, freeN, AV.ren, AV.renL, addRows, ORow.row, Nat.reduceMul, Nat.reduceAdd, zz9, Option.bind_some, Option.map_some, forall_eq', D.sl.injEq, S_mem, Option.some.injEq, exists_eq_left', exists_eq_left, exists_eq', exists_eq, List.length_cons, zz2]
            refine hK3 _ ?_; try clear hK3 K3
            refine awp_keepL [1, 2, 3, 4, 8, 10, 12, 18, 19, 20] ?_
            simp only [zz20, zzI, look_nil, Nat.reduceBEq]
            refine awp_seq fun K3 hK3 => ?_
            refine awp_seq fun K4 hK4 => ?_
            refine awp_plain F_mixed [some 104, some 105, some 106, some 107, some 108, some 109] rfl ?_
            simp only [List.nil_append, List.cons_append, true_and, and_true, zz0, true_implies, Nat.reduceLT, Nat.reduceLeDiff, zzI, look_nil, Nat.reduceBEq, implies_true, Nat.reduceSub, S_getD, zz5, and_imp, imp_and, imp_self, and_self, evS_move, zz29, gr_v, zz30, zz13, zz6, Nat.reduceEqDiff, ↓reduceIte]
            refine hK4 _ ?_; try clear hK4 K4
            refine awp_keepL [1, 2, 3, 4, 8, 10, 12, 19, 109] ?_
            simp only [zz20, zzI, look_nil, Nat.reduceBEq]
            refine awp_condS _ (by decide) (by simp only [look_cons, Nat.reduceBEq, cond_true, cond_false]; rfl) ?_ ?_
            · intro hb
              have hj : rightN (lossT (pcs r who cur l) 3) = false := by have h2 := hb; simp at h2; exact h2
              clear hb
              refine awp_seq fun K5 hK5 => ?_
              refine awp_plain F_mixed [some 110, none, some 9] rfl ?_
              simp only [List.nil_append, List.cons_append, true_and, and_true, zz0, true_implies, Nat.reduceLT, Nat.reduceLeDiff, zzI, look_nil, Nat.reduceBEq, implies_true, F_zero31, F_bld31, zz7, splice, Option.getD_some, List.append_nil, zz1, zzG, zzD, zz16, Option.some.injEq, exists_eq_left', exists_eq_left, Option.map_some, eq_self, reduceCtorEq, and_self, Nat.reduceAdd, Nat.zero_add, zzF, zzB, zzE, zz10, zz18, F_ok31, F_sz31, evS_assign, zz6, Nat.reduceEqDiff, ↓reduceIte]
              refine hK5 _ ?_; try clear hK5 K5
              refine awp_keepL [8, 9] ?_
              simp only [zz20, zzI, look_nil, Nat.reduceBEq]
              refine awp_ret ?_
              simp only [zz6, Nat.reduceEqDiff, ↓reduceIte]
              try simp only [List.append_nil]
              refine done0 (by simp [resCs, resC, S, List.getD, look_cons, lookR, F_ag31, F_sz31, F_ok31]) ?_ (by simp [flatA, flatAs, flatD, lossA]) (by simp [AV.ids, AV.idsL, lossA])
              simp only [List.map_cons, List.map_nil, resA, S_getD, S_mem, lookR_cons, lookR_nil, Nat.reduceLT, Nat.reduceLeDiff, look_cons, Nat.reduceBEq, cond_true, cond_false, resAll, List.getD_cons_zero, List.getD_cons_succ, List.drop_zero, List.drop_succ_cons, List.take_succ_cons, List.take_zero, F_ag31, F_sz31, F_ok31]
              have e : lossE r who cur l = 1 := by simp [lossE, hE, lossOk, hj]
              have v : ∀ j, lossV r who cur l j = 0 := fun j => by simp [lossV, e]
              simp only [lossA, v, e]; try rfl
            · intro hb
              have hj : rightN (lossT (pcs r who cur l) 3) = true := by have h2 := hb; simp at h2; exact h2
              clear hb
              simp only [show rightN (List.map (fun x => lossOf x 3) (pcs r who cur l)).sum = true from hj, cond_true]
              have h3 := hj
              refine awp_skip ?_
              simp only [zz6, Nat.reduceEqDiff, ↓reduceIte]
              refine hK3 _ ?_; try clear hK3 K3
              refine awp_keepL [1, 2, 3, 4, 8, 10, 12, 19] ?_
              simp only [zz20, zzI, look_nil, Nat.reduceBEq]
              refine awp_plain F_mixed [some 111, some 112, some 113, none] rfl ?_
              simp only [List.nil_append, List.cons_append, true_and, and_true, zz0, true_implies, Nat.reduceLT, Nat.reduceLeDiff, zzI, look_nil, Nat.reduceBEq, implies_true, evS_move, evS_indexAddr, zz23, zz15, F_arr31, F_sz3, zz16, Option.some.injEq, exists_eq_left', exists_eq_left, Option.map_some, eq_self, reduceCtorEq, and_self, zz18, F_ok3, splice, List.append_nil, zzD, Nat.reduceAdd, Nat.zero_add, zzF, zzB, zzE, zz1, zzG, Int.reduceToNat, Int.reduceLT, Int.reduceLE, cast6, Nat.reduceMul, zz6, Nat.reduceEqDiff, ↓reduceIte]
              refine hK2 _ ?_; try clear hK2 K2
              refine awp_keepL [1, 2, 3, 4, 8, 10, 12] ?_
              simp only [zz20, zzI, look_nil, Nat.reduceBEq]
              refine awp_plain F_mixed [some 41, some 42, some 12] rfl ?_
              simp only [List.nil_append, List.cons_append, true_and, and_true, zz0, true_implies, Nat.reduceLT, Nat.reduceLeDiff, zzI, look_nil, Nat.reduceBEq, implies_true, evS_move, zz21, gr_v, zz26, evS_assign, zz6, Nat.reduceEqDiff, ↓reduceIte]
              refine ⟨2, _, by decide, le_SK id [] rfl (l' := [(1, .d (iv who)), (2, .d (iv cur)), (3, .d (poss l)), (4, .ptr 4 0 0), (8, .ptr 8 0 0), (10, .ptr 10 0 0), (12, .d (iv 4))]) (m' := [(4, (⟨True, 26, 3, true, false, 4, [[.d (.sl 3 (r.mems.map memC)), .d (.sl 12 (r.insts.map instC)), .d (.sl 4 (r.assets.map assetC))]]⟩ : ARow)), (8, (⟨True, 31, 6, true, false, 8, [[.d (.v (.int .i64 0)), .d (.v (.int .i64 0)), .d (.v (.int .i64 0)), .d (.v (.int .i64 0)), .d (.v (.int .i64 0)), .d (.v (.int .i64 0))]]⟩ : ARow)), (10, (⟨True, 31, 6, true, false, 10, [[.d (iv (lossT (pcs r who cur l) 0)), .d (iv (lossT (pcs r who cur l) 1)), .d (iv (lossT (pcs r who cur l) 2)), .d (iv (lossT (pcs r who cur l) 3)), .d (.v (.int .i64 0)), .d (.v (.int .i64 0))]]⟩ : ARow))]) ?_ ?_ ?_ ?_, .inr (.inr (.inr (.inr (.inl (⟨rfl, h0, h1, h2, h3, rfl⟩)))))⟩
              · simp only [leV, look_cons, Nat.reduceBEq, cond_true, cond_false]; exact ⟨VLe.refl _, VLe.refl _, VLe.refl _, VLe.refl _, VLe.refl _, VLe.refl _, VLe.refl _, trivial⟩
              · exact ⟨fun _ => ⟨_, rfl, ⟨id, rfl, rfl, rfl, id, .inl, VLess.refl _⟩⟩, fun h => by simp at h, fun _ => ⟨_, rfl, ⟨id, rfl, rfl, rfl, id, .inl, VLess.refl _⟩⟩, fun h => by simp at h, fun _ => ⟨_, rfl, ⟨id, rfl, rfl, rfl, id, .inl, VLess.refl _⟩⟩, fun h => by simp at h, trivial⟩
              · simp [wfV, AV.ids, AV.idsL, lookR]
              · simp [wfR, AV.idsL, AV.ids]
        · intro hb
          simp at hb
      · skip
        refine awp_seq fun K2 hK2 => ?_
        refine awp_seq fun K3 hK3 => ?_
        refine awp_plain F_mixed [some 39, some 40] rfl ?_
        simp only [List.nil_append, List.cons_append, true_and, and_true, zz0, true_implies, Nat.reduceLT, Nat.reduceLeDiff, zzI, look_nil, Nat.reduceBEq, implies_true, evS_move, zz21, gr_v, zz22, zz6, Nat.reduceEqDiff, ↓reduceIte]
        refine hK3 _ ?_; try clear hK3 K3
        refine awp_keepL [1, 2, 3, 4, 8, 10, 12, 40] ?_
        simp only [zz20, zzI, look_nil, Nat.reduceBEq]
        refine awp_condS _ (by decide) (by simp only [look_cons, Nat.reduceBEq, cond_true, cond_false]; rfl) ?_ ?_
        · intro hb
          clear hb
          refine awp_skip ?_
          simp only [zz6, Nat.reduceEqDiff, ↓reduceIte]
          refine hK2 _ ?_; try clear hK2 K2
          refine awp_keepL [1, 2, 3, 4, 8, 10, 12] ?_
          simp only [zz20, zzI, look_nil, Nat.reduceBEq]
          refine awp_seq fun K2 hK2 => ?_
          refine awp_block ?_
          refine awp_seq fun K3 hK3 => ?_
          refine awp_plain F_mixed [some 13] rfl ?_
          simp only [List.nil_append, List.cons_append, true_and, and_true, zz0, true_implies, Nat.reduceLT, Nat.reduceLeDiff, zzI, look_nil, Nat.reduceBEq, implies_true, evS_assign, zz6, Nat.reduceEqDiff, ↓reduceIte]
          refine hK3 _ ?_; try clear hK3 K3
          refine awp_keepL [1, 2, 3, 4, 8, 10, 12, 13] ?_
          simp only [zz20, zzI, look_nil, Nat.reduceBEq]
          refine awp_seq fun K3 hK3 => ?_
          refine awp_seq fun K4 hK4 => ?_
          refine awp_plain F_mixed [some 14] rfl ?_
          simp only [List.nil_append, List.cons_append, true_and, and_true, zz0, true_implies, Nat.reduceLT, Nat.reduceLeDiff, zzI, look_nil, Nat.reduceBEq, implies_true, evS_assign, zz6, Nat.reduceEqDiff, ↓reduceIte]
          refine hK4 _ ?_; try clear hK4 K4
          refine awp_keepL [1, 2, 3, 4, 8, 10, 12, 13, 14] ?_
          simp only [zz20, zzI, look_nil, Nat.reduceBEq]
          refine awp_block ?_
          refine awp_loop (fun m s => ∃ pre post : List PosV, l = pre ++ post ∧ m = post.length ∧ s = S 115 [(1, .d (iv who)), (2, .d (iv cur)), (3, .d (poss (pre ++ post))), (4, .ptr 4 0 0), (8, .ptr 8 0 0), (10, .ptr 10 0 0), (12, .d (iv 4)), (13, .ref 13 (pcs r who cur pre).length), (14, .d (iv pre.length))] [(4, (⟨True, 26, 3, true, false, 4, [[.d (.sl 3 (r.mems.map memC)), .d (.sl 12 (r.insts.map instC)), .d (.sl 4 (r.assets.map assetC))]]⟩ : ARow)), (8, (⟨True, 31, 6, true, false, 8, [[.d (.v (.int .i64 0)), .d (.v (.int .i64 0)), .d (.v (.int .i64 0)), .d (.v (.int .i64 0)), .d (.v (.int .i64 0)), .d (.v (.int .i64 0))]]⟩ : ARow)), (10, (⟨True, 31, 6, true, false, 10, [[.d (iv (lossT (pcs r who cur l) 0)), .d (iv (lossT (pcs r who cur l) 1)), .d (iv (lossT (pcs r who cur l) 2)), .d (iv (lossT (pcs r who cur l) 3)), .d (.v (.int .i64 0)), .d (.v (.int .i64 0))]]⟩ : ARow)), (13, grow 59 2 13 (((pcs r who cur pre).map (lossOf · 4)).map wideC))]) l.length _ (le_SK id [13] rfl (l' := [(1, .d (iv who)), (2, .d (iv cur)), (3, .d (poss (([] : List PosV) ++ l))), (4, .ptr 4 0 0), (8, .ptr 8 0 0), (10, .ptr 10 0 0), (12, .d (iv 4)), (13, .ref 13 (pcs r who cur ([] : List PosV)).length), (14, .d (iv ([] : List PosV).length))]) (m' := [(4, (⟨True, 26, 3, true, false, 4, [[.d (.sl 3 (r.mems.map memC)), .d (.sl 12 (r.insts.map instC)), .d (.sl 4 (r.assets.map assetC))]]⟩ : ARow)), (8, (⟨True, 31, 6, true, false, 8, [[.d (.v (.int .i64 0)), .d (.v (.int .i64 0)), .d (.v (.int .i64 0)), .d (.v (.int .i64 0)), .d (.v (.int .i64 0)), .d (.v (.int .i64 0))]]⟩ : ARow)), (10, (⟨True, 31, 6, true, false, 10, [[.d (iv (lossT (pcs r who cur l) 0)), .d (iv (lossT (pcs r who cur l) 1)), .d (iv (lossT (pcs r who cur l) 2)), .d (iv (lossT (pcs r who cur l) 3)), .d (.v (.int .i64 0)), .d (.v (.int .i64 0))]]⟩ : ARow)), (13, grow 59 2 13 (((pcs r who cur ([] : List PosV)).map (lossOf · 4)).map wideC))]) ?_ ?_ ?_ ?_) ⟨[], l, rfl, rfl, rfl⟩ ?_
          · simp only [leV, look_cons, Nat.reduceBEq, cond_true, cond_false, List.nil_append]; exact ⟨VLe.still rfl, VLe.still rfl, VLe.still rfl, VLe.ptr_ (f := id) (r := 4) (by simp), VLe.ptr_ (f := id) (r := 8) (by simp), VLe.ptr_ (f := id) (r := 10) (by simp), VLe.still rfl, VLe.nil_ (by decide), VLe.still rfl, trivial⟩
          · exact ⟨fun _ => ⟨_, rfl, RowLe.still (by simp [AV.idsL, AV.ids])⟩, fun h => by simp at h, fun _ => ⟨_, rfl, RowLe.still (by simp [AV.idsL, AV.ids])⟩, fun h => by simp at h, fun _ => ⟨_, rfl, RowLe.still (by simp [AV.idsL, AV.ids])⟩, fun h => by simp at h, fun h => by simp at h, fun _ => rfl, trivial⟩
          · simp [wfV, AV.ids, lookR]
          · simp [wfR, grow, pcs, AV.idsL, AV.ids]
          rintro m s ⟨pre, post, hsp, rfl, rfl⟩
          have hppl := pcs_len r who cur pre
          refine awp_seq fun K5 hK5 => ?_
          refine awp_seq fun K6 hK6 => ?_
          refine awp_plain F_mixed [some 43, some 44, some 45, some 46] rfl ?_
          simp only [List.nil_append, List.cons_append, true_and, and_true, zz0, true_implies, Nat.reduceLT, Nat.reduceLeDiff, zzI, look_nil, Nat.reduceBEq, implies_true, evS_move, evS_call, zz12, F_sl27, Option.isSome_some, zz21, gr_v, zz22, poss, len_map, zz6, Nat.reduceEqDiff, ↓reduceIte]
          refine hK6 _ ?_; try clear hK6 K6
          refine awp_keepL [1, 2, 3, 4, 8, 10, 12, 13, 14, 46] ?_
          simp only [zz20, zzI, look_nil, Nat.reduceBEq]
          refine awp_condS _ (by decide) (by simp only [look_cons, Nat.reduceBEq, cond_true, cond_false]; rfl) ?_ ?_
          · intro hb
            obtain ⟨x, post, rfl⟩ := more_of hb; clear hb
            refine awp_skip ?_
            simp only [zz6, Nat.reduceEqDiff, ↓reduceIte]
            refine hK5 _ ?_; try clear hK5 K5
            refine awp_keepL [1, 2, 3, 4, 8, 10, 12, 13, 14] ?_
            simp only [zz20, zzI, look_nil, Nat.reduceBEq]
            refine awp_seq fun K5 hK5 => ?_
            refine awp_block ?_
            refine awp_seq fun K6 hK6 => ?_
            refine awp_draw F_mixed [some 50, some 51, some 52, some 53, some 54, some 55, some 56, some 57, some 49, some 58, some 59, some 15, none, some 16] rfl (by kernel_rfl) ?_
            simp only [List.nil_append, List.cons_append, true_and, and_true, zz0, true_implies, Nat.reduceLT, Nat.reduceLeDiff, zzI, look_nil, Nat.reduceBEq, implies_true, F_ok26, F_ag26, F_sz26, zz8, zz23, zzD, Nat.reduceAdd, Nat.zero_add, zzF, zzB, zzE, zz16, Option.some.injEq, exists_eq_left', exists_eq_left, Option.map_some, eq_self, reduceCtorEq, and_self, evS_move, evS_indexAddr, zz24, F_sl27, F_sz46, zz19, F_off46_0, F_off44_1, F_ok3, F_ag3, F_sz3, evS_call, evC_value, zz14, zz32, newRow1, F_zero49, zz10, zz18, F_ok49, F_sz49, splice, List.append_nil, zz1, zzG, evS_assign, poss, posC, getD_mid, len_map, lt_mid, ge_mid, memsD, instsD, assetsD, rollC, D.agg.injEq, memA, memC, instA, instC, List.map_cons, zz6, Nat.reduceEqDiff, ↓reduceIte]
            refine call_go F_go24 (fun hG => rInst_ r.mems r.insts r.assets x.inst h.insts) (by simp [AV.ids, AV.idsL, instA, instC]) (by simp) ?_
            simp only [List.nil_append, List.cons_append, true_and, and_true, zz0, true_implies, Nat.reduceLT, Nat.reduceLeDiff, zzI, look_nil, Nat.reduceBEq, implies_true, F_ok26, F_ag26, F_sz26, zz8, zz23, zzD, Nat.reduceAdd, Nat.zero_add, zzF, zzB, zzE, zz16, Option.some.injEq, exists_eq_left', exists_eq_left, Option.map_some, eq_self, reduceCtorEq, and_self, evS_move, evS_indexAddr, zz24, F_sl27, F_sz46, zz19, F_off46_0, F_off44_1, F_ok3, F_ag3, F_sz3, evS_call, evC_value, zz14, zz32, newRow1, F_zero49, zz10, zz18, F_ok49, F_sz49, splice, List.append_nil, zz1, zzG, evS_assign, poss, posC, getD_mid, len_map, lt_mid, ge_mid, memsD, instsD, assetsD, rollC, D.agg.injEq, memA, memC, instA, instC, List.map_cons, zz6, Nat.reduceEqDiff, ↓reduceIte, atsL, oksG, freeN, AV.ren, AV.renL, addRows, ORow.row, Nat.reduceMul, Nat.reduceAdd, zz9, Option.bind_some, Option.map_some, forall_eq', D.sl.injEq, S_mem, Option.some.injEq, exists_eq_left', exists_eq_left, exists_eq', exists_eq, List.length_cons, zz2]
            refine hK6 _ ?_; try clear hK6 K6
            refine awp_keepL [1, 2, 3, 4, 8, 10, 12, 13, 14, 15, 16] ?_
            simp only [zz20, zzI, look_nil, Nat.reduceBEq]
            refine awp_seq fun K6 hK6 => ?_
            refine awp_plain F_mixed [some 60, some 61, some 62, some 63, some 64, some 65, some 66, some 67, some 68, some 69, some 70, some 71, some 72, some 73, some 74, some 75, some 76] rfl ?_
            simp only [List.nil_append, List.cons_append, true_and, and_true, zz0, true_implies, Nat.reduceLT, Nat.reduceLeDiff, zzI, look_nil, Nat.reduceBEq, implies_true, Nat.reduceSub, S_getD, zz5, and_imp, imp_and, imp_self, and_self, evS_move, evS_indexAddr, zz23, zz24, F_sl27, F_sz46, Option.map_some, zz16, Option.some.injEq, exists_eq_left', exists_eq_left, eq_self, reduceCtorEq, zz19, F_off46_0, zzB, Nat.zero_add, Nat.reduceAdd, F_off44_0, F_ok3, F_ag3, F_sz3, zz8, zzD, zzF, zzE, zz21, gr_v, zz34, zz13, F_off49_1, poss, posC, getD_mid, len_map, lt_mid, ge_mid, zz6, Nat.reduceEqDiff, ↓reduceIte]
            refine hK6 _ ?_; try clear hK6 K6
            refine awp_keepL [1, 2, 3, 4, 8, 10, 12, 13, 14, 15, 76] ?_
            simp only [zz20, zzI, look_nil, Nat.reduceBEq]
            refine awp_condS _ (by decide) (by simp only [look_cons, Nat.reduceBEq, cond_true, cond_false]; rfl) ?_ ?_
            · intro hb
              have hs : pSel r who cur x = true := hb
              clear hb
              have hx : PieceOk (pPiece r x) := pPiece_ok hr (List.all_eq_true.1 hp x (by rw [hsp]; simp)) hs
              have hb := hx.loss 4
              have hsj := hx.s 4
              have q0 := hx.q0; have q1 := hx.q1; have m0 := hx.m0; have m1 := hx.m1
              simp only [shN, pPiece] at hsj q0 q1 m0 m1 hb
              have hw : IntKind.wrap .i64 (0 - x.qty) = -x.qty := by rw [wrapI (n := 0 - x.qty) (by omega) (by omega)]; omega
              have hm2 := abs_mul (a := (findX InstV.no x.inst zInst r.insts).mult) (b := (findX InstV.no x.inst zInst r.insts).s4) (x := 1024) (y := 1073741824) (by omega) (by omega)
              have hw2 : IntKind.wrap .i64 ((findX InstV.no x.inst zInst r.insts).mult * (findX InstV.no x.inst zInst r.insts).s4) = (findX InstV.no x.inst zInst r.insts).mult * (findX InstV.no x.inst zInst r.insts).s4 := wrapI (by omega) (by omega)
              refine awp_draw F_mixed [some 77, some 78, some 79, some 80, some 81, some 82, some 83, some 84, some 85, some 86, some 87, some 88, some 89, some 90, some 91, some 92, some 93, some 13] rfl (by kernel_rfl) ?_
              simp only [List.nil_append, List.cons_append, true_and, and_true, zz0, true_implies, Nat.reduceLT, Nat.reduceLeDiff, zzI, look_nil, Nat.reduceBEq, implies_true, evS_move, evS_indexAddr, zz23, zz24, F_sl27, F_sz46, Option.map_some, zz16, Option.some.injEq, exists_eq_left', exists_eq_left, eq_self, reduceCtorEq, and_self, zz19, F_off46_1, zzB, Nat.zero_add, Nat.reduceAdd, F_ok3, F_ag3, F_sz3, zz8, zzD, zzF, zzE, zz29, gr_v, zz37, F_off49_2, F_off49_6, zz15, F_arr31, zz21, zz36, evS_call, evC_value, F_sl54, F_zero59, F_sz59, zz3, newRow1, zz1, zzG, maxLen_le, Nat.reduceMul, F_by59, zz4, zz9, Option.bind_some, evS_assign, poss, posC, getD_mid, len_map, lt_mid, ge_mid, hw, hw2, wideA, grow, D.agg.injEq, unDs_map, Int.reduceToNat, Int.reduceLT, Int.reduceLE, cast6, Nat.reduceMul, zz6, Nat.reduceEqDiff, ↓reduceIte]
              refine call_go F_go25 (fun hG => rTimes_ (-x.qty) ((findX InstV.no x.inst zInst r.insts).mult * (findX InstV.no x.inst zInst r.insts).s4) (by omega) (by omega) (by omega) (by omega)) (by simp [AV.ids, AV.idsL, wideA]) (by simp) ?_
              simp only [List.nil_append, List.cons_append, true_and, and_true, zz0, true_implies, Nat.reduceLT, Nat.reduceLeDiff, zzI, look_nil, Nat.reduceBEq, implies_true, evS_move, evS_indexAddr, zz23, zz24, F_sl27, F_sz46, Option.map_some, zz16, Option.some.injEq, exists_eq_left', exists_eq_left, eq_self, reduceCtorEq, and_self, zz19, F_off46_1, zzB, Nat.zero_add, Nat.reduceAdd, F_ok3, F_ag3, F_sz3, zz8, zzD, zzF, zzE, zz29, gr_v, zz37, F_off49_2, F_off49_6, zz15, F_arr31, zz21, zz36, evS_call, evC_value, F_sl54, F_zero59, F_sz59, zz3, newRow1, zz1, zzG, maxLen_le, Nat.reduceMul, F_by59, zz4, zz9, Option.bind_some, evS_assign, poss, posC, getD_mid, len_map, lt_mid, ge_mid, hw, hw2, wideA, grow, D.agg.injEq, unDs_map, Int.reduceToNat, Int.reduceLT, Int.reduceLE, cast6, Nat.reduceMul, zz6, Nat.reduceEqDiff, ↓reduceIte, atsL, oksG, freeN, AV.ren, AV.renL, addRows, ORow.row, Nat.reduceMul, Nat.reduceAdd, unDs_cons, Option.bind_some, Option.map_some, forall_eq', D.sl.injEq, S_mem, Option.some.injEq, exists_eq_left', exists_eq_left, exists_eq', exists_eq, List.length_cons, zz2]
              have hm : (pcs r who cur pre).length + 1 ≤ 1000000 := by have e := congrArg List.length hsp; simp only [List.length_append, List.length_cons] at e; omega
              first | refine ⟨le_maxLen hm, by omega, ?_⟩ | refine ⟨by simp, le_maxLen hm, by omega, ?_⟩
              clear hm
              refine hK5 _ ?_; try clear hK5 K5
              refine awp_keepL [1, 2, 3, 4, 8, 10, 12, 13, 14] ?_
              simp only [zz20, zzI, look_nil, Nat.reduceBEq]
              refine awp_plain F_mixed [some 47, some 48, some 14] rfl ?_
              simp only [List.nil_append, List.cons_append, true_and, and_true, zz0, true_implies, Nat.reduceLT, Nat.reduceLeDiff, zzI, look_nil, Nat.reduceBEq, implies_true, evS_move, zz21, gr_v, zz26, evS_assign, zz6, Nat.reduceEqDiff, ↓reduceIte]
              refine ⟨post.length, _, by simp, le_SK (fun r => bif r == 13 then 93 else r) [] rfl (l' := [(1, .d (iv who)), (2, .d (iv cur)), (3, .d (poss ((pre ++ [x]) ++ post))), (4, .ptr 4 0 0), (8, .ptr 8 0 0), (10, .ptr 10 0 0), (12, .d (iv 4)), (13, .ref 13 (pcs r who cur (pre ++ [x])).length), (14, .d (iv (pre ++ [x]).length))]) (m' := [(4, (⟨True, 26, 3, true, false, 4, [[.d (.sl 3 (r.mems.map memC)), .d (.sl 12 (r.insts.map instC)), .d (.sl 4 (r.assets.map assetC))]]⟩ : ARow)), (8, (⟨True, 31, 6, true, false, 8, [[.d (.v (.int .i64 0)), .d (.v (.int .i64 0)), .d (.v (.int .i64 0)), .d (.v (.int .i64 0)), .d (.v (.int .i64 0)), .d (.v (.int .i64 0))]]⟩ : ARow)), (10, (⟨True, 31, 6, true, false, 10, [[.d (iv (lossT (pcs r who cur l) 0)), .d (iv (lossT (pcs r who cur l) 1)), .d (iv (lossT (pcs r who cur l) 2)), .d (iv (lossT (pcs r who cur l) 3)), .d (.v (.int .i64 0)), .d (.v (.int .i64 0))]]⟩ : ARow)), (13, grow 59 2 13 (((pcs r who cur (pre ++ [x])).map (lossOf · 4)).map wideC))]) ?_ ?_ ?_ ?_, pre ++ [x], post, by simp [hsp], rfl, rfl⟩
              · simp only [leV, look_cons, Nat.reduceBEq, cond_true, cond_false, poss, len_map, List.append_assoc, List.singleton_append, wrap_len pre x (by have e := congrArg List.length hsp; simp only [List.length_append, List.length_cons, List.length_map] at e; omega)]
                refine ⟨VLe.still rfl, VLe.still rfl, VLe.still rfl, VLe.ptr_ (f := (fun r => bif r == 13 then 93 else r)) (r := 4) (by simp), VLe.ptr_ (f := (fun r => bif r == 13 then 93 else r)) (r := 8) (by simp), VLe.ptr_ (f := (fun r => bif r == 13 then 93 else r)) (r := 10) (by simp), VLe.still rfl, ?_, VLe.still rfl, trivial⟩
                rw [pcs_yes hs]
                rw [show (AV.ref 93 _ : AV) = .ref ((fun r => bif r == 13 then 93 else r) 13) (pcs r who cur pre ++ [pPiece r x]).length from by simp]; try exact VLe.ref_ (f := (fun r => bif r == 13 then 93 else r)) (r := 13) (by simp)
              · exact ⟨fun _ => ⟨_, rfl, RowLe.still (by simp [AV.idsL, AV.ids])⟩, fun h => by simp at h, fun _ => ⟨_, rfl, RowLe.still (by simp [AV.idsL, AV.ids])⟩, fun h => by simp at h, fun _ => ⟨_, rfl, RowLe.still (by simp [AV.idsL, AV.ids])⟩, fun h => by simp at h, fun _ => ⟨_, rfl, RowLe.data_ (by rw [pcs_yes hs] <;> simp [wideC, lossOf, shN, pPiece, Int.mul_assoc])⟩, fun h => by simp at h, trivial⟩
              · simp [wfV, AV.ids, lookR, grow]
              · exact ⟨by simp [AV.idsL, AV.ids], by simp [AV.idsL, AV.ids], by simp [AV.idsL, AV.ids], wf_data _ _, trivial⟩
            · intro hb
              have hs : pSel r who cur x = false := hb
              clear hb
              refine awp_skip ?_
              simp only [zz6, Nat.reduceEqDiff, ↓reduceIte]
              refine hK5 _ ?_; try clear hK5 K5
              refine awp_keepL [1, 2, 3, 4, 8, 10, 12, 13, 14] ?_
              simp only [zz20, zzI, look_nil, Nat.reduceBEq]
              refine awp_plain F_mixed [some 47, some 48, some 14] rfl ?_
              simp only [List.nil_append, List.cons_append, true_and, and_true, zz0, true_implies, Nat.reduceLT, Nat.reduceLeDiff, zzI, look_nil, Nat.reduceBEq, implies_true, evS_move, zz21, gr_v, zz26, evS_assign, zz6, Nat.reduceEqDiff, ↓reduceIte]
              refine ⟨post.length, _, by simp, le_SK (fun r => bif r == 13 then 13 else r) [] rfl (l' := [(1, .d (iv who)), (2, .d (iv cur)), (3, .d (poss ((pre ++ [x]) ++ post))), (4, .ptr 4 0 0), (8, .ptr 8 0 0), (10, .ptr 10 0 0), (12, .d (iv 4)), (13, .ref 13 (pcs r who cur (pre ++ [x])).length), (14, .d (iv (pre ++ [x]).length))]) (m' := [(4, (⟨True, 26, 3, true, false, 4, [[.d (.sl 3 (r.mems.map memC)), .d (.sl 12 (r.insts.map instC)), .d (.sl 4 (r.assets.map assetC))]]⟩ : ARow)), (8, (⟨True, 31, 6, true, false, 8, [[.d (.v (.int .i64 0)), .d (.v (.int .i64 0)), .d (.v (.int .i64 0)), .d (.v (.int .i64 0)), .d (.v (.int .i64 0)), .d (.v (.int .i64 0))]]⟩ : ARow)), (10, (⟨True, 31, 6, true, false, 10, [[.d (iv (lossT (pcs r who cur l) 0)), .d (iv (lossT (pcs r who cur l) 1)), .d (iv (lossT (pcs r who cur l) 2)), .d (iv (lossT (pcs r who cur l) 3)), .d (.v (.int .i64 0)), .d (.v (.int .i64 0))]]⟩ : ARow)), (13, grow 59 2 13 (((pcs r who cur (pre ++ [x])).map (lossOf · 4)).map wideC))]) ?_ ?_ ?_ ?_, pre ++ [x], post, by simp [hsp], rfl, rfl⟩
              · simp only [leV, look_cons, Nat.reduceBEq, cond_true, cond_false, poss, len_map, List.append_assoc, List.singleton_append, wrap_len pre x (by have e := congrArg List.length hsp; simp only [List.length_append, List.length_cons, List.length_map] at e; omega)]
                refine ⟨VLe.still rfl, VLe.still rfl, VLe.still rfl, VLe.ptr_ (f := (fun r => bif r == 13 then 13 else r)) (r := 4) (by simp), VLe.ptr_ (f := (fun r => bif r == 13 then 13 else r)) (r := 8) (by simp), VLe.ptr_ (f := (fun r => bif r == 13 then 13 else r)) (r := 10) (by simp), VLe.still rfl, ?_, VLe.still rfl, trivial⟩
                rw [pcs_no hs]
                rw [show (AV.ref 13 _ : AV) = .ref ((fun r => bif r == 13 then 13 else r) 13) (pcs r who cur pre).length from by simp]; try exact VLe.ref_ (f := (fun r => bif r == 13 then 13 else r)) (r := 13) (by simp)
              · exact ⟨fun _ => ⟨_, rfl, RowLe.still (by simp [AV.idsL, AV.ids])⟩, fun h => by simp at h, fun _ => ⟨_, rfl, RowLe.still (by simp [AV.idsL, AV.ids])⟩, fun h => by simp at h, fun _ => ⟨_, rfl, RowLe.still (by simp [AV.idsL, AV.ids])⟩, fun h => by simp at h, fun _ => ⟨_, rfl, RowLe.data_ (by rw [pcs_no hs] <;> simp [wideC, lossOf, shN, pPiece, Int.mul_assoc])⟩, fun h => by simp at h, trivial⟩
              · simp [wfV, AV.ids, lookR, grow]
              · exact ⟨by simp [AV.idsL, AV.ids], by simp [AV.idsL, AV.ids], by simp [AV.idsL, AV.ids], wf_data _ _, trivial⟩
          · intro hb
            obtain rfl := none_of hb; clear hb
            simp only [List.append_nil] at hsp ⊢
            obtain rfl : l = pre := hsp
            refine awp_exit ?_
            simp only [zz6, Nat.reduceEqDiff, ↓reduceIte]
            refine hK3 _ ?_; try clear hK3 K3
            refine awp_keepL [1, 2, 3, 4, 8, 10, 12, 13] ?_
            simp only [zz20, zzI, look_nil, Nat.reduceBEq]
            refine awp_seq fun K3 hK3 => ?_
            refine awp_plain F_mixed [some 95, some 96, some 94, some 97, some 98, some 17, none, some 18] rfl ?_
            simp only [List.nil_append, List.cons_append, true_and, and_true, zz0, true_implies, Nat.reduceLT, Nat.reduceLeDiff, zzI, look_nil, Nat.reduceBEq, implies_true, evS_move, evS_call, evC_value, zz14, zzD, Nat.reduceAdd, Nat.zero_add, zzF, zz32, newRow1, F_zero59, zz16, Option.some.injEq, exists_eq_left', exists_eq_left, Option.map_some, eq_self, reduceCtorEq, and_self, zzB, zzE, zz10, zz18, F_ok59, F_sz59, splice, List.append_nil, zz1, zzG, evS_assign, wides, wideA, grow, hfit, zz6, Nat.reduceEqDiff, ↓reduceIte]
            refine call_go F_go26 (fun hG => WSum_ ((pcs r who cur l).map (lossOf · 4)) (by simp; omega) (fun y hy => by obtain ⟨x, hx, rfl⟩ := List.mem_map.1 hy; have := ((hps x hx).loss 4).2; omega)) (by simp [AV.ids, AV.idsL, wideA]) (by simp) ?_
            simp only [List.nil_append, List.cons_append, true_and, and_true, zz0, true_implies, Nat.reduceLT, Nat.reduceLeDiff, zzI, look_nil, Nat.reduceBEq, implies_true, evS_move, evS_call, evC_value, zz14, zzD, Nat.reduceAdd, Nat.zero_add, zzF, zz32, newRow1, F_zero59, zz16, Option.some.injEq, exists_eq_left', exists_eq_left, Option.map_some, eq_self, reduceCtorEq, and_self, zzB, zzE, zz10, zz18, F_ok59, F_sz59, splice, List.append_nil, zz1, zzG, evS_assign, wides, wideA, grow, hfit, zz6, Nat.reduceEqDiff, ↓reduceIte, atsL, oksG, freeN, AV.ren, AV.renL, addRows, ORow.row, Nat.reduceMul, Nat.reduceAdd, zz9, Option.bind_some, Option.map_some, forall_eq', D.sl.injEq, S_mem, Option.some.injEq, exists_eq_left', exists_eq_left, exists_eq', exists_eq, List.length_cons, zz2]
            refine ⟨by simp, ?_⟩
            refine hK3 _ ?_; try clear hK3 K3
            refine awp_keepL [1, 2, 3, 4, 8, 10, 12, 17, 18] ?_
            simp only [zz20, zzI, look_nil, Nat.reduceBEq]
            refine awp_seq fun K3 hK3 => ?_
            refine awp_plain F_mixed [some 100, some 101, some 99, some 102, some 103, some 19, some 20] rfl ?_
            simp only [List.nil_append, List.cons_append, true_and, and_true, zz0, true_implies, Nat.reduceLT, Nat.reduceLeDiff, zzI, look_nil, Nat.reduceBEq, implies_true, F_ok59, F_ag59, F_sz59, zz8, zz23, zzD, Nat.reduceAdd, Nat.zero_add, zzF, zzB, zzE, zz16, Option.some.injEq, exists_eq_left', exists_eq_left, Option.map_some, eq_self, reduceCtorEq, and_self, evS_call, evC_value, evS_move, zz14, evS_assign, wideC, wideA, zz6, Nat.reduceEqDiff, ↓reduceIte]
            refine call_go F_go27 (fun hG => Int_ ((pcs r who cur l).map (lossOf · 4)).sum) (by simp [AV.ids, AV.idsL, wideC, wideA]) (by simp) ?_
            simp only [List.nil_append, List.cons_append, true_and, and_true, zz0, true_implies, Nat.reduceLT, Nat.reduceLeDiff, zzI, look_nil, Nat.reduceBEq, implies_true, F_ok59, F_ag59, F_sz59, zz8, zz23, zzD, Nat.reduceAdd, Nat.zero_add, zzF, zzB, zzE, zz16, Option.some.injEq, exists_eq_left', exists_eq_left, Option.map_some, eq_self, reduceCtorEq, and_self, evS_call, evC_value, evS_move, zz14, evS_assign, wideC, wideA, zz6, Nat.reduceEqDiff, ↓reduceIte, atsL, oksG, freeN, AV.ren, AV.renL, addRows, ORow.row, Nat.reduceMul, Nat.reduceAdd, zz9, Option.bind_some, Option.map_some, forall_eq', D.sl.injEq, S_mem, Option.some.injEq, exists_eq_left', exists_eq_left, exists_eq', exists_eq, List.length_cons, zz2]
            refine hK3 _ ?_; try clear hK3 K3
            refine awp_keepL [1, 2, 3, 4, 8, 10, 12, 18, 19, 20] ?_
            simp only [zz20, zzI, look_nil, Nat.reduceBEq]
            refine awp_seq fun K3 hK3 => ?_
            refine awp_seq fun K4 hK4 => ?_
            refine awp_plain F_mixed [some 104, some 105, some 106, some 107, some 108, some 109] rfl ?_
            simp only [List.nil_append, List.cons_append, true_and, and_true, zz0, true_implies, Nat.reduceLT, Nat.reduceLeDiff, zzI, look_nil, Nat.reduceBEq, implies_true, Nat.reduceSub, S_getD, zz5, and_imp, imp_and, imp_self, and_self, evS_move, zz29, gr_v, zz30, zz13, zz6, Nat.reduceEqDiff, ↓reduceIte]
            refine hK4 _ ?_; try clear hK4 K4
            refine awp_keepL [1, 2, 3, 4, 8, 10, 12, 19, 109] ?_
            simp only [zz20, zzI, look_nil, Nat.reduceBEq]
            refine awp_condS _ (by decide) (by simp only [look_cons, Nat.reduceBEq, cond_true, cond_false]; rfl) ?_ ?_
            · intro hb
              have hj : rightN (lossT (pcs r who cur l) 4) = false := by have h2 := hb; simp at h2; exact h2
              clear hb
              refine awp_seq fun K5 hK5 => ?_
              refine awp_plain F_mixed [some 110, none, some 9] rfl ?_
              simp only [List.nil_append, List.cons_append, true_and, and_true, zz0, true_implies, Nat.reduceLT, Nat.reduceLeDiff, zzI, look_nil, Nat.reduceBEq, implies_true, F_zero31, F_bld31, zz7, splice, Option.getD_some, List.append_nil, zz1, zzG, zzD, zz16, Option.some.injEq, exists_eq_left', exists_eq_left, Option.map_some, eq_self, reduceCtorEq, and_self, Nat.reduceAdd, Nat.zero_add, zzF, zzB, zzE, zz10, zz18, F_ok31, F_sz31, evS_assign, zz6, Nat.reduceEqDiff, ↓reduceIte]
              refine hK5 _ ?_; try clear hK5 K5
              refine awp_keepL [8, 9] ?_
              simp only [zz20, zzI, look_nil, Nat.reduceBEq]
              refine awp_ret ?_
              simp only [zz6, Nat.reduceEqDiff, ↓reduceIte]
              try simp only [List.append_nil]
              refine done0 (by simp [resCs, resC, S, List.getD, look_cons, lookR, F_ag31, F_sz31, F_ok31]) ?_ (by simp [flatA, flatAs, flatD, lossA]) (by simp [AV.ids, AV.idsL, lossA])
              simp only [List.map_cons, List.map_nil, resA, S_getD, S_mem, lookR_cons, lookR_nil, Nat.reduceLT, Nat.reduceLeDiff, look_cons, Nat.reduceBEq, cond_true, cond_false, resAll, List.getD_cons_zero, List.getD_cons_succ, List.drop_zero, List.drop_succ_cons, List.take_succ_cons, List.take_zero, F_ag31, F_sz31, F_ok31]
              have e : lossE r who cur l = 1 := by simp [lossE, hE, lossOk, hj]
              have v : ∀ j, lossV r who cur l j = 0 := fun j => by simp [lossV, e]
              simp only [lossA, v, e]; try rfl
            · intro hb
              have hj : rightN (lossT (pcs r who cur l) 4) = true := by have h2 := hb; simp at h2; exact h2
              clear hb
              simp only [show rightN (List.map (fun x => lossOf x 4) (pcs r who cur l)).sum = true from hj, cond_true]
              have h4 := hj
              refine awp_skip ?_
              simp only [zz6, Nat.reduceEqDiff, ↓reduceIte]
              refine hK3 _ ?_; try clear hK3 K3
              refine awp_keepL [1, 2, 3, 4, 8, 10, 12, 19] ?_
              simp only [zz20, zzI, look_nil, Nat.reduceBEq]
              refine awp_plain F_mixed [some 111, some 112, some 113, none] rfl ?_
              simp only [List.nil_append, List.cons_append, true_and, and_true, zz0, true_implies, Nat.reduceLT, Nat.reduceLeDiff, zzI, look_nil, Nat.reduceBEq, implies_true, evS_move, evS_indexAddr, zz23, zz15, F_arr31, F_sz3, zz16, Option.some.injEq, exists_eq_left', exists_eq_left, Option.map_some, eq_self, reduceCtorEq, and_self, zz18, F_ok3, splice, List.append_nil, zzD, Nat.reduceAdd, Nat.zero_add, zzF, zzB, zzE, zz1, zzG, Int.reduceToNat, Int.reduceLT, Int.reduceLE, cast6, Nat.reduceMul, zz6, Nat.reduceEqDiff, ↓reduceIte]
              refine hK2 _ ?_; try clear hK2 K2
              refine awp_keepL [1, 2, 3, 4, 8, 10, 12] ?_
              simp only [zz20, zzI, look_nil, Nat.reduceBEq]
              refine awp_plain F_mixed [some 41, some 42, some 12] rfl ?_
              simp only [List.nil_append, List.cons_append, true_and, and_true, zz0, true_implies, Nat.reduceLT, Nat.reduceLeDiff, zzI, look_nil, Nat.reduceBEq, implies_true, evS_move, zz21, gr_v, zz26, evS_assign, zz6, Nat.reduceEqDiff, ↓reduceIte]
              refine ⟨1, _, by decide, le_SK id [] rfl (l' := [(1, .d (iv who)), (2, .d (iv cur)), (3, .d (poss l)), (4, .ptr 4 0 0), (8, .ptr 8 0 0), (10, .ptr 10 0 0), (12, .d (iv 5))]) (m' := [(4, (⟨True, 26, 3, true, false, 4, [[.d (.sl 3 (r.mems.map memC)), .d (.sl 12 (r.insts.map instC)), .d (.sl 4 (r.assets.map assetC))]]⟩ : ARow)), (8, (⟨True, 31, 6, true, false, 8, [[.d (.v (.int .i64 0)), .d (.v (.int .i64 0)), .d (.v (.int .i64 0)), .d (.v (.int .i64 0)), .d (.v (.int .i64 0)), .d (.v (.int .i64 0))]]⟩ : ARow)), (10, (⟨True, 31, 6, true, false, 10, [[.d (iv (lossT (pcs r who cur l) 0)), .d (iv (lossT (pcs r who cur l) 1)), .d (iv (lossT (pcs r who cur l) 2)), .d (iv (lossT (pcs r who cur l) 3)), .d (iv (lossT (pcs r who cur l) 4)), .d (.v (.int .i64 0))]]⟩ : ARow))]) ?_ ?_ ?_ ?_, .inr (.inr (.inr (.inr (.inr (.inl (⟨rfl, h0, h1, h2, h3, h4, rfl⟩))))))⟩
              · simp only [leV, look_cons, Nat.reduceBEq, cond_true, cond_false]; exact ⟨VLe.refl _, VLe.refl _, VLe.refl _, VLe.refl _, VLe.refl _, VLe.refl _, VLe.refl _, trivial⟩
              · exact ⟨fun _ => ⟨_, rfl, ⟨id, rfl, rfl, rfl, id, .inl, VLess.refl _⟩⟩, fun h => by simp at h, fun _ => ⟨_, rfl, ⟨id, rfl, rfl, rfl, id, .inl, VLess.refl _⟩⟩, fun h => by simp at h, fun _ => ⟨_, rfl, ⟨id, rfl, rfl, rfl, id, .inl, VLess.refl _⟩⟩, fun h => by simp at h, trivial⟩
              · simp [wfV, AV.ids, AV.idsL, lookR]
              · simp [wfR, AV.idsL, AV.ids]
        · intro hb
          simp at hb
      · skip
        refine awp_seq fun K2 hK2 => ?_
        refine awp_seq fun K3 hK3 => ?_
        refine awp_plain F_mixed [some 39, some 40] rfl ?_
        simp only [List.nil_append, List.cons_append, true_and, and_true, zz0, true_implies, Nat.reduceLT, Nat.reduceLeDiff, zzI, look_nil, Nat.reduceBEq, implies_true, evS_move, zz21, gr_v, zz22, zz6, Nat.reduceEqDiff, ↓reduceIte]
        refine hK3 _ ?_; try clear hK3 K3
        refine awp_keepL [1, 2, 3, 4, 8, 10, 12, 40] ?_
        simp only [zz20, zzI, look_nil, Nat.reduceBEq]
        refine awp_condS _ (by decide) (by simp only [look_cons, Nat.reduceBEq, cond_true, cond_false]; rfl) ?_ ?_
        · intro hb
          clear hb
          refine awp_skip ?_
          simp only [zz6, Nat.reduceEqDiff, ↓reduceIte]
          refine hK2 _ ?_; try clear hK2 K2
          refine awp_keepL [1, 2, 3, 4, 8, 10, 12] ?_
          simp only [zz20, zzI, look_nil, Nat.reduceBEq]
          refine awp_seq fun K2 hK2 => ?_
          refine awp_block ?_
          refine awp_seq fun K3 hK3 => ?_
          refine awp_plain F_mixed [some 13] rfl ?_
          simp only [List.nil_append, List.cons_append, true_and, and_true, zz0, true_implies, Nat.reduceLT, Nat.reduceLeDiff, zzI, look_nil, Nat.reduceBEq, implies_true, evS_assign, zz6, Nat.reduceEqDiff, ↓reduceIte]
          refine hK3 _ ?_; try clear hK3 K3
          refine awp_keepL [1, 2, 3, 4, 8, 10, 12, 13] ?_
          simp only [zz20, zzI, look_nil, Nat.reduceBEq]
          refine awp_seq fun K3 hK3 => ?_
          refine awp_seq fun K4 hK4 => ?_
          refine awp_plain F_mixed [some 14] rfl ?_
          simp only [List.nil_append, List.cons_append, true_and, and_true, zz0, true_implies, Nat.reduceLT, Nat.reduceLeDiff, zzI, look_nil, Nat.reduceBEq, implies_true, evS_assign, zz6, Nat.reduceEqDiff, ↓reduceIte]
          refine hK4 _ ?_; try clear hK4 K4
          refine awp_keepL [1, 2, 3, 4, 8, 10, 12, 13, 14] ?_
          simp only [zz20, zzI, look_nil, Nat.reduceBEq]
          refine awp_block ?_
          refine awp_loop (fun m s => ∃ pre post : List PosV, l = pre ++ post ∧ m = post.length ∧ s = S 115 [(1, .d (iv who)), (2, .d (iv cur)), (3, .d (poss (pre ++ post))), (4, .ptr 4 0 0), (8, .ptr 8 0 0), (10, .ptr 10 0 0), (12, .d (iv 5)), (13, .ref 13 (pcs r who cur pre).length), (14, .d (iv pre.length))] [(4, (⟨True, 26, 3, true, false, 4, [[.d (.sl 3 (r.mems.map memC)), .d (.sl 12 (r.insts.map instC)), .d (.sl 4 (r.assets.map assetC))]]⟩ : ARow)), (8, (⟨True, 31, 6, true, false, 8, [[.d (.v (.int .i64 0)), .d (.v (.int .i64 0)), .d (.v (.int .i64 0)), .d (.v (.int .i64 0)), .d (.v (.int .i64 0)), .d (.v (.int .i64 0))]]⟩ : ARow)), (10, (⟨True, 31, 6, true, false, 10, [[.d (iv (lossT (pcs r who cur l) 0)), .d (iv (lossT (pcs r who cur l) 1)), .d (iv (lossT (pcs r who cur l) 2)), .d (iv (lossT (pcs r who cur l) 3)), .d (iv (lossT (pcs r who cur l) 4)), .d (.v (.int .i64 0))]]⟩ : ARow)), (13, grow 59 2 13 (((pcs r who cur pre).map (lossOf · 5)).map wideC))]) l.length _ (le_SK id [13] rfl (l' := [(1, .d (iv who)), (2, .d (iv cur)), (3, .d (poss (([] : List PosV) ++ l))), (4, .ptr 4 0 0), (8, .ptr 8 0 0), (10, .ptr 10 0 0), (12, .d (iv 5)), (13, .ref 13 (pcs r who cur ([] : List PosV)).length), (14, .d (iv ([] : List PosV).length))]) (m' := [(4, (⟨True, 26, 3, true, false, 4, [[.d (.sl 3 (r.mems.map memC)), .d (.sl 12 (r.insts.map instC)), .d (.sl 4 (r.assets.map assetC))]]⟩ : ARow)), (8, (⟨True, 31, 6, true, false, 8, [[.d (.v (.int .i64 0)), .d (.v (.int .i64 0)), .d (.v (.int .i64 0)), .d (.v (.int .i64 0)), .d (.v (.int .i64 0)), .d (.v (.int .i64 0))]]⟩ : ARow)), (10, (⟨True, 31, 6, true, false, 10, [[.d (iv (lossT (pcs r who cur l) 0)), .d (iv (lossT (pcs r who cur l) 1)), .d (iv (lossT (pcs r who cur l) 2)), .d (iv (lossT (pcs r who cur l) 3)), .d (iv (lossT (pcs r who cur l) 4)), .d (.v (.int .i64 0))]]⟩ : ARow)), (13, grow 59 2 13 (((pcs r who cur ([] : List PosV)).map (lossOf · 5)).map wideC))]) ?_ ?_ ?_ ?_) ⟨[], l, rfl, rfl, rfl⟩ ?_
          · simp only [leV, look_cons, Nat.reduceBEq, cond_true, cond_false, List.nil_append]; exact ⟨VLe.still rfl, VLe.still rfl, VLe.still rfl, VLe.ptr_ (f := id) (r := 4) (by simp), VLe.ptr_ (f := id) (r := 8) (by simp), VLe.ptr_ (f := id) (r := 10) (by simp), VLe.still rfl, VLe.nil_ (by decide), VLe.still rfl, trivial⟩
          · exact ⟨fun _ => ⟨_, rfl, RowLe.still (by simp [AV.idsL, AV.ids])⟩, fun h => by simp at h, fun _ => ⟨_, rfl, RowLe.still (by simp [AV.idsL, AV.ids])⟩, fun h => by simp at h, fun _ => ⟨_, rfl, RowLe.still (by simp [AV.idsL, AV.ids])⟩, fun h => by simp at h, fun h => by simp at h, fun _ => rfl, trivial⟩
          · simp [wfV, AV.ids, lookR]
          · simp [wfR, grow, pcs, AV.idsL, AV.ids]
          rintro m s ⟨pre, post, hsp, rfl, rfl⟩
          have hppl := pcs_len r who cur pre
          refine awp_seq fun K5 hK5 => ?_
          refine awp_seq fun K6 hK6 => ?_
          refine awp_plain F_mixed [some 43, some 44, some 45, some 46] rfl ?_
          simp only [List.nil_append, List.cons_append, true_and, and_true, zz0, true_implies, Nat.reduceLT, Nat.reduceLeDiff, zzI, look_nil, Nat.reduceBEq, implies_true, evS_move, evS_call, zz12, F_sl27, Option.isSome_some, zz21, gr_v, zz22, poss, len_map, zz6, Nat.reduceEqDiff, ↓reduceIte]
          refine hK6 _ ?_; try clear hK6 K6
          refine awp_keepL [1, 2, 3, 4, 8, 10, 12, 13, 14, 46] ?_
          simp only [zz20, zzI, look_nil, Nat.reduceBEq]
          refine awp_condS _ (by decide) (by simp only [look_cons, Nat.reduceBEq, cond_true, cond_false]; rfl) ?_ ?_
          · intro hb
            obtain ⟨x, post, rfl⟩ := more_of hb; clear hb
            refine awp_skip ?_
            simp only [zz6, Nat.reduceEqDiff, ↓reduceIte]
            refine hK5 _ ?_; try clear hK5 K5
            refine awp_keepL [1, 2, 3, 4, 8, 10, 12, 13, 14] ?_
            simp only [zz20, zzI, look_nil, Nat.reduceBEq]
            refine awp_seq fun K5 hK5 => ?_
            refine awp_block ?_
            refine awp_seq fun K6 hK6 => ?_
            refine awp_draw F_mixed [some 50, some 51, some 52, some 53, some 54, some 55, some 56, some 57, some 49, some 58, some 59, some 15, none, some 16] rfl (by kernel_rfl) ?_
            simp only [List.nil_append, List.cons_append, true_and, and_true, zz0, true_implies, Nat.reduceLT, Nat.reduceLeDiff, zzI, look_nil, Nat.reduceBEq, implies_true, F_ok26, F_ag26, F_sz26, zz8, zz23, zzD, Nat.reduceAdd, Nat.zero_add, zzF, zzB, zzE, zz16, Option.some.injEq, exists_eq_left', exists_eq_left, Option.map_some, eq_self, reduceCtorEq, and_self, evS_move, evS_indexAddr, zz24, F_sl27, F_sz46, zz19, F_off46_0, F_off44_1, F_ok3, F_ag3, F_sz3, evS_call, evC_value, zz14, zz32, newRow1, F_zero49, zz10, zz18, F_ok49, F_sz49, splice, List.append_nil, zz1, zzG, evS_assign, poss, posC, getD_mid, len_map, lt_mid, ge_mid, memsD, instsD, assetsD, rollC, D.agg.injEq, memA, memC, instA, instC, List.map_cons, zz6, Nat.reduceEqDiff, ↓reduceIte]
            refine call_go F_go24 (fun hG => rInst_ r.mems r.insts r.assets x.inst h.insts) (by simp [AV.ids, AV.idsL, instA, instC]) (by simp) ?_
            simp only [List.nil_append, List.cons_append, true_and, and_true, zz0, true_implies, Nat.reduceLT, Nat.reduceLeDiff, zzI, look_nil, Nat.reduceBEq, implies_true, F_ok26, F_ag26, F_sz26, zz8, zz23, zzD, Nat.reduceAdd, Nat.zero_add, zzF, zzB, zzE, zz16, Option.some.injEq, exists_eq_left', exists_eq_left, Option.map_some, eq_self, reduceCtorEq, and_self, evS_move, evS_indexAddr, zz24, F_sl27, F_sz46, zz19, F_off46_0, F_off44_1, F_ok3, F_ag3, F_sz3, evS_call, evC_value, zz14, zz32, newRow1, F_zero49, zz10, zz18, F_ok49, F_sz49, splice, List.append_nil, zz1, zzG, evS_assign, poss, posC, getD_mid, len_map, lt_mid, ge_mid, memsD, instsD, assetsD, rollC, D.agg.injEq, memA, memC, instA, instC, List.map_cons, zz6, Nat.reduceEqDiff, ↓reduceIte, atsL, oksG, freeN, AV.ren, AV.renL, addRows, ORow.row, Nat.reduceMul, Nat.reduceAdd, zz9, Option.bind_some, Option.map_some, forall_eq', D.sl.injEq, S_mem, Option.some.injEq, exists_eq_left', exists_eq_left, exists_eq', exists_eq, List.length_cons, zz2]
            refine hK6 _ ?_; try clear hK6 K6
            refine awp_keepL [1, 2, 3, 4, 8, 10, 12, 13, 14, 15, 16] ?_
            simp only [zz20, zzI, look_nil, Nat.reduceBEq]
            refine awp_seq fun K6 hK6 => ?_
            refine awp_plain F_mixed [some 60, some 61, some 62, some 63, some 64, some 65, some 66, some 67, some 68, some 69, some 70, some 71, some 72, some 73, some 74, some 75, some 76] rfl ?_
            simp only [List.nil_append, List.cons_append, true_and, and_true, zz0, true_implies, Nat.reduceLT, Nat.reduceLeDiff, zzI, look_nil, Nat.reduceBEq, implies_true, Nat.reduceSub, S_getD, zz5, and_imp, imp_and, imp_self, and_self, evS_move, evS_indexAddr, zz23, zz24, F_sl27, F_sz46, Option.map_some, zz16, Option.some.injEq, exists_eq_left', exists_eq_left, eq_self, reduceCtorEq, zz19, F_off46_0, zzB, Nat.zero_add, Nat.reduceAdd, F_off44_0, F_ok3, F_ag3, F_sz3, zz8, zzD, zzF, zzE, zz21, gr_v, zz34, zz13, F_off49_1, poss, posC, getD_mid, len_map, lt_mid, ge_mid, zz6, Nat.reduceEqDiff, ↓reduceIte]
            refine hK6 _ ?_; try clear hK6 K6
            refine awp_keepL [1, 2, 3, 4, 8, 10, 12, 13, 14, 15, 76] ?_
            simp only [zz20, zzI, look_nil, Nat.reduceBEq]
            refine awp_condS _ (by decide) (by simp only [look_cons, Nat.reduceBEq, cond_true, cond_false]; rfl) ?_ ?_
            · intro hb
              have hs : pSel r who cur x = true := hb
              clear hb
              have hx : PieceOk (pPiece r x) := pPiece_ok hr (List.all_eq_true.1 hp x (by rw [hsp]; simp)) hs
              have hb := hx.loss 5
              have hsj := hx.s 5
              have q0 := hx.q0; have q1 := hx.q1; have m0 := hx.m0; have m1 := hx.m1
              simp only [shN, pPiece] at hsj q0 q1 m0 m1 hb
              have hw : IntKind.wrap .i64 (0 - x.qty) = -x.qty := by rw [wrapI (n := 0 - x.qty) (by omega) (by omega)]; omega
              have hm2 := abs_mul (a := (findX InstV.no x.inst zInst r.insts).mult) (b := (findX InstV.no x.inst zInst r.insts).s5) (x := 1024) (y := 1073741824) (by omega) (by omega)
              have hw2 : IntKind.wrap .i64 ((findX InstV.no x.inst zInst r.insts).mult * (findX InstV.no x.inst zInst r.insts).s5) = (findX InstV.no x.inst zInst r.insts).mult * (findX InstV.no x.inst zInst r.insts).s5 := wrapI (by omega) (by omega)
              refine awp_draw F_mixed [some 77, some 78, some 79, some 80, some 81, some 82, some 83, some 84, some 85, some 86, some 87, some 88, some 89, some 90, some 91, some 92, some 93, some 13] rfl (by kernel_rfl) ?_
              simp only [List.nil_append, List.cons_append, true_and, and_true, zz0, true_implies, Nat.reduceLT, Nat.reduceLeDiff, zzI, look_nil, Nat.reduceBEq, implies_true, evS_move, evS_indexAddr, zz23, zz24, F_sl27, F_sz46, Option.map_some, zz16, Option.some.injEq, exists_eq_left', exists_eq_left, eq_self, reduceCtorEq, and_self, zz19, F_off46_1, zzB, Nat.zero_add, Nat.reduceAdd, F_ok3, F_ag3, F_sz3, zz8, zzD, zzF, zzE, zz29, gr_v, zz37, F_off49_2, F_off49_6, zz15, F_arr31, zz21, zz36, evS_call, evC_value, F_sl54, F_zero59, F_sz59, zz3, newRow1, zz1, zzG, maxLen_le, Nat.reduceMul, F_by59, zz4, zz9, Option.bind_some, evS_assign, poss, posC, getD_mid, len_map, lt_mid, ge_mid, hw, hw2, wideA, grow, D.agg.injEq, unDs_map, Int.reduceToNat, Int.reduceLT, Int.reduceLE, cast6, Nat.reduceMul, zz6, Nat.reduceEqDiff, ↓reduceIte]
              refine call_go F_go25 (fun hG => rTimes_ (-x.qty) ((findX InstV.no x.inst zInst r.insts).mult * (findX InstV.no x.inst zInst r.insts).s5) (by omega) (by omega) (by omega) (by omega)) (by simp [AV.ids, AV.idsL, wideA]) (by simp) ?_
              simp only [List.nil_append, List.cons_append, true_and, and_true, zz0, true_implies, Nat.reduceLT, Nat.reduceLeDiff, zzI, look_nil, Nat.reduceBEq, implies_true, evS_move, evS_indexAddr, zz23, zz24, F_sl27, F_sz46, Option.map_some, zz16, Option.some.injEq, exists_eq_left', exists_eq_left, eq_self, reduceCtorEq, and_self, zz19, F_off46_1, zzB, Nat.zero_add, Nat.reduceAdd, F_ok3, F_ag3, F_sz3, zz8, zzD, zzF, zzE, zz29, gr_v, zz37, F_off49_2, F_off49_6, zz15, F_arr31, zz21, zz36, evS_call, evC_value, F_sl54, F_zero59, F_sz59, zz3, newRow1, zz1, zzG, maxLen_le, Nat.reduceMul, F_by59, zz4, zz9, Option.bind_some, evS_assign, poss, posC, getD_mid, len_map, lt_mid, ge_mid, hw, hw2, wideA, grow, D.agg.injEq, unDs_map, Int.reduceToNat, Int.reduceLT, Int.reduceLE, cast6, Nat.reduceMul, zz6, Nat.reduceEqDiff, ↓reduceIte, atsL, oksG, freeN, AV.ren, AV.renL, addRows, ORow.row, Nat.reduceMul, Nat.reduceAdd, unDs_cons, Option.bind_some, Option.map_some, forall_eq', D.sl.injEq, S_mem, Option.some.injEq, exists_eq_left', exists_eq_left, exists_eq', exists_eq, List.length_cons, zz2]
              have hm : (pcs r who cur pre).length + 1 ≤ 1000000 := by have e := congrArg List.length hsp; simp only [List.length_append, List.length_cons] at e; omega
              first | refine ⟨le_maxLen hm, by omega, ?_⟩ | refine ⟨by simp, le_maxLen hm, by omega, ?_⟩
              clear hm
              refine hK5 _ ?_; try clear hK5 K5
              refine awp_keepL [1, 2, 3, 4, 8, 10, 12, 13, 14] ?_
              simp only [zz20, zzI, look_nil, Nat.reduceBEq]
              refine awp_plain F_mixed [some 47, some 48, some 14] rfl ?_
              simp only [List.nil_append, List.cons_append, true_and, and_true, zz0, true_implies, Nat.reduceLT, Nat.reduceLeDiff, zzI, look_nil, Nat.reduceBEq, implies_true, evS_move, zz21, gr_v, zz26, evS_assign, zz6, Nat.reduceEqDiff, ↓reduceIte]
              refine ⟨post.length, _, by simp, le_SK (fun r => bif r == 13 then 93 else r) [] rfl (l' := [(1, .d (iv who)), (2, .d (iv cur)), (3, .d (poss ((pre ++ [x]) ++ post))), (4, .ptr 4 0 0), (8, .ptr 8 0 0), (10, .ptr 10 0 0), (12, .d (iv 5)), (13, .ref 13 (pcs r who cur (pre ++ [x])).length), (14, .d (iv (pre ++ [x]).length))]) (m' := [(4, (⟨True, 26, 3, true, false, 4, [[.d (.sl 3 (r.mems.map memC)), .d (.sl 12 (r.insts.map instC)), .d (.sl 4 (r.assets.map assetC))]]⟩ : ARow)), (8, (⟨True, 31, 6, true, false, 8, [[.d (.v (.int .i64 0)), .d (.v (.int .i64 0)), .d (.v (.int .i64 0)), .d (.v (.int .i64 0)), .d (.v (.int .i64 0)), .d (.v (.int .i64 0))]]⟩ : ARow)), (10, (⟨True, 31, 6, true, false, 10, [[.d (iv (lossT (pcs r who cur l) 0)), .d (iv (lossT (pcs r who cur l) 1)), .d (iv (lossT (pcs r who cur l) 2)), .d (iv (lossT (pcs r who cur l) 3)), .d (iv (lossT (pcs r who cur l) 4)), .d (.v (.int .i64 0))]]⟩ : ARow)), (13, grow 59 2 13 (((pcs r who cur (pre ++ [x])).map (lossOf · 5)).map wideC))]) ?_ ?_ ?_ ?_, pre ++ [x], post, by simp [hsp], rfl, rfl⟩
              · simp only [leV, look_cons, Nat.reduceBEq, cond_true, cond_false, poss, len_map, List.append_assoc, List.singleton_append, wrap_len pre x (by have e := congrArg List.length hsp; simp only [List.length_append, List.length_cons, List.length_map] at e; omega)]
                refine ⟨VLe.still rfl, VLe.still rfl, VLe.still rfl, VLe.ptr_ (f := (fun r => bif r == 13 then 93 else r)) (r := 4) (by simp), VLe.ptr_ (f := (fun r => bif r == 13 then 93 else r)) (r := 8) (by simp), VLe.ptr_ (f := (fun r => bif r == 13 then 93 else r)) (r := 10) (by simp), VLe.still rfl, ?_, VLe.still rfl, trivial⟩
                rw [pcs_yes hs]
                rw [show (AV.ref 93 _ : AV) = .ref ((fun r => bif r == 13 then 93 else r) 13) (pcs r who cur pre ++ [pPiece r x]).length from by simp]; try exact VLe.ref_ (f := (fun r => bif r == 13 then 93 else r)) (r := 13) (by simp)
              · exact ⟨fun _ => ⟨_, rfl, RowLe.still (by simp [AV.idsL, AV.ids])⟩, fun h => by simp at h, fun _ => ⟨_, rfl, RowLe.still (by simp [AV.idsL, AV.ids])⟩, fun h => by simp at h, fun _ => ⟨_, rfl, RowLe.still (by simp [AV.idsL, AV.ids])⟩, fun h => by simp at h, fun _ => ⟨_, rfl, RowLe.data_ (by rw [pcs_yes hs] <;> simp [wideC, lossOf, shN, pPiece, Int.mul_assoc])⟩, fun h => by simp at h, trivial⟩
              · simp [wfV, AV.ids, lookR, grow]
              · exact ⟨by simp [AV.idsL, AV.ids], by simp [AV.idsL, AV.ids], by simp [AV.idsL, AV.ids], wf_data _ _, trivial⟩
            · intro hb
              have hs : pSel r who cur x = false := hb
              clear hb
              refine awp_skip ?_
              simp only [zz6, Nat.reduceEqDiff, ↓reduceIte]
              refine hK5 _ ?_; try clear hK5 K5
              refine awp_keepL [1, 2, 3, 4, 8, 10, 12, 13, 14] ?_
              simp only [zz20, zzI, look_nil, Nat.reduceBEq]
              refine awp_plain F_mixed [some 47, some 48, some 14] rfl ?_
              simp only [List.nil_append, List.cons_append, true_and, and_true, zz0, true_implies, Nat.reduceLT, Nat.reduceLeDiff, zzI, look_nil, Nat.reduceBEq, implies_true, evS_move, zz21, gr_v, zz26, evS_assign, zz6, Nat.reduceEqDiff, ↓reduceIte]
              refine ⟨post.length, _, by simp, le_SK (fun r => bif r == 13 then 13 else r) [] rfl (l' := [(1, .d (iv who)), (2, .d (iv cur)), (3, .d (poss ((pre ++ [x]) ++ post))), (4, .ptr 4 0 0), (8, .ptr 8 0 0), (10, .ptr 10 0 0), (12, .d (iv 5)), (13, .ref 13 (pcs r who cur (pre ++ [x])).length), (14, .d (iv (pre ++ [x]).length))]) (m' := [(4, (⟨True, 26, 3, true, false, 4, [[.d (.sl 3 (r.mems.map memC)), .d (.sl 12 (r.insts.map instC)), .d (.sl 4 (r.assets.map assetC))]]⟩ : ARow)), (8, (⟨True, 31, 6, true, false, 8, [[.d (.v (.int .i64 0)), .d (.v (.int .i64 0)), .d (.v (.int .i64 0)), .d (.v (.int .i64 0)), .d (.v (.int .i64 0)), .d (.v (.int .i64 0))]]⟩ : ARow)), (10, (⟨True, 31, 6, true, false, 10, [[.d (iv (lossT (pcs r who cur l) 0)), .d (iv (lossT (pcs r who cur l) 1)), .d (iv (lossT (pcs r who cur l) 2)), .d (iv (lossT (pcs r who cur l) 3)), .d (iv (lossT (pcs r who cur l) 4)), .d (.v (.int .i64 0))]]⟩ : ARow)), (13, grow 59 2 13 (((pcs r who cur (pre ++ [x])).map (lossOf · 5)).map wideC))]) ?_ ?_ ?_ ?_, pre ++ [x], post, by simp [hsp], rfl, rfl⟩
              · simp only [leV, look_cons, Nat.reduceBEq, cond_true, cond_false, poss, len_map, List.append_assoc, List.singleton_append, wrap_len pre x (by have e := congrArg List.length hsp; simp only [List.length_append, List.length_cons, List.length_map] at e; omega)]
                refine ⟨VLe.still rfl, VLe.still rfl, VLe.still rfl, VLe.ptr_ (f := (fun r => bif r == 13 then 13 else r)) (r := 4) (by simp), VLe.ptr_ (f := (fun r => bif r == 13 then 13 else r)) (r := 8) (by simp), VLe.ptr_ (f := (fun r => bif r == 13 then 13 else r)) (r := 10) (by simp), VLe.still rfl, ?_, VLe.still rfl, trivial⟩
                rw [pcs_no hs]
                rw [show (AV.ref 13 _ : AV) = .ref ((fun r => bif r == 13 then 13 else r) 13) (pcs r who cur pre).length from by simp]; try exact VLe.ref_ (f := (fun r => bif r == 13 then 13 else r)) (r := 13) (by simp)
              · exact ⟨fun _ => ⟨_, rfl, RowLe.still (by simp [AV.idsL, AV.ids])⟩, fun h => by simp at h, fun _ => ⟨_, rfl, RowLe.still (by simp [AV.idsL, AV.ids])⟩, fun h => by simp at h, fun _ => ⟨_, rfl, RowLe.still (by simp [AV.idsL, AV.ids])⟩, fun h => by simp at h, fun _ => ⟨_, rfl, RowLe.data_ (by rw [pcs_no hs] <;> simp [wideC, lossOf, shN, pPiece, Int.mul_assoc])⟩, fun h => by simp at h, trivial⟩
              · simp [wfV, AV.ids, lookR, grow]
              · exact ⟨by simp [AV.idsL, AV.ids], by simp [AV.idsL, AV.ids], by simp [AV.idsL, AV.ids], wf_data _ _, trivial⟩
          · intro hb
            obtain rfl := none_of hb; clear hb
            simp only [List.append_nil] at hsp ⊢
            obtain rfl : l = pre := hsp
            refine awp_exit ?_
            simp only [zz6, Nat.reduceEqDiff, ↓reduceIte]
            refine hK3 _ ?_; try clear hK3 K3
            refine awp_keepL [1, 2, 3, 4, 8, 10, 12, 13] ?_
            simp only [zz20, zzI, look_nil, Nat.reduceBEq]
            refine awp_seq fun K3 hK3 => ?_
            refine awp_plain F_mixed [some 95, some 96, some 94, some 97, some 98, some 17, none, some 18] rfl ?_
            simp only [List.nil_append, List.cons_append, true_and, and_true, zz0, true_implies, Nat.reduceLT, Nat.reduceLeDiff, zzI, look_nil, Nat.reduceBEq, implies_true, evS_move, evS_call, evC_value, zz14, zzD, Nat.reduceAdd, Nat.zero_add, zzF, zz32, newRow1, F_zero59, zz16, Option.some.injEq, exists_eq_left', exists_eq_left, Option.map_some, eq_self, reduceCtorEq, and_self, zzB, zzE, zz10, zz18, F_ok59, F_sz59, splice, List.append_nil, zz1, zzG, evS_assign, wides, wideA, grow, hfit, zz6, Nat.reduceEqDiff, ↓reduceIte]
            refine call_go F_go26 (fun hG => WSum_ ((pcs r who cur l).map (lossOf · 5)) (by simp; omega) (fun y hy => by obtain ⟨x, hx, rfl⟩ := List.mem_map.1 hy; have := ((hps x hx).loss 5).2; omega)) (by simp [AV.ids, AV.idsL, wideA]) (by simp) ?_
            simp only [List.nil_append, List.cons_append, true_and, and_true, zz0, true_implies, Nat.reduceLT, Nat.reduceLeDiff, zzI, look_nil, Nat.reduceBEq, implies_true, evS_move, evS_call, evC_value, zz14, zzD, Nat.reduceAdd, Nat.zero_add, zzF, zz32, newRow1, F_zero59, zz16, Option.some.injEq, exists_eq_left', exists_eq_left, Option.map_some, eq_self, reduceCtorEq, and_self, zzB, zzE, zz10, zz18, F_ok59, F_sz59, splice, List.append_nil, zz1, zzG, evS_assign, wides, wideA, grow, hfit, zz6, Nat.reduceEqDiff, ↓reduceIte, atsL, oksG, freeN, AV.ren, AV.renL, addRows, ORow.row, Nat.reduceMul, Nat.reduceAdd, zz9, Option.bind_some, Option.map_some, forall_eq', D.sl.injEq, S_mem, Option.some.injEq, exists_eq_left', exists_eq_left, exists_eq', exists_eq, List.length_cons, zz2]
            refine ⟨by simp, ?_⟩
            refine hK3 _ ?_; try clear hK3 K3
            refine awp_keepL [1, 2, 3, 4, 8, 10, 12, 17, 18] ?_
            simp only [zz20, zzI, look_nil, Nat.reduceBEq]
            refine awp_seq fun K3 hK3 => ?_
            refine awp_plain F_mixed [some 100, some 101, some 99, some 102, some 103, some 19, some 20] rfl ?_
            simp only [List.nil_append, List.cons_append, true_and, and_true, zz0, true_implies, Nat.reduceLT, Nat.reduceLeDiff, zzI, look_nil, Nat.reduceBEq, implies_true, F_ok59, F_ag59, F_sz59, zz8, zz23, zzD, Nat.reduceAdd, Nat.zero_add, zzF, zzB, zzE, zz16, Option.some.injEq, exists_eq_left', exists_eq_left, Option.map_some, eq_self, reduceCtorEq, and_self, evS_call, evC_value, evS_move, zz14, evS_assign, wideC, wideA, zz6, Nat.reduceEqDiff, ↓reduceIte]
            refine call_go F_go27 (fun hG => Int_ ((pcs r who cur l).map (lossOf · 5)).sum) (by simp [AV.ids, AV.idsL, wideC, wideA]) (by simp) ?_
            simp only [List.nil_append, List.cons_append, true_and, and_true, zz0, true_implies, Nat.reduceLT, Nat.reduceLeDiff, zzI, look_nil, Nat.reduceBEq, implies_true, F_ok59, F_ag59, F_sz59, zz8, zz23, zzD, Nat.reduceAdd, Nat.zero_add, zzF, zzB, zzE, zz16, Option.some.injEq, exists_eq_left', exists_eq_left, Option.map_some, eq_self, reduceCtorEq, and_self, evS_call, evC_value, evS_move, zz14, evS_assign, wideC, wideA, zz6, Nat.reduceEqDiff, ↓reduceIte, atsL, oksG, freeN, AV.ren, AV.renL, addRows, ORow.row, Nat.reduceMul, Nat.reduceAdd, zz9, Option.bind_some, Option.map_some, forall_eq', D.sl.injEq, S_mem, Option.some.injEq, exists_eq_left', exists_eq_left, exists_eq', exists_eq, List.length_cons, zz2]
            refine hK3 _ ?_; try clear hK3 K3
            refine awp_keepL [1, 2, 3, 4, 8, 10, 12, 18, 19, 20] ?_
            simp only [zz20, zzI, look_nil, Nat.reduceBEq]
            refine awp_seq fun K3 hK3 => ?_
            refine awp_seq fun K4 hK4 => ?_
            refine awp_plain F_mixed [some 104, some 105, some 106, some 107, some 108, some 109] rfl ?_
            simp only [List.nil_append, List.cons_append, true_and, and_true, zz0, true_implies, Nat.reduceLT, Nat.reduceLeDiff, zzI, look_nil, Nat.reduceBEq, implies_true, Nat.reduceSub, S_getD, zz5, and_imp, imp_and, imp_self, and_self, evS_move, zz29, gr_v, zz30, zz13, zz6, Nat.reduceEqDiff, ↓reduceIte]
            refine hK4 _ ?_; try clear hK4 K4
            refine awp_keepL [1, 2, 3, 4, 8, 10, 12, 19, 109] ?_
            simp only [zz20, zzI, look_nil, Nat.reduceBEq]
            refine awp_condS _ (by decide) (by simp only [look_cons, Nat.reduceBEq, cond_true, cond_false]; rfl) ?_ ?_
            · intro hb
              have hj : rightN (lossT (pcs r who cur l) 5) = false := by have h2 := hb; simp at h2; exact h2
              clear hb
              refine awp_seq fun K5 hK5 => ?_
              refine awp_plain F_mixed [some 110, none, some 9] rfl ?_
              simp only [List.nil_append, List.cons_append, true_and, and_true, zz0, true_implies, Nat.reduceLT, Nat.reduceLeDiff, zzI, look_nil, Nat.reduceBEq, implies_true, F_zero31, F_bld31, zz7, splice, Option.getD_some, List.append_nil, zz1, zzG, zzD, zz16, Option.some.injEq, exists_eq_left', exists_eq_left, Option.map_some, eq_self, reduceCtorEq, and_self, Nat.reduceAdd, Nat.zero_add, zzF, zzB, zzE, zz10, zz18, F_ok31, F_sz31, evS_assign, zz6, Nat.reduceEqDiff, ↓reduceIte]
              refine hK5 _ ?_; try clear hK5 K5
              refine awp_keepL [8, 9] ?_
              simp only [zz20, zzI, look_nil, Nat.reduceBEq]
              refine awp_ret ?_
              simp only [zz6, Nat.reduceEqDiff, ↓reduceIte]
              try simp only [List.append_nil]
              refine done0 (by simp [resCs, resC, S, List.getD, look_cons, lookR, F_ag31, F_sz31, F_ok31]) ?_ (by simp [flatA, flatAs, flatD, lossA]) (by simp [AV.ids, AV.idsL, lossA])
              simp only [List.map_cons, List.map_nil, resA, S_getD, S_mem, lookR_cons, lookR_nil, Nat.reduceLT, Nat.reduceLeDiff, look_cons, Nat.reduceBEq, cond_true, cond_false, resAll, List.getD_cons_zero, List.getD_cons_succ, List.drop_zero, List.drop_succ_cons, List.take_succ_cons, List.take_zero, F_ag31, F_sz31, F_ok31]
              have e : lossE r who cur l = 1 := by simp [lossE, hE, lossOk, hj]
              have v : ∀ j, lossV r who cur l j = 0 := fun j => by simp [lossV, e]
              simp only [lossA, v, e]; try rfl
            · intro hb
              have hj : rightN (lossT (pcs r who cur l) 5) = true := by have h2 := hb; simp at h2; exact h2
              clear hb
              simp only [show rightN (List.map (fun x => lossOf x 5) (pcs r who cur l)).sum = true from hj, cond_true]
              have h5 := hj
              refine awp_skip ?_
              simp only [zz6, Nat.reduceEqDiff, ↓reduceIte]
              refine hK3 _ ?_; try clear hK3 K3
              refine awp_keepL [1, 2, 3, 4, 8, 10, 12, 19] ?_
              simp only [zz20, zzI, look_nil, Nat.reduceBEq]
              refine awp_plain F_mixed [some 111, some 112, some 113, none] rfl ?_
              simp only [List.nil_append, List.cons_append, true_and, and_true, zz0, true_implies, Nat.reduceLT, Nat.reduceLeDiff, zzI, look_nil, Nat.reduceBEq, implies_true, evS_move, evS_indexAddr, zz23, zz15, F_arr31, F_sz3, zz16, Option.some.injEq, exists_eq_left', exists_eq_left, Option.map_some, eq_self, reduceCtorEq, and_self, zz18, F_ok3, splice, List.append_nil, zzD, Nat.reduceAdd, Nat.zero_add, zzF, zzB, zzE, zz1, zzG, Int.reduceToNat, Int.reduceLT, Int.reduceLE, cast6, Nat.reduceMul, zz6, Nat.reduceEqDiff, ↓reduceIte]
              refine hK2 _ ?_; try clear hK2 K2
              refine awp_keepL [1, 2, 3, 4, 8, 10, 12] ?_
              simp only [zz20, zzI, look_nil, Nat.reduceBEq]
              refine awp_plain F_mixed [some 41, some 42, some 12] rfl ?_
              simp only [List.nil_append, List.cons_append, true_and, and_true, zz0, true_implies, Nat.reduceLT, Nat.reduceLeDiff, zzI, look_nil, Nat.reduceBEq, implies_true, evS_move, zz21, gr_v, zz26, evS_assign, zz6, Nat.reduceEqDiff, ↓reduceIte]
              refine ⟨0, _, by decide, le_SK id [] rfl (l' := [(1, .d (iv who)), (2, .d (iv cur)), (3, .d (poss l)), (4, .ptr 4 0 0), (8, .ptr 8 0 0), (10, .ptr 10 0 0), (12, .d (iv 6))]) (m' := [(4, (⟨True, 26, 3, true, false, 4, [[.d (.sl 3 (r.mems.map memC)), .d (.sl 12 (r.insts.map instC)), .d (.sl 4 (r.assets.map assetC))]]⟩ : ARow)), (8, (⟨True, 31, 6, true, false, 8, [[.d (.v (.int .i64 0)), .d (.v (.int .i64 0)), .d (.v (.int .i64 0)), .d (.v (.int .i64 0)), .d (.v (.int .i64 0)), .d (.v (.int .i64 0))]]⟩ : ARow)), (10, (⟨True, 31, 6, true, false, 10, [[.d (iv (lossT (pcs r who cur l) 0)), .d (iv (lossT (pcs r who cur l) 1)), .d (iv (lossT (pcs r who cur l) 2)), .d (iv (lossT (pcs r who cur l) 3)), .d (iv (lossT (pcs r who cur l) 4)), .d (iv (lossT (pcs r who cur l) 5))]]⟩ : ARow))]) ?_ ?_ ?_ ?_, .inr (.inr (.inr (.inr (.inr (.inr (⟨rfl, h0, h1, h2, h3, h4, h5, rfl⟩))))))⟩
              · simp only [leV, look_cons, Nat.reduceBEq, cond_true, cond_false]; exact ⟨VLe.refl _, VLe.refl _, VLe.refl _, VLe.refl _, VLe.refl _, VLe.refl _, VLe.refl _, trivial⟩
              · exact ⟨fun _ => ⟨_, rfl, ⟨id, rfl, rfl, rfl, id, .inl, VLess.refl _⟩⟩, fun h => by simp at h, fun _ => ⟨_, rfl, ⟨id, rfl, rfl, rfl, id, .inl, VLess.refl _⟩⟩, fun h => by simp at h, fun _ => ⟨_, rfl, ⟨id, rfl, rfl, rfl, id, .inl, VLess.refl _⟩⟩, fun h => by simp at h, trivial⟩
              · simp [wfV, AV.ids, AV.idsL, lookR]
              · simp [wfR, AV.idsL, AV.ids]
        · intro hb
          simp at hb
      · skip
        refine awp_seq fun K2 hK2 => ?_
        refine awp_seq fun K3 hK3 => ?_
        refine awp_plain F_mixed [some 39, some 40] rfl ?_
        simp only [List.nil_append, List.cons_append, true_and, and_true, zz0, true_implies, Nat.reduceLT, Nat.reduceLeDiff, zzI, look_nil, Nat.reduceBEq, implies_true, evS_move, zz21, gr_v, zz22, zz6, Nat.reduceEqDiff, ↓reduceIte]
        refine hK3 _ ?_; try clear hK3 K3
        refine awp_keepL [1, 2, 3, 4, 8, 10, 12, 40] ?_
        simp only [zz20, zzI, look_nil, Nat.reduceBEq]
        refine awp_condS _ (by decide) (by simp only [look_cons, Nat.reduceBEq, cond_true, cond_false]; rfl) ?_ ?_
        · intro hb
          simp at hb
        · intro hb
          clear hb
          refine awp_exit ?_
          simp only [zz6, Nat.reduceEqDiff, ↓reduceIte]
          refine hK0 _ ?_; try clear hK0 K0
          refine awp_keepL [8, 10] ?_
          simp only [zz20, zzI, look_nil, Nat.reduceBEq]
          refine awp_seq fun K0 hK0 => ?_
          refine awp_plain F_mixed [some 114, none, some 9] rfl ?_
          simp only [List.nil_append, List.cons_append, true_and, and_true, zz0, true_implies, Nat.reduceLT, Nat.reduceLeDiff, zzI, look_nil, Nat.reduceBEq, implies_true, F_ok31, F_ag31, F_sz31, zz8, zz23, zzD, Nat.reduceAdd, Nat.zero_add, zzF, zzB, zzE, zz16, Option.some.injEq, exists_eq_left', exists_eq_left, Option.map_some, eq_self, reduceCtorEq, and_self, zz18, splice, List.append_nil, zz1, zzG, evS_assign, zz6, Nat.reduceEqDiff, ↓reduceIte]
          refine hK0 _ ?_; try clear hK0 K0
          refine awp_keepL [8, 9] ?_
          simp only [zz20, zzI, look_nil, Nat.reduceBEq]
          refine awp_ret ?_
          simp only [zz6, Nat.reduceEqDiff, ↓reduceIte]
          try simp only [List.append_nil]
          refine done0 (by simp [resCs, resC, S, List.getD, look_cons, lookR, F_ag31, F_sz31, F_ok31]) ?_ (by simp [flatA, flatAs, flatD, lossA]) (by simp [AV.ids, AV.idsL, lossA])
          simp only [List.map_cons, List.map_nil, resA, S_getD, S_mem, lookR_cons, lookR_nil, Nat.reduceLT, Nat.reduceLeDiff, look_cons, Nat.reduceBEq, cond_true, cond_false, resAll, List.getD_cons_zero, List.getD_cons_succ, List.drop_zero, List.drop_succ_cons, List.take_succ_cons, List.take_zero, F_ag31, F_sz31, F_ok31]
          have e : lossE r who cur l = 0 := by simp [lossE, hE, lossOk, h0, h1, h2, h3, h4, h5]
          have v : ∀ j, lossV r who cur l j = lossT (pcs r who cur l) j := fun j => by simp [lossV, e]
          simp only [lossA, v, e]
end Go.Proofs.Ytcpiojfhbebfiaa
