import Derived.Test.YtcpiojfhbebfiaaWpG
namespace Go.Proofs.Ytcpiojfhbebfiaa
open Go.RowKit
set_option linter.unusedVariables false
set_option linter.unusedSimpArgs false
theorem F_zero31 : zeroT Try.prog 31 = some [(.int .i64 0), (.int .i64 0), (.int .i64 0), (.int .i64 0), (.int .i64 0), (.int .i64 0)] := by kernel_rfl
theorem F_go18 : goFn Try.prog 18 := ⟨_, Try.func18, rfl, rfl⟩
theorem F_ok56 : tyOk Try.prog 56 = true := by kernel_rfl
theorem F_ag56 : aggT Try.prog 56 = true := by kernel_rfl
theorem F_off56_1 : offT Try.prog 56 1 = some 12 := by kernel_rfl
theorem F_off56_0 : offT Try.prog 56 0 = some 0 := by kernel_rfl
theorem F_by59 : byT Try.prog 59 = 16 := by kernel_rfl
theorem F_go19 : goFn Try.prog 19 := ⟨_, Try.func19, rfl, rfl⟩
theorem F_go20 : goFn Try.prog 20 := ⟨_, Try.func20, rfl, rfl⟩
theorem F_go21 : goFn Try.prog 21 := ⟨_, Try.func21, rfl, rfl⟩
theorem F_bld31 : bldT Try.prog 31 = true := by kernel_rfl
set_option maxRecDepth 100000 in
set_option maxHeartbeats 4000000 in
theorem Losses_ (r : RollV) (who cur : Int) (l : List PosV) (h : r.Small) (hl : l.length ≤ 500000) : ACalls Try.prog 11 [.agg (rollC r), iv who, iv cur, poss l] [] (.tp [lossA r who cur l, .d (iv (lossE r who cur l))]) := by
  refine acalls_S (rs := [.cell 8 31, .tmp 9]) Try.func11 rfl rfl 77 [(0, .d (.agg (rollC r))), (1, .d (iv who)), (2, .d (iv cur)), (3, .d (poss l))] rfl (by simp) rfl ?_
  refine awp_seq fun K0 hK0 => ?_
  refine awp_plain F_mixed [some 4, some 8, some 9] rfl ?_
  simp only [List.nil_append, List.cons_append, true_and, and_true, zz0, true_implies, Nat.reduceLT, Nat.reduceLeDiff, zzI, look_nil, Nat.reduceBEq, implies_true, zz35, newRow1, zz1, zzG, zzD, zz16, Option.some.injEq, exists_eq_left', exists_eq_left, Option.map_some, eq_self, reduceCtorEq, and_self, Nat.reduceAdd, Nat.zero_add, zzF, zzB, zzE, zz32, F_zero31, zz10, evS_assign, rollC, memsD, instsD, assetsD, zz6, Nat.reduceEqDiff, ↓reduceIte]
  refine hK0 _ ?_; try clear hK0 K0
  refine awp_keepL [1, 2, 3, 4, 8] ?_
  simp only [zz20, zzI, look_nil, Nat.reduceBEq]
  refine awp_seq fun K0 hK0 => ?_
  refine awp_plain F_mixed [some 10] rfl ?_
  simp only [List.nil_append, List.cons_append, true_and, and_true, zz0, true_implies, Nat.reduceLT, Nat.reduceLeDiff, zzI, look_nil, Nat.reduceBEq, implies_true, zz32, newRow1, F_zero31, zz16, Option.some.injEq, exists_eq_left', exists_eq_left, Option.map_some, eq_self, reduceCtorEq, and_self, zzD, Nat.reduceAdd, Nat.zero_add, zzF, zzB, zzE, zz10, zz6, Nat.reduceEqDiff, ↓reduceIte]
  refine hK0 _ ?_; try clear hK0 K0
  refine awp_keepL [1, 2, 3, 4, 8, 10] ?_
  simp only [zz20, zzI, look_nil, Nat.reduceBEq]
  refine awp_seq fun K0 hK0 => ?_
  refine awp_plain F_mixed [some 20, some 21, some 22, some 23, some 24, some 19, some 25, some 26, some 11, some 12] rfl ?_
  simp only [List.nil_append, List.cons_append, true_and, and_true, zz0, true_implies, Nat.reduceLT, Nat.reduceLeDiff, zzI, look_nil, Nat.reduceBEq, implies_true, F_ok26, F_ag26, F_sz26, zz8, zz23, zzD, Nat.reduceAdd, Nat.zero_add, zzF, zzB, zzE, zz16, Option.some.injEq, exists_eq_left', exists_eq_left, Option.map_some, eq_self, reduceCtorEq, and_self, evS_move, evS_call, evC_value, zz14, evS_assign, poss, memsD, instsD, assetsD, rollC, D.agg.injEq, memA, memC, instA, instC, zzG, zz6, Nat.reduceEqDiff, ↓reduceIte]
  refine call_go F_go18 (fun hG => piecesF r who cur l h hl) (by simp [AV.ids, AV.idsL]) (by simp) ?_
  simp only [List.nil_append, List.cons_append, true_and, and_true, zz0, true_implies, Nat.reduceLT, Nat.reduceLeDiff, zzI, look_nil, Nat.reduceBEq, implies_true, F_ok26, F_ag26, F_sz26, zz8, zz23, zzD, Nat.reduceAdd, Nat.zero_add, zzF, zzB, zzE, zz16, Option.some.injEq, exists_eq_left', exists_eq_left, Option.map_some, eq_self, reduceCtorEq, and_self, evS_move, evS_call, evC_value, zz14, evS_assign, poss, memsD, instsD, assetsD, rollC, D.agg.injEq, memA, memC, instA, instC, zzG, zz6, Nat.reduceEqDiff, ↓reduceIte, atsL, oksG, freeN, AV.ren, AV.renL, addRows, ORow.row, Nat.reduceMul, Nat.reduceAdd, zz9, Option.bind_some, Option.map_some, forall_eq', D.sl.injEq, S_mem, Option.some.injEq, exists_eq_left', exists_eq_left, exists_eq', exists_eq, List.length_cons, zz2]
  refine hK0 _ ?_; try clear hK0 K0
  refine awp_keepL [8, 10, 11, 12] ?_
  simp only [zz20, zzI, look_nil, Nat.reduceBEq]
  refine awp_seq fun K0 hK0 => ?_
  refine awp_seq fun K1 hK1 => ?_
  refine awp_plain F_mixed [some 27, some 28] rfl ?_
  simp only [List.nil_append, List.cons_append, true_and, and_true, zz0, true_implies, Nat.reduceLT, Nat.reduceLeDiff, zzI, look_nil, Nat.reduceBEq, implies_true, evS_move, zz21, gr_v, zz28, zz6, Nat.reduceEqDiff, ↓reduceIte]
  refine hK1 _ ?_; try clear hK1 K1
  refine awp_keepL [8, 10, 11, 12, 28] ?_
  simp only [zz20, zzI, look_nil, Nat.reduceBEq]
  refine awp_condS _ (by decide) (by simp only [look_cons, Nat.reduceBEq, cond_true, cond_false]; rfl) ?_ ?_
  · intro hb
    have hE : (pcsE r l == 0) = false := by simpa using hb
    clear hb
    refine awp_seq fun K2 hK2 => ?_
    refine awp_plain F_mixed [some 29, some 30, none, some 9] rfl ?_
    simp only [List.nil_append, List.cons_append, true_and, and_true, zz0, true_implies, Nat.reduceLT, Nat.reduceLeDiff, zzI, look_nil, Nat.reduceBEq, implies_true, F_ok31, F_ag31, F_sz31, zz8, zz23, zzD, Nat.reduceAdd, Nat.zero_add, zzF, zzB, zzE, zz16, Option.some.injEq, exists_eq_left', exists_eq_left, Option.map_some, eq_self, reduceCtorEq, and_self, evS_move, zz18, splice, List.append_nil, zz1, zzG, evS_assign, zz6, Nat.reduceEqDiff, ↓reduceIte]
    refine hK2 _ ?_; try clear hK2 K2
    refine awp_keepL [8, 9] ?_
    simp only [zz20, zzI, look_nil, Nat.reduceBEq]
    refine awp_ret ?_
    simp only [zz6, Nat.reduceEqDiff, ↓reduceIte]
    refine done0 (by simp [resCs, resC, S, List.getD, look_cons, lookR, F_ag31, F_sz31, F_ok31]) ?_ (by simp [flatA, flatAs, flatD, lossA]) (by simp [AV.ids, AV.idsL, lossA])
    simp only [List.map_cons, List.map_nil, resA, S_getD, S_mem, lookR_cons, lookR_nil, Nat.reduceLT, Nat.reduceLeDiff, look_cons, Nat.reduceBEq, cond_true, cond_false, resAll, List.getD_cons_zero, List.getD_cons_succ, List.drop_zero, List.drop_succ_cons, List.take_succ_cons, List.take_zero, F_ag31, F_sz31, F_ok31]
    have e : lossE r who cur l = pcsE r l := by simp [lossE, hE]
    have v : ∀ j, lossV r who cur l j = 0 := fun j => by simp [lossV, e, hE]
    simp only [lossA, v, e]
  · intro hb
    have hE : pcsE r l = 0 := by simpa using hb
    clear hb
    have hL : pcsL r who cur l = pcs r who cur l := by simp [pcsL, hE]
    have hps : ∀ x ∈ pcs r who cur l, PieceOk x := pcs_ok hE
    have hpl : (pcs r who cur l).length ≤ 500000 := Nat.le_trans (pcs_len r who cur l) hl
    have hfit : ∀ j, fitsW (List.map (fun x => lossOf x j) (pcs r who cur l)).sum = true := fun j => lossT_fits hps (by omega) j
    refine awp_skip ?_
    simp only [zz6, Nat.reduceEqDiff, ↓reduceIte]
    refine hK0 _ ?_; try clear hK0 K0
    refine awp_keepL [8, 10, 11] ?_
    simp only [zz20, zzI, look_nil, Nat.reduceBEq]
    refine awp_seq fun K0 hK0 => ?_
    refine awp_seq fun K1 hK1 => ?_
    refine awp_plain F_mixed [some 31] rfl ?_
    simp only [List.nil_append, List.cons_append, true_and, and_true, zz0, true_implies, Nat.reduceLT, Nat.reduceLeDiff, zzI, look_nil, Nat.reduceBEq, implies_true, evS_move, zz6, Nat.reduceEqDiff, ↓reduceIte]
    refine hK1 _ ?_; try clear hK1 K1
    refine awp_keepL [8, 10, 11, 31] ?_
    simp only [zz20, zzI, look_nil, Nat.reduceBEq]
    refine awp_block ?_
    refine awp_loop (fun m s => (m = 6 ∧ s = S 77 [(8, .ptr 8 0 0), (10, .ptr 10 0 0), (11, .d (pieces (pcs r who cur l))), (31, .d (iv 0))] [(8, (⟨True, 31, 6, true, false, 8, [[.d (.v (.int .i64 0)), .d (.v (.int .i64 0)), .d (.v (.int .i64 0)), .d (.v (.int .i64 0)), .d (.v (.int .i64 0)), .d (.v (.int .i64 0))]]⟩ : ARow)), (10, (⟨True, 31, 6, true, false, 10, [[.d (.v (.int .i64 0)), .d (.v (.int .i64 0)), .d (.v (.int .i64 0)), .d (.v (.int .i64 0)), .d (.v (.int .i64 0)), .d (.v (.int .i64 0))]]⟩ : ARow))]) ∨ (m = 5 ∧ rightN (lossT (pcs r who cur l) 0) = true ∧ s = S 77 [(8, .ptr 8 0 0), (10, .ptr 10 0 0), (11, .d (pieces (pcs r who cur l))), (31, .d (iv 1))] [(8, (⟨True, 31, 6, true, false, 8, [[.d (.v (.int .i64 0)), .d (.v (.int .i64 0)), .d (.v (.int .i64 0)), .d (.v (.int .i64 0)), .d (.v (.int .i64 0)), .d (.v (.int .i64 0))]]⟩ : ARow)), (10, (⟨True, 31, 6, true, false, 10, [[.d (iv (lossT (pcs r who cur l) 0)), .d (.v (.int .i64 0)), .d (.v (.int .i64 0)), .d (.v (.int .i64 0)), .d (.v (.int .i64 0)), .d (.v (.int .i64 0))]]⟩ : ARow))]) ∨ (m = 4 ∧ rightN (lossT (pcs r who cur l) 0) = true ∧ rightN (lossT (pcs r who cur l) 1) = true ∧ s = S 77 [(8, .ptr 8 0 0), (10, .ptr 10 0 0), (11, .d (pieces (pcs r who cur l))), (31, .d (iv 2))] [(8, (⟨True, 31, 6, true, false, 8, [[.d (.v (.int .i64 0)), .d (.v (.int .i64 0)), .d (.v (.int .i64 0)), .d (.v (.int .i64 0)), .d (.v (.int .i64 0)), .d (.v (.int .i64 0))]]⟩ : ARow)), (10, (⟨True, 31, 6, true, false, 10, [[.d (iv (lossT (pcs r who cur l) 0)), .d (iv (lossT (pcs r who cur l) 1)), .d (.v (.int .i64 0)), .d (.v (.int .i64 0)), .d (.v (.int .i64 0)), .d (.v (.int .i64 0))]]⟩ : ARow))]) ∨ (m = 3 ∧ rightN (lossT (pcs r who cur l) 0) = true ∧ rightN (lossT (pcs r who cur l) 1) = true ∧ rightN (lossT (pcs r who cur l) 2) = true ∧ s = S 77 [(8, .ptr 8 0 0), (10, .ptr 10 0 0), (11, .d (pieces (pcs r who cur l))), (31, .d (iv 3))] [(8, (⟨True, 31, 6, true, false, 8, [[.d (.v (.int .i64 0)), .d (.v (.int .i64 0)), .d (.v (.int .i64 0)), .d (.v (.int .i64 0)), .d (.v (.int .i64 0)), .d (.v (.int .i64 0))]]⟩ : ARow)), (10, (⟨True, 31, 6, true, false, 10, [[.d (iv (lossT (pcs r who cur l) 0)), .d (iv (lossT (pcs r who cur l) 1)), .d (iv (lossT (pcs r who cur l) 2)), .d (.v (.int .i64 0)), .d (.v (.int .i64 0)), .d (.v (.int .i64 0))]]⟩ : ARow))]) ∨ (m = 2 ∧ rightN (lossT (pcs r who cur l) 0) = true ∧ rightN (lossT (pcs r who cur l) 1) = true ∧ rightN (lossT (pcs r who cur l) 2) = true ∧ rightN (lossT (pcs r who cur l) 3) = true ∧ s = S 77 [(8, .ptr 8 0 0), (10, .ptr 10 0 0), (11, .d (pieces (pcs r who cur l))), (31, .d (iv 4))] [(8, (⟨True, 31, 6, true, false, 8, [[.d (.v (.int .i64 0)), .d (.v (.int .i64 0)), .d (.v (.int .i64 0)), .d (.v (.int .i64 0)), .d (.v (.int .i64 0)), .d (.v (.int .i64 0))]]⟩ : ARow)), (10, (⟨True, 31, 6, true, false, 10, [[.d (iv (lossT (pcs r who cur l) 0)), .d (iv (lossT (pcs r who cur l) 1)), .d (iv (lossT (pcs r who cur l) 2)), .d (iv (lossT (pcs r who cur l) 3)), .d (.v (.int .i64 0)), .d (.v (.int .i64 0))]]⟩ : ARow))]) ∨ (m = 1 ∧ rightN (lossT (pcs r who cur l) 0) = true ∧ rightN (lossT (pcs r who cur l) 1) = true ∧ rightN (lossT (pcs r who cur l) 2) = true ∧ rightN (lossT (pcs r who cur l) 3) = true ∧ rightN (lossT (pcs r who cur l) 4) = true ∧ s = S 77 [(8, .ptr 8 0 0), (10, .ptr 10 0 0), (11, .d (pieces (pcs r who cur l))), (31, .d (iv 5))] [(8, (⟨True, 31, 6, true, false, 8, [[.d (.v (.int .i64 0)), .d (.v (.int .i64 0)), .d (.v (.int .i64 0)), .d (.v (.int .i64 0)), .d (.v (.int .i64 0)), .d (.v (.int .i64 0))]]⟩ : ARow)), (10, (⟨True, 31, 6, true, false, 10, [[.d (iv (lossT (pcs r who cur l) 0)), .d (iv (lossT (pcs r who cur l) 1)), .d (iv (lossT (pcs r who cur l) 2)), .d (iv (lossT (pcs r who cur l) 3)), .d (iv (lossT (pcs r who cur l) 4)), .d (.v (.int .i64 0))]]⟩ : ARow))]) ∨ (m = 0 ∧ rightN (lossT (pcs r who cur l) 0) = true ∧ rightN (lossT (pcs r who cur l) 1) = true ∧ rightN (lossT (pcs r who cur l) 2) = true ∧ rightN (lossT (pcs r who cur l) 3) = true ∧ rightN (lossT (pcs r who cur l) 4) = true ∧ rightN (lossT (pcs r who cur l) 5) = true ∧ s = S 77 [(8, .ptr 8 0 0), (10, .ptr 10 0 0), (11, .d (pieces (pcs r who cur l))), (31, .d (iv 6))] [(8, (⟨True, 31, 6, true, false, 8, [[.d (.v (.int .i64 0)), .d (.v (.int .i64 0)), .d (.v (.int .i64 0)), .d (.v (.int .i64 0)), .d (.v (.int .i64 0)), .d (.v (.int .i64 0))]]⟩ : ARow)), (10, (⟨True, 31, 6, true, false, 10, [[.d (iv (lossT (pcs r who cur l) 0)), .d (iv (lossT (pcs r who cur l) 1)), .d (iv (lossT (pcs r who cur l) 2)), .d (iv (lossT (pcs r who cur l) 3)), .d (iv (lossT (pcs r who cur l) 4)), .d (iv (lossT (pcs r who cur l) 5))]]⟩ : ARow))])) 6 _ (le_SK id [] rfl (l' := [(8, .ptr 8 0 0), (10, .ptr 10 0 0), (11, .d (pieces (pcs r who cur l))), (31, .d (iv 0))]) (m' := [(8, (⟨True, 31, 6, true, false, 8, [[.d (.v (.int .i64 0)), .d (.v (.int .i64 0)), .d (.v (.int .i64 0)), .d (.v (.int .i64 0)), .d (.v (.int .i64 0)), .d (.v (.int .i64 0))]]⟩ : ARow)), (10, (⟨True, 31, 6, true, false, 10, [[.d (.v (.int .i64 0)), .d (.v (.int .i64 0)), .d (.v (.int .i64 0)), .d (.v (.int .i64 0)), .d (.v (.int .i64 0)), .d (.v (.int .i64 0))]]⟩ : ARow))]) ?_ ?_ ?_ ?_) (.inl (⟨rfl, rfl⟩)) ?_
    · simp only [leV, hL, look_cons, Nat.reduceBEq, cond_true, cond_false]; exact ⟨VLe.refl _, VLe.refl _, VLe.refl _, VLe.refl _, trivial⟩
    · exact ⟨fun _ => ⟨_, rfl, ⟨id, rfl, rfl, rfl, id, .inl, VLess.refl _⟩⟩, fun h => by simp at h, fun _ => ⟨_, rfl, ⟨id, rfl, rfl, rfl, id, .inl, VLess.refl _⟩⟩, fun h => by simp at h, trivial⟩
    · simp [wfV, AV.ids, AV.idsL, lookR]
    · simp [wfR, AV.idsL, AV.ids]
    rintro m s (⟨rfl, rfl⟩ | ⟨rfl, h0, rfl⟩ | ⟨rfl, h0, h1, rfl⟩ | ⟨rfl, h0, h1, h2, rfl⟩ | ⟨rfl, h0, h1, h2, h3, rfl⟩ | ⟨rfl, h0, h1, h2, h3, h4, rfl⟩ | ⟨rfl, h0, h1, h2, h3, h4, h5, rfl⟩)
    · skip
      refine awp_seq fun K2 hK2 => ?_
      refine awp_plain F_mixed [some 32] rfl ?_
      simp only [List.nil_append, List.cons_append, true_and, and_true, zz0, true_implies, Nat.reduceLT, Nat.reduceLeDiff, zzI, look_nil, Nat.reduceBEq, implies_true, zz21, gr_v, zz22, zz6, Nat.reduceEqDiff, ↓reduceIte]
      refine hK2 _ ?_; try clear hK2 K2
      refine awp_keepL [8, 10, 11, 31, 32] ?_
      simp only [zz20, zzI, look_nil, Nat.reduceBEq]
      refine awp_seq fun K2 hK2 => ?_
      refine awp_condS _ (by decide) (by simp only [look_cons, Nat.reduceBEq, cond_true, cond_false]; rfl) ?_ ?_
      · intro hb
        clear hb
        refine awp_skip ?_
        simp only [zz6, Nat.reduceEqDiff, ↓reduceIte]
        refine hK2 _ ?_; try clear hK2 K2
        refine awp_keepL [8, 10, 11, 31] ?_
        simp only [zz20, zzI, look_nil, Nat.reduceBEq]
        refine awp_seq fun K2 hK2 => ?_
        refine awp_block ?_
        refine awp_seq fun K3 hK3 => ?_
        refine awp_plain F_mixed [some 33, some 13] rfl ?_
        simp only [List.nil_append, List.cons_append, true_and, and_true, zz0, true_implies, Nat.reduceLT, Nat.reduceLeDiff, zzI, look_nil, Nat.reduceBEq, implies_true, evS_move, evS_assign, zz6, Nat.reduceEqDiff, ↓reduceIte]
        refine hK3 _ ?_; try clear hK3 K3
        refine awp_keepL [8, 10, 11, 13, 31] ?_
        simp only [zz20, zzI, look_nil, Nat.reduceBEq]
        refine awp_seq fun K3 hK3 => ?_
        refine awp_plain F_mixed [some 14] rfl ?_
        simp only [List.nil_append, List.cons_append, true_and, and_true, zz0, true_implies, Nat.reduceLT, Nat.reduceLeDiff, zzI, look_nil, Nat.reduceBEq, implies_true, evS_assign, zz6, Nat.reduceEqDiff, ↓reduceIte]
        refine hK3 _ ?_; try clear hK3 K3
        refine awp_keepL [8, 10, 11, 13, 14, 31] ?_
        simp only [zz20, zzI, look_nil, Nat.reduceBEq]
        refine awp_seq fun K3 hK3 => ?_
        refine awp_seq fun K4 hK4 => ?_
        refine awp_plain F_mixed [some 34, some 35, some 36] rfl ?_
        simp only [List.nil_append, List.cons_append, true_and, and_true, zz0, true_implies, Nat.reduceLT, Nat.reduceLeDiff, zzI, look_nil, Nat.reduceBEq, implies_true, evS_move, evS_call, zz12, F_sl51, Option.isSome_some, pieces, len_map, zz6, Nat.reduceEqDiff, ↓reduceIte]
        refine hK4 _ ?_; try clear hK4 K4
        refine awp_keepL [8, 10, 11, 13, 14, 31, 34, 35, 36] ?_
        simp only [zz20, zzI, look_nil, Nat.reduceBEq]
        refine awp_block ?_
        refine awp_loop (fun m s => ∃ pre post : List PieceV, pcs r who cur l = pre ++ post ∧ m = post.length ∧ s = S 77 [(8, .ptr 8 0 0), (10, .ptr 10 0 0), (11, .d (pieces (pre ++ post))), (13, .d (iv 0)), (14, .ref 14 pre.length), (31, .d (iv 0)), (34, .d (pieces (pre ++ post))), (35, .d (iv (pre ++ post).length)), (36, .d (iv pre.length))] [(8, (⟨True, 31, 6, true, false, 8, [[.d (.v (.int .i64 0)), .d (.v (.int .i64 0)), .d (.v (.int .i64 0)), .d (.v (.int .i64 0)), .d (.v (.int .i64 0)), .d (.v (.int .i64 0))]]⟩ : ARow)), (10, (⟨True, 31, 6, true, false, 10, [[.d (.v (.int .i64 0)), .d (.v (.int .i64 0)), .d (.v (.int .i64 0)), .d (.v (.int .i64 0)), .d (.v (.int .i64 0)), .d (.v (.int .i64 0))]]⟩ : ARow)), (14, grow 59 2 14 ((pre.map (lossOf · 0)).map wideC))]) (pcs r who cur l).length _ (le_SK id [14] rfl (l' := [(8, .ptr 8 0 0), (10, .ptr 10 0 0), (11, .d (pieces (([] : List PieceV) ++ (pcs r who cur l)))), (13, .d (iv 0)), (14, .ref 14 ([] : List PieceV).length), (31, .d (iv 0)), (34, .d (pieces (([] : List PieceV) ++ (pcs r who cur l)))), (35, .d (iv (([] : List PieceV) ++ (pcs r who cur l)).length)), (36, .d (iv ([] : List PieceV).length))]) (m' := [(8, (⟨True, 31, 6, true, false, 8, [[.d (.v (.int .i64 0)), .d (.v (.int .i64 0)), .d (.v (.int .i64 0)), .d (.v (.int .i64 0)), .d (.v (.int .i64 0)), .d (.v (.int .i64 0))]]⟩ : ARow)), (10, (⟨True, 31, 6, true, false, 10, [[.d (.v (.int .i64 0)), .d (.v (.int .i64 0)), .d (.v (.int .i64 0)), .d (.v (.int .i64 0)), .d (.v (.int .i64 0)), .d (.v (.int .i64 0))]]⟩ : ARow)), (14, grow 59 2 14 ((([] : List PieceV).map (lossOf · 0)).map wideC))]) ?_ ?_ ?_ ?_) ⟨[], pcs r who cur l, rfl, rfl, rfl⟩ ?_
        · simp only [leV, look_cons, Nat.reduceBEq, cond_true, cond_false, pieces, len_map, List.nil_append]; exact ⟨VLe.ptr_ (f := id) (r := 8) (by simp), VLe.ptr_ (f := id) (r := 10) (by simp), VLe.still rfl, VLe.still rfl, VLe.nil_ (by decide), VLe.still rfl, VLe.still rfl, VLe.still rfl, VLe.still rfl, trivial⟩
        · exact ⟨fun _ => ⟨_, rfl, RowLe.still (by simp [AV.idsL, AV.ids])⟩, fun h => by simp at h, fun _ => ⟨_, rfl, RowLe.still (by simp [AV.idsL, AV.ids])⟩, fun h => by simp at h, fun h => by simp at h, fun _ => rfl, trivial⟩
        · simp [wfV, AV.ids, lookR]
        · simp [wfR, grow, AV.idsL, AV.ids]
        rintro m s ⟨pre, post, hsp, rfl, rfl⟩
        refine awp_seq fun K5 hK5 => ?_
        refine awp_plain F_mixed [some 37] rfl ?_
        simp only [List.nil_append, List.cons_append, true_and, and_true, zz0, true_implies, Nat.reduceLT, Nat.reduceLeDiff, zzI, look_nil, Nat.reduceBEq, implies_true, zz21, gr_v, zz22, zz6, Nat.reduceEqDiff, ↓reduceIte]
        refine hK5 _ ?_; try clear hK5 K5
        refine awp_keepL [8, 10, 11, 13, 14, 31, 34, 35, 36, 37] ?_
        simp only [zz20, zzI, look_nil, Nat.reduceBEq]
        refine awp_seq fun K5 hK5 => ?_
        refine awp_condS _ (by decide) (by simp only [look_cons, Nat.reduceBEq, cond_true, cond_false]; rfl) ?_ ?_
        · intro hb
          obtain ⟨x, post, rfl⟩ := more_of hb; clear hb
          have hx : PieceOk x := hps x (by rw [hsp]; simp)
          have hb := hx.loss 0
          have hw : IntKind.wrap .i64 (IntKind.wrap .i64 (0 - x.qty) * x.inst.mult) = -x.qty * x.inst.mult := by
            rw [wrapI (n := 0 - x.qty) (by have := hx.q1; omega) (by have := hx.q0; omega), show (0 - x.qty : Int) = -x.qty from by omega]
            exact wrapI (by omega) (by omega)
          have hs := hx.s 0
          simp only [shN] at hs
          refine awp_skip ?_
          simp only [zz6, Nat.reduceEqDiff, ↓reduceIte]
          refine hK5 _ ?_; try clear hK5 K5
          refine awp_keepL [8, 10, 11, 13, 14, 31, 34, 35, 36] ?_
          simp only [zz20, zzI, look_nil, Nat.reduceBEq]
          refine awp_seq fun K5 hK5 => ?_
          refine awp_block ?_
          refine awp_seq fun K6 hK6 => ?_
          refine awp_plain F_mixed [some 38, some 39, some 16, none] rfl ?_
          simp only [List.nil_append, List.cons_append, true_and, and_true, zz0, true_implies, Nat.reduceLT, Nat.reduceLeDiff, zzI, look_nil, Nat.reduceBEq, implies_true, evS_indexAddr, zz23, zz24, F_sl51, F_sz56, Option.map_some, zz16, Option.some.injEq, exists_eq_left', exists_eq_left, eq_self, reduceCtorEq, and_self, F_ok56, F_ag56, zz8, zzD, Nat.reduceAdd, Nat.zero_add, zzF, zzB, zzE, zz32, newRow1, F_zero56, zz10, zz18, splice, List.append_nil, zz1, zzG, pieces, pieceC, getD_mid, len_map, lt_mid, ge_mid, zz6, Nat.reduceEqDiff, ↓reduceIte]
          refine hK6 _ ?_; try clear hK6 K6
          refine awp_keepL [8, 10, 11, 13, 14, 16, 31, 34, 35, 36] ?_
          simp only [zz20, zzI, look_nil, Nat.reduceBEq]
          refine awp_draw F_mixed [some 40, some 41, some 42, some 43, some 44, some 45, some 46, some 47, some 48, some 49, some 50, some 51, some 52, some 53, some 54, some 55, some 14] rfl (by kernel_rfl) ?_
          simp only [List.nil_append, List.cons_append, true_and, and_true, zz0, true_implies, Nat.reduceLT, Nat.reduceLeDiff, zzI, look_nil, Nat.reduceBEq, implies_true, evS_move, zz19, zz23, F_off56_1, zzB, Nat.zero_add, Nat.reduceAdd, F_ok3, F_ag3, F_sz3, zz8, zzD, zzF, zzE, zz16, Option.some.injEq, exists_eq_left', exists_eq_left, Option.map_some, eq_self, reduceCtorEq, and_self, zz29, gr_v, zz37, F_off56_0, F_off49_2, zz21, zz36, F_off49_6, evS_indexAddr, zz15, F_arr31, evS_call, evC_value, F_sl54, F_zero59, F_sz59, zz3, newRow1, zz1, zzG, maxLen_le, Nat.reduceMul, F_by59, zz4, zz9, Option.bind_some, evS_assign, hw, wideA, grow, D.agg.injEq, unDs_map, Int.reduceToNat, Int.reduceLT, Int.reduceLE, cast6, Nat.reduceMul, zz6, Nat.reduceEqDiff, ↓reduceIte]
          refine call_go F_go19 (fun hG => Times_ (-x.qty * x.inst.mult) x.inst.s0 (by omega) (by omega) (by omega) (by omega)) (by simp [AV.ids, AV.idsL, wideA]) (by simp) ?_
          simp only [List.nil_append, List.cons_append, true_and, and_true, zz0, true_implies, Nat.reduceLT, Nat.reduceLeDiff, zzI, look_nil, Nat.reduceBEq, implies_true, evS_move, zz19, zz23, F_off56_1, zzB, Nat.zero_add, Nat.reduceAdd, F_ok3, F_ag3, F_sz3, zz8, zzD, zzF, zzE, zz16, Option.some.injEq, exists_eq_left', exists_eq_left, Option.map_some, eq_self, reduceCtorEq, and_self, zz29, gr_v, zz37, F_off56_0, F_off49_2, zz21, zz36, F_off49_6, evS_indexAddr, zz15, F_arr31, evS_call, evC_value, F_sl54, F_zero59, F_sz59, zz3, newRow1, zz1, zzG, maxLen_le, Nat.reduceMul, F_by59, zz4, zz9, Option.bind_some, evS_assign, hw, wideA, grow, D.agg.injEq, unDs_map, Int.reduceToNat, Int.reduceLT, Int.reduceLE, cast6, Nat.reduceMul, zz6, Nat.reduceEqDiff, ↓reduceIte, atsL, oksG, freeN, AV.ren, AV.renL, addRows, ORow.row, Nat.reduceMul, Nat.reduceAdd, unDs_cons, Option.bind_some, Option.map_some, forall_eq', D.sl.injEq, S_mem, Option.some.injEq, exists_eq_left', exists_eq_left, exists_eq', exists_eq, List.length_cons, zz2]
          have hm : pre.length + 1 ≤ 1000000 := by have e := congrArg List.length hsp; simp only [List.length_append, List.length_cons, List.length_map] at e; omega
          first | refine ⟨le_maxLen hm, by omega, ?_⟩ | refine ⟨by simp, le_maxLen hm, by omega, ?_⟩
          clear hm
          refine hK5 _ ?_; try clear hK5 K5
          refine awp_keepL [8, 10, 11, 13, 14, 31, 34, 35, 36] ?_
          simp only [zz20, zzI, look_nil, Nat.reduceBEq]
          refine awp_plain F_mixed [some 56, some 36] rfl ?_
          simp only [List.nil_append, List.cons_append, true_and, and_true, zz0, true_implies, Nat.reduceLT, Nat.reduceLeDiff, zzI, look_nil, Nat.reduceBEq, implies_true, zz21, gr_v, zz26, evS_move, zz6, Nat.reduceEqDiff, ↓reduceIte]
          refine ⟨post.length, _, by simp, le_SK (fun r => bif r == 14 then 55 else r) [] rfl (l' := [(8, .ptr 8 0 0), (10, .ptr 10 0 0), (11, .d (pieces ((pre ++ [x]) ++ post))), (13, .d (iv 0)), (14, .ref 14 (pre ++ [x]).length), (31, .d (iv 0)), (34, .d (pieces ((pre ++ [x]) ++ post))), (35, .d (iv ((pre ++ [x]) ++ post).length)), (36, .d (iv (pre ++ [x]).length))]) (m' := [(8, (⟨True, 31, 6, true, false, 8, [[.d (.v (.int .i64 0)), .d (.v (.int .i64 0)), .d (.v (.int .i64 0)), .d (.v (.int .i64 0)), .d (.v (.int .i64 0)), .d (.v (.int .i64 0))]]⟩ : ARow)), (10, (⟨True, 31, 6, true, false, 10, [[.d (.v (.int .i64 0)), .d (.v (.int .i64 0)), .d (.v (.int .i64 0)), .d (.v (.int .i64 0)), .d (.v (.int .i64 0)), .d (.v (.int .i64 0))]]⟩ : ARow)), (14, grow 59 2 14 (((pre ++ [x]).map (lossOf · 0)).map wideC))]) ?_ ?_ ?_ ?_, pre ++ [x], post, by simp [hsp], rfl, rfl⟩
          · simp only [leV, look_cons, Nat.reduceBEq, cond_true, cond_false, pieces, len_map, List.append_assoc, List.singleton_append, wrap_len pre x (by have e := congrArg List.length hsp; simp only [List.length_append, List.length_cons, List.length_map] at e; omega)]
            refine ⟨VLe.ptr_ (f := (fun r => bif r == 14 then 55 else r)) (r := 8) (by simp), VLe.ptr_ (f := (fun r => bif r == 14 then 55 else r)) (r := 10) (by simp), VLe.still rfl, VLe.still rfl, ?_, VLe.still rfl, VLe.still rfl, VLe.still rfl, VLe.still rfl, trivial⟩
            rw [show (AV.ref 55 _ : AV) = .ref ((fun r => bif r == 14 then 55 else r) 14) (pre ++ [x]).length from by simp]; exact VLe.ref_ (f := (fun r => bif r == 14 then 55 else r)) (r := 14) (by simp)
          · exact ⟨fun _ => ⟨_, rfl, RowLe.still (by simp [AV.idsL, AV.ids])⟩, fun h => by simp at h, fun _ => ⟨_, rfl, RowLe.still (by simp [AV.idsL, AV.ids])⟩, fun h => by simp at h, fun _ => ⟨_, rfl, RowLe.data_ (by simp [wideC, lossOf, shN])⟩, fun h => by simp at h, trivial⟩
          · simp [wfV, AV.ids, lookR, grow]
          · exact ⟨by simp [AV.idsL, AV.ids], by simp [AV.idsL, AV.ids], wf_data _ _, trivial⟩
        · intro hb
          obtain rfl := none_of hb; clear hb
          obtain rfl : pre = pcs r who cur l := by simpa using hsp.symm
          clear hsp
          refine awp_exit ?_
          simp only [zz6, Nat.reduceEqDiff, ↓reduceIte]
          refine hK3 _ ?_; try clear hK3 K3
          refine awp_keepL [8, 10, 11, 13, 14, 31] ?_
          simp only [zz20, zzI, look_nil, Nat.reduceBEq]
          refine awp_seq fun K3 hK3 => ?_
          refine awp_plain F_mixed [some 58, some 59, some 57, some 60, some 61, some 17, none, some 18] rfl ?_
          simp only [List.nil_append, List.cons_append, true_and, and_true, zz0, true_implies, Nat.reduceLT, Nat.reduceLeDiff, zzI, look_nil, Nat.reduceBEq, implies_true, evS_move, evS_call, evC_value, zz14, zzD, Nat.reduceAdd, Nat.zero_add, zzF, zz32, newRow1, F_zero59, zz16, Option.some.injEq, exists_eq_left', exists_eq_left, Option.map_some, eq_self, reduceCtorEq, and_self, zzB, zzE, zz10, zz18, F_ok59, F_sz59, splice, List.append_nil, zz1, zzG, evS_assign, wides, wideA, grow, hfit, List.append_nil, zz6, Nat.reduceEqDiff, ↓reduceIte]
          refine call_go F_go20 (fun hG => wSum_ ((pcs r who cur l).map (lossOf · 0)) (by simp; omega) (fun y hy => by obtain ⟨x, hx, rfl⟩ := List.mem_map.1 hy; have := ((hps x hx).loss 0).2; omega)) (by simp [AV.ids, AV.idsL, wideA]) (by simp) ?_
          simp only [List.nil_append, List.cons_append, true_and, and_true, zz0, true_implies, Nat.reduceLT, Nat.reduceLeDiff, zzI, look_nil, Nat.reduceBEq, implies_true, evS_move, evS_call, evC_value, zz14, zzD, Nat.reduceAdd, Nat.zero_add, zzF, zz32, newRow1, F_zero59, zz16, Option.some.injEq, exists_eq_left', exists_eq_left, Option.map_some, eq_self, reduceCtorEq, and_self, zzB, zzE, zz10, zz18, F_ok59, F_sz59, splice, List.append_nil, zz1, zzG, evS_assign, wides, wideA, grow, hfit, List.append_nil, zz6, Nat.reduceEqDiff, ↓reduceIte, atsL, oksG, freeN, AV.ren, AV.renL, addRows, ORow.row, Nat.reduceMul, Nat.reduceAdd, zz9, Option.bind_some, Option.map_some, forall_eq', D.sl.injEq, S_mem, Option.some.injEq, exists_eq_left', exists_eq_left, exists_eq', exists_eq, List.length_cons, zz2]
          refine ⟨by simp, ?_⟩
          refine hK3 _ ?_; try clear hK3 K3
          refine awp_keepL [8, 10, 11, 13, 17, 18, 31] ?_
          simp only [zz20, zzI, look_nil, Nat.reduceBEq]
          refine awp_seq fun K3 hK3 => ?_
          refine awp_seq fun K4 hK4 => ?_
          refine awp_plain F_mixed [some 62, some 63] rfl ?_
          simp only [List.nil_append, List.cons_append, true_and, and_true, zz0, true_implies, Nat.reduceLT, Nat.reduceLeDiff, zzI, look_nil, Nat.reduceBEq, implies_true, evS_move, zz21, gr_v, zz34, zz6, Nat.reduceEqDiff, ↓reduceIte]
          refine hK4 _ ?_; try clear hK4 K4
          refine awp_keepL [8, 10, 11, 13, 17, 18, 31, 63] ?_
          simp only [zz20, zzI, look_nil, Nat.reduceBEq]
          refine awp_condS _ (by decide) (by simp only [look_cons, Nat.reduceBEq, cond_true, cond_false]; rfl) ?_ ?_
          · intro hb
            clear hb
            refine awp_plain F_mixed [some 65, some 66, some 67, some 64, some 68, some 69, some 70, none, some 18] rfl ?_
            simp only [List.nil_append, List.cons_append, true_and, and_true, zz0, true_implies, Nat.reduceLT, Nat.reduceLeDiff, zzI, look_nil, Nat.reduceBEq, implies_true, evS_move, F_ok59, F_ag59, F_sz59, zz8, zz23, zzD, Nat.reduceAdd, Nat.zero_add, zzF, zzB, zzE, zz16, Option.some.injEq, exists_eq_left', exists_eq_left, Option.map_some, eq_self, reduceCtorEq, and_self, evS_call, evC_value, zz14, evS_indexAddr, zz15, F_arr31, F_sz3, zz18, F_ok3, splice, List.append_nil, zz1, zzG, evS_assign, wideC, wideA, Int.reduceToNat, Int.reduceLT, Int.reduceLE, cast6, Nat.reduceMul, zz6, Nat.reduceEqDiff, ↓reduceIte]
            refine call_go F_go21 (fun hG => wInt_ ((pcs r who cur l).map (lossOf · 0)).sum) (by simp [AV.ids, AV.idsL, wideC, wideA]) (by simp) ?_
            simp only [List.nil_append, List.cons_append, true_and, and_true, zz0, true_implies, Nat.reduceLT, Nat.reduceLeDiff, zzI, look_nil, Nat.reduceBEq, implies_true, evS_move, F_ok59, F_ag59, F_sz59, zz8, zz23, zzD, Nat.reduceAdd, Nat.zero_add, zzF, zzB, zzE, zz16, Option.some.injEq, exists_eq_left', exists_eq_left, Option.map_some, eq_self, reduceCtorEq, and_self, evS_call, evC_value, zz14, evS_indexAddr, zz15, F_arr31, F_sz3, zz18, F_ok3, splice, List.append_nil, zz1, zzG, evS_assign, wideC, wideA, Int.reduceToNat, Int.reduceLT, Int.reduceLE, cast6, Nat.reduceMul, zz6, Nat.reduceEqDiff, ↓reduceIte, atsL, oksG, freeN, AV.ren, AV.renL, addRows, ORow.row, Nat.reduceMul, Nat.reduceAdd, zz9, Option.bind_some, Option.map_some, forall_eq', D.sl.injEq, S_mem, Option.some.injEq, exists_eq_left', exists_eq_left, exists_eq', exists_eq, List.length_cons, zz2]
            refine hK3 _ ?_; try clear hK3 K3
            refine awp_keepL [8, 10, 11, 18, 31] ?_
            simp only [zz20, zzI, look_nil, Nat.reduceBEq]
            refine awp_seq fun K3 hK3 => ?_
            refine awp_plain F_mixed [some 71, some 72] rfl ?_
            simp only [List.nil_append, List.cons_append, true_and, and_true, zz0, true_implies, Nat.reduceLT, Nat.reduceLeDiff, zzI, look_nil, Nat.reduceBEq, implies_true, evS_move, zz21, gr_v, zz28, zz6, Nat.reduceEqDiff, ↓reduceIte]
            refine hK3 _ ?_; try clear hK3 K3
            refine awp_keepL [8, 10, 11, 18, 31, 72] ?_
            simp only [zz20, zzI, look_nil, Nat.reduceBEq]
            refine awp_condS _ (by decide) (by simp only [look_cons, Nat.reduceBEq, cond_true, cond_false]; rfl) ?_ ?_
            · intro hb
              have hj : rightN (lossT (pcs r who cur l) 0) = false := bif_ne hb
              clear hb
              refine awp_seq fun K4 hK4 => ?_
              refine awp_plain F_mixed [some 73, some 74, none, some 9] rfl ?_
              simp only [List.nil_append, List.cons_append, true_and, and_true, zz0, true_implies, Nat.reduceLT, Nat.reduceLeDiff, zzI, look_nil, Nat.reduceBEq, implies_true, F_zero31, F_bld31, zz7, splice, Option.getD_some, List.append_nil, zz1, zzG, zzD, zz16, Option.some.injEq, exists_eq_left', exists_eq_left, Option.map_some, eq_self, reduceCtorEq, and_self, Nat.reduceAdd, Nat.zero_add, zzF, zzB, zzE, zz10, evS_move, zz18, F_ok31, F_sz31, evS_assign, zz6, Nat.reduceEqDiff, ↓reduceIte]
              refine hK4 _ ?_; try clear hK4 K4
              refine awp_keepL [8, 9] ?_
              simp only [zz20, zzI, look_nil, Nat.reduceBEq]
              refine awp_ret ?_
              simp only [zz6, Nat.reduceEqDiff, ↓reduceIte]
              refine done0 (by simp [resCs, resC, S, List.getD, look_cons, lookR, F_ag31, F_sz31, F_ok31]) ?_ (by simp [flatA, flatAs, flatD, lossA]) (by simp [AV.ids, AV.idsL, lossA])
              simp only [List.map_cons, List.map_nil, resA, S_getD, S_mem, lookR_cons, lookR_nil, Nat.reduceLT, Nat.reduceLeDiff, look_cons, Nat.reduceBEq, cond_true, cond_false, resAll, List.getD_cons_zero, List.getD_cons_succ, List.drop_zero, List.drop_succ_cons, List.take_succ_cons, List.take_zero, F_ag31, F_sz31, F_ok31]
              have e : lossE r who cur l = 1 := by simp [lossE, hE, lossOk, hj]
              have v : ∀ j, lossV r who cur l j = 0 := fun j => by simp [lossV, e]
              simp only [show rightN (List.map (fun x => lossOf x 0) (pcs r who cur l)).sum = false from hj, lossA, v, e]; rfl
            · intro hb
              have hj : rightN (lossT (pcs r who cur l) 0) = true := bif_eq hb
              clear hb
              simp only [show rightN (List.map (fun x => lossOf x 0) (pcs r who cur l)).sum = true from hj, cond_true]
              have h0 := hj
              refine awp_skip ?_
              simp only [zz6, Nat.reduceEqDiff, ↓reduceIte]
              refine hK2 _ ?_; try clear hK2 K2
              refine awp_keepL [8, 10, 11, 31] ?_
              simp only [zz20, zzI, look_nil, Nat.reduceBEq]
              refine awp_plain F_mixed [some 75, some 31] rfl ?_
              simp only [List.nil_append, List.cons_append, true_and, and_true, zz0, true_implies, Nat.reduceLT, Nat.reduceLeDiff, zzI, look_nil, Nat.reduceBEq, implies_true, zz21, gr_v, zz26, evS_move, zz6, Nat.reduceEqDiff, ↓reduceIte]
              refine ⟨5, _, by decide, le_SK id [] rfl (l' := [(8, .ptr 8 0 0), (10, .ptr 10 0 0), (11, .d (pieces (pcs r who cur l))), (31, .d (iv 1))]) (m' := [(8, (⟨True, 31, 6, true, false, 8, [[.d (.v (.int .i64 0)), .d (.v (.int .i64 0)), .d (.v (.int .i64 0)), .d (.v (.int .i64 0)), .d (.v (.int .i64 0)), .d (.v (.int .i64 0))]]⟩ : ARow)), (10, (⟨True, 31, 6, true, false, 10, [[.d (iv (lossT (pcs r who cur l) 0)), .d (.v (.int .i64 0)), .d (.v (.int .i64 0)), .d (.v (.int .i64 0)), .d (.v (.int .i64 0)), .d (.v (.int .i64 0))]]⟩ : ARow))]) ?_ ?_ ?_ ?_, .inr (.inl (⟨rfl, h0, rfl⟩))⟩
              · simp only [leV, look_cons, Nat.reduceBEq, cond_true, cond_false]; exact ⟨VLe.refl _, VLe.refl _, VLe.refl _, VLe.refl _, trivial⟩
              · exact ⟨fun _ => ⟨_, rfl, ⟨id, rfl, rfl, rfl, id, .inl, VLess.refl _⟩⟩, fun h => by simp at h, fun _ => ⟨_, rfl, ⟨id, rfl, rfl, rfl, id, .inl, VLess.refl _⟩⟩, fun h => by simp at h, trivial⟩
              · simp [wfV, AV.ids, AV.idsL, lookR]
              · simp [wfR, AV.idsL, AV.ids]
          · intro hb
            simp at hb
      · intro hb
        simp at hb
    · skip
      refine awp_seq fun K2 hK2 => ?_
      refine awp_plain F_mixed [some 32] rfl ?_
      simp only [List.nil_append, List.cons_append, true_and, and_true, zz0, true_implies, Nat.reduceLT, Nat.reduceLeDiff, zzI, look_nil, Nat.reduceBEq, implies_true, zz21, gr_v, zz22, zz6, Nat.reduceEqDiff, ↓reduceIte]
      refine hK2 _ ?_; try clear hK2 K2
      refine awp_keepL [8, 10, 11, 31, 32] ?_
      simp only [zz20, zzI, look_nil, Nat.reduceBEq]
      refine awp_seq fun K2 hK2 => ?_
      refine awp_condS _ (by decide) (by simp only [look_cons, Nat.reduceBEq, cond_true, cond_false]; rfl) ?_ ?_
      · intro hb
        clear hb
        refine awp_skip ?_
        simp only [zz6, Nat.reduceEqDiff, ↓reduceIte]
        refine hK2 _ ?_; try clear hK2 K2
        refine awp_keepL [8, 10, 11, 31] ?_
        simp only [zz20, zzI, look_nil, Nat.reduceBEq]
        refine awp_seq fun K2 hK2 => ?_
        refine awp_block ?_
        refine awp_seq fun K3 hK3 => ?_
        refine awp_plain F_mixed [some 33, some 13] rfl ?_
        simp only [List.nil_append, List.cons_append, true_and, and_true, zz0, true_implies, Nat.reduceLT, Nat.reduceLeDiff, zzI, look_nil, Nat.reduceBEq, implies_true, evS_move, evS_assign, zz6, Nat.reduceEqDiff, ↓reduceIte]
        refine hK3 _ ?_; try clear hK3 K3
        refine awp_keepL [8, 10, 11, 13, 31] ?_
        simp only [zz20, zzI, look_nil, Nat.reduceBEq]
        refine awp_seq fun K3 hK3 => ?_
        refine awp_plain F_mixed [some 14] rfl ?_
        simp only [List.nil_append, List.cons_append, true_and, and_true, zz0, true_implies, Nat.reduceLT, Nat.reduceLeDiff, zzI, look_nil, Nat.reduceBEq, implies_true, evS_assign, zz6, Nat.reduceEqDiff, ↓reduceIte]
        refine hK3 _ ?_; try clear hK3 K3
        refine awp_keepL [8, 10, 11, 13, 14, 31] ?_
        simp only [zz20, zzI, look_nil, Nat.reduceBEq]
        refine awp_seq fun K3 hK3 => ?_
        refine awp_seq fun K4 hK4 => ?_
        refine awp_plain F_mixed [some 34, some 35, some 36] rfl ?_
        simp only [List.nil_append, List.cons_append, true_and, and_true, zz0, true_implies, Nat.reduceLT, Nat.reduceLeDiff, zzI, look_nil, Nat.reduceBEq, implies_true, evS_move, evS_call, zz12, F_sl51, Option.isSome_some, pieces, len_map, zz6, Nat.reduceEqDiff, ↓reduceIte]
        refine hK4 _ ?_; try clear hK4 K4
        refine awp_keepL [8, 10, 11, 13, 14, 31, 34, 35, 36] ?_
        simp only [zz20, zzI, look_nil, Nat.reduceBEq]
        refine awp_block ?_
        refine awp_loop (fun m s => ∃ pre post : List PieceV, pcs r who cur l = pre ++ post ∧ m = post.length ∧ s = S 77 [(8, .ptr 8 0 0), (10, .ptr 10 0 0), (11, .d (pieces (pre ++ post))), (13, .d (iv 1)), (14, .ref 14 pre.length), (31, .d (iv 1)), (34, .d (pieces (pre ++ post))), (35, .d (iv (pre ++ post).length)), (36, .d (iv pre.length))] [(8, (⟨True, 31, 6, true, false, 8, [[.d (.v (.int .i64 0)), .d (.v (.int .i64 0)), .d (.v (.int .i64 0)), .d (.v (.int .i64 0)), .d (.v (.int .i64 0)), .d (.v (.int .i64 0))]]⟩ : ARow)), (10, (⟨True, 31, 6, true, false, 10, [[.d (iv (lossT (pcs r who cur l) 0)), .d (.v (.int .i64 0)), .d (.v (.int .i64 0)), .d (.v (.int .i64 0)), .d (.v (.int .i64 0)), .d (.v (.int .i64 0))]]⟩ : ARow)), (14, grow 59 2 14 ((pre.map (lossOf · 1)).map wideC))]) (pcs r who cur l).length _ (le_SK id [14] rfl (l' := [(8, .ptr 8 0 0), (10, .ptr 10 0 0), (11, .d (pieces (([] : List PieceV) ++ (pcs r who cur l)))), (13, .d (iv 1)), (14, .ref 14 ([] : List PieceV).length), (31, .d (iv 1)), (34, .d (pieces (([] : List PieceV) ++ (pcs r who cur l)))), (35, .d (iv (([] : List PieceV) ++ (pcs r who cur l)).length)), (36, .d (iv ([] : List PieceV).length))]) (m' := [(8, (⟨True, 31, 6, true, false, 8, [[.d (.v (.int .i64 0)), .d (.v (.int .i64 0)), .d (.v (.int .i64 0)), .d (.v (.int .i64 0)), .d (.v (.int .i64 0)), .d (.v (.int .i64 0))]]⟩ : ARow)), (10, (⟨True, 31, 6, true, false, 10, [[.d (iv (lossT (pcs r who cur l) 0)), .d (.v (.int .i64 0)), .d (.v (.int .i64 0)), .d (.v (.int .i64 0)), .d (.v (.int .i64 0)), .d (.v (.int .i64 0))]]⟩ : ARow)), (14, grow 59 2 14 ((([] : List PieceV).map (lossOf · 1)).map wideC))]) ?_ ?_ ?_ ?_) ⟨[], pcs r who cur l, rfl, rfl, rfl⟩ ?_
        · simp only [leV, look_cons, Nat.reduceBEq, cond_true, cond_false, pieces, len_map, List.nil_append]; exact ⟨VLe.ptr_ (f := id) (r := 8) (by simp), VLe.ptr_ (f := id) (r := 10) (by simp), VLe.still rfl, VLe.still rfl, VLe.nil_ (by decide), VLe.still rfl, VLe.still rfl, VLe.still rfl, VLe.still rfl, trivial⟩
        · exact ⟨fun _ => ⟨_, rfl, RowLe.still (by simp [AV.idsL, AV.ids])⟩, fun h => by simp at h, fun _ => ⟨_, rfl, RowLe.still (by simp [AV.idsL, AV.ids])⟩, fun h => by simp at h, fun h => by simp at h, fun _ => rfl, trivial⟩
        · simp [wfV, AV.ids, lookR]
        · simp [wfR, grow, AV.idsL, AV.ids]
        rintro m s ⟨pre, post, hsp, rfl, rfl⟩
        refine awp_seq fun K5 hK5 => ?_
        refine awp_plain F_mixed [some 37] rfl ?_
        simp only [List.nil_append, List.cons_append, true_and, and_true, zz0, true_implies, Nat.reduceLT, Nat.reduceLeDiff, zzI, look_nil, Nat.reduceBEq, implies_true, zz21, gr_v, zz22, zz6, Nat.reduceEqDiff, ↓reduceIte]
        refine hK5 _ ?_; try clear hK5 K5
        refine awp_keepL [8, 10, 11, 13, 14, 31, 34, 35, 36, 37] ?_
        simp only [zz20, zzI, look_nil, Nat.reduceBEq]
        refine awp_seq fun K5 hK5 => ?_
        refine awp_condS _ (by decide) (by simp only [look_cons, Nat.reduceBEq, cond_true, cond_false]; rfl) ?_ ?_
        · intro hb
          obtain ⟨x, post, rfl⟩ := more_of hb; clear hb
          have hx : PieceOk x := hps x (by rw [hsp]; simp)
          have hb := hx.loss 1
          have hw : IntKind.wrap .i64 (IntKind.wrap .i64 (0 - x.qty) * x.inst.mult) = -x.qty * x.inst.mult := by
            rw [wrapI (n := 0 - x.qty) (by have := hx.q1; omega) (by have := hx.q0; omega), show (0 - x.qty : Int) = -x.qty from by omega]
            exact wrapI (by omega) (by omega)
          have hs := hx.s 1
          simp only [shN] at hs
          refine awp_skip ?_
          simp only [zz6, Nat.reduceEqDiff, ↓reduceIte]
          refine hK5 _ ?_; try clear hK5 K5
          refine awp_keepL [8, 10, 11, 13, 14, 31, 34, 35, 36] ?_
          simp only [zz20, zzI, look_nil, Nat.reduceBEq]
          refine awp_seq fun K5 hK5 => ?_
          refine awp_block ?_
          refine awp_seq fun K6 hK6 => ?_
          refine awp_plain F_mixed [some 38, some 39, some 16, none] rfl ?_
          simp only [List.nil_append, List.cons_append, true_and, and_true, zz0, true_implies, Nat.reduceLT, Nat.reduceLeDiff, zzI, look_nil, Nat.reduceBEq, implies_true, evS_indexAddr, zz23, zz24, F_sl51, F_sz56, Option.map_some, zz16, Option.some.injEq, exists_eq_left', exists_eq_left, eq_self, reduceCtorEq, and_self, F_ok56, F_ag56, zz8, zzD, Nat.reduceAdd, Nat.zero_add, zzF, zzB, zzE, zz32, newRow1, F_zero56, zz10, zz18, splice, List.append_nil, zz1, zzG, pieces, pieceC, getD_mid, len_map, lt_mid, ge_mid, zz6, Nat.reduceEqDiff, ↓reduceIte]
          refine hK6 _ ?_; try clear hK6 K6
          refine awp_keepL [8, 10, 11, 13, 14, 16, 31, 34, 35, 36] ?_
          simp only [zz20, zzI, look_nil, Nat.reduceBEq]
          refine awp_draw F_mixed [some 40, some 41, some 42, some 43, some 44, some 45, some 46, some 47, some 48, some 49, some 50, some 51, some 52, some 53, some 54, some 55, some 14] rfl (by kernel_rfl) ?_
          simp only [List.nil_append, List.cons_append, true_and, and_true, zz0, true_implies, Nat.reduceLT, Nat.reduceLeDiff, zzI, look_nil, Nat.reduceBEq, implies_true, evS_move, zz19, zz23, F_off56_1, zzB, Nat.zero_add, Nat.reduceAdd, F_ok3, F_ag3, F_sz3, zz8, zzD, zzF, zzE, zz16, Option.some.injEq, exists_eq_left', exists_eq_left, Option.map_some, eq_self, reduceCtorEq, and_self, zz29, gr_v, zz37, F_off56_0, F_off49_2, zz21, zz36, F_off49_6, evS_indexAddr, zz15, F_arr31, evS_call, evC_value, F_sl54, F_zero59, F_sz59, zz3, newRow1, zz1, zzG, maxLen_le, Nat.reduceMul, F_by59, zz4, zz9, Option.bind_some, evS_assign, hw, wideA, grow, D.agg.injEq, unDs_map, Int.reduceToNat, Int.reduceLT, Int.reduceLE, cast6, Nat.reduceMul, zz6, Nat.reduceEqDiff, ↓reduceIte]
          refine call_go F_go19 (fun hG => Times_ (-x.qty * x.inst.mult) x.inst.s1 (by omega) (by omega) (by omega) (by omega)) (by simp [AV.ids, AV.idsL, wideA]) (by simp) ?_
          simp only [List.nil_append, List.cons_append, true_and, and_true, zz0, true_implies, Nat.reduceLT, Nat.reduceLeDiff, zzI, look_nil, Nat.reduceBEq, implies_true, evS_move, zz19, zz23, F_off56_1, zzB, Nat.zero_add, Nat.reduceAdd, F_ok3, F_ag3, F_sz3, zz8, zzD, zzF, zzE, zz16, Option.some.injEq, exists_eq_left', exists_eq_left, Option.map_some, eq_self, reduceCtorEq, and_self, zz29, gr_v, zz37, F_off56_0, F_off49_2, zz21, zz36, F_off49_6, evS_indexAddr, zz15, F_arr31, evS_call, evC_value, F_sl54, F_zero59, F_sz59, zz3, newRow1, zz1, zzG, maxLen_le, Nat.reduceMul, F_by59, zz4, zz9, Option.bind_some, evS_assign, hw, wideA, grow, D.agg.injEq, unDs_map, Int.reduceToNat, Int.reduceLT, Int.reduceLE, cast6, Nat.reduceMul, zz6, Nat.reduceEqDiff, ↓reduceIte, atsL, oksG, freeN, AV.ren, AV.renL, addRows, ORow.row, Nat.reduceMul, Nat.reduceAdd, unDs_cons, Option.bind_some, Option.map_some, forall_eq', D.sl.injEq, S_mem, Option.some.injEq, exists_eq_left', exists_eq_left, exists_eq', exists_eq, List.length_cons, zz2]
          have hm : pre.length + 1 ≤ 1000000 := by have e := congrArg List.length hsp; simp only [List.length_append, List.length_cons, List.length_map] at e; omega
          first | refine ⟨le_maxLen hm, by omega, ?_⟩ | refine ⟨by simp, le_maxLen hm, by omega, ?_⟩
          clear hm
          refine hK5 _ ?_; try clear hK5 K5
          refine awp_keepL [8, 10, 11, 13, 14, 31, 34, 35, 36] ?_
          simp only [zz20, zzI, look_nil, Nat.reduceBEq]
          refine awp_plain F_mixed [some 56, some 36] rfl ?_
          simp only [List.nil_append, List.cons_append, true_and, and_true, zz0, true_implies, Nat.reduceLT, Nat.reduceLeDiff, zzI, look_nil, Nat.reduceBEq, implies_true, zz21, gr_v, zz26, evS_move, zz6, Nat.reduceEqDiff, ↓reduceIte]
          refine ⟨post.length, _, by simp, le_SK (fun r => bif r == 14 then 55 else r) [] rfl (l' := [(8, .ptr 8 0 0), (10, .ptr 10 0 0), (11, .d (pieces ((pre ++ [x]) ++ post))), (13, .d (iv 1)), (14, .ref 14 (pre ++ [x]).length), (31, .d (iv 1)), (34, .d (pieces ((pre ++ [x]) ++ post))), (35, .d (iv ((pre ++ [x]) ++ post).length)), (36, .d (iv (pre ++ [x]).length))]) (m' := [(8, (⟨True, 31, 6, true, false, 8, [[.d (.v (.int .i64 0)), .d (.v (.int .i64 0)), .d (.v (.int .i64 0)), .d (.v (.int .i64 0)), .d (.v (.int .i64 0)), .d (.v (.int .i64 0))]]⟩ : ARow)), (10, (⟨True, 31, 6, true, false, 10, [[.d (iv (lossT (pcs r who cur l) 0)), .d (.v (.int .i64 0)), .d (.v (.int .i64 0)), .d (.v (.int .i64 0)), .d (.v (.int .i64 0)), .d (.v (.int .i64 0))]]⟩ : ARow)), (14, grow 59 2 14 (((pre ++ [x]).map (lossOf · 1)).map wideC))]) ?_ ?_ ?_ ?_, pre ++ [x], post, by simp [hsp], rfl, rfl⟩
          · simp only [leV, look_cons, Nat.reduceBEq, cond_true, cond_false, pieces, len_map, List.append_assoc, List.singleton_append, wrap_len pre x (by have e := congrArg List.length hsp; simp only [List.length_append, List.length_cons, List.length_map] at e; omega)]
            refine ⟨VLe.ptr_ (f := (fun r => bif r == 14 then 55 else r)) (r := 8) (by simp), VLe.ptr_ (f := (fun r => bif r == 14 then 55 else r)) (r := 10) (by simp), VLe.still rfl, VLe.still rfl, ?_, VLe.still rfl, VLe.still rfl, VLe.still rfl, VLe.still rfl, trivial⟩
            rw [show (AV.ref 55 _ : AV) = .ref ((fun r => bif r == 14 then 55 else r) 14) (pre ++ [x]).length from by simp]; exact VLe.ref_ (f := (fun r => bif r == 14 then 55 else r)) (r := 14) (by simp)
          · exact ⟨fun _ => ⟨_, rfl, RowLe.still (by simp [AV.idsL, AV.ids])⟩, fun h => by simp at h, fun _ => ⟨_, rfl, RowLe.still (by simp [AV.idsL, AV.ids])⟩, fun h => by simp at h, fun _ => ⟨_, rfl, RowLe.data_ (by simp [wideC, lossOf, shN])⟩, fun h => by simp at h, trivial⟩
          · simp [wfV, AV.ids, lookR, grow]
          · exact ⟨by simp [AV.idsL, AV.ids], by simp [AV.idsL, AV.ids], wf_data _ _, trivial⟩
        · intro hb
          obtain rfl := none_of hb; clear hb
          obtain rfl : pre = pcs r who cur l := by simpa using hsp.symm
          clear hsp
          refine awp_exit ?_
          simp only [zz6, Nat.reduceEqDiff, ↓reduceIte]
          refine hK3 _ ?_; try clear hK3 K3
          refine awp_keepL [8, 10, 11, 13, 14, 31] ?_
          simp only [zz20, zzI, look_nil, Nat.reduceBEq]
          refine awp_seq fun K3 hK3 => ?_
          refine awp_plain F_mixed [some 58, some 59, some 57, some 60, some 61, some 17, none, some 18] rfl ?_
          simp only [List.nil_append, List.cons_append, true_and, and_true, zz0, true_implies, Nat.reduceLT, Nat.reduceLeDiff, zzI, look_nil, Nat.reduceBEq, implies_true, evS_move, evS_call, evC_value, zz14, zzD, Nat.reduceAdd, Nat.zero_add, zzF, zz32, newRow1, F_zero59, zz16, Option.some.injEq, exists_eq_left', exists_eq_left, Option.map_some, eq_self, reduceCtorEq, and_self, zzB, zzE, zz10, zz18, F_ok59, F_sz59, splice, List.append_nil, zz1, zzG, evS_assign, wides, wideA, grow, hfit, List.append_nil, zz6, Nat.reduceEqDiff, ↓reduceIte]
          refine call_go F_go20 (fun hG => wSum_ ((pcs r who cur l).map (lossOf · 1)) (by simp; omega) (fun y hy => by obtain ⟨x, hx, rfl⟩ := List.mem_map.1 hy; have := ((hps x hx).loss 1).2; omega)) (by simp [AV.ids, AV.idsL, wideA]) (by simp) ?_
          simp only [List.nil_append, List.cons_append, true_and, and_true, zz0, true_implies, Nat.reduceLT, Nat.reduceLeDiff, zzI, look_nil, Nat.reduceBEq, implies_true, evS_move, evS_call, evC_value, zz14, zzD, Nat.reduceAdd, Nat.zero_add, zzF, zz32, newRow1, F_zero59, zz16, Option.some.injEq, exists_eq_left', exists_eq_left, Option.map_some, eq_self, reduceCtorEq, and_self, zzB, zzE, zz10, zz18, F_ok59, F_sz59, splice, List.append_nil, zz1, zzG, evS_assign, wides, wideA, grow, hfit, List.append_nil, zz6, Nat.reduceEqDiff, ↓reduceIte, atsL, oksG, freeN, AV.ren, AV.renL, addRows, ORow.row, Nat.reduceMul, Nat.reduceAdd, zz9, Option.bind_some, Option.map_some, forall_eq', D.sl.injEq, S_mem, Option.some.injEq, exists_eq_left', exists_eq_left, exists_eq', exists_eq, List.length_cons, zz2]
          refine ⟨by simp, ?_⟩
          refine hK3 _ ?_; try clear hK3 K3
          refine awp_keepL [8, 10, 11, 13, 17, 18, 31] ?_
          simp only [zz20, zzI, look_nil, Nat.reduceBEq]
          refine awp_seq fun K3 hK3 => ?_
          refine awp_seq fun K4 hK4 => ?_
          refine awp_plain F_mixed [some 62, some 63] rfl ?_
          simp only [List.nil_append, List.cons_append, true_and, and_true, zz0, true_implies, Nat.reduceLT, Nat.reduceLeDiff, zzI, look_nil, Nat.reduceBEq, implies_true, evS_move, zz21, gr_v, zz34, zz6, Nat.reduceEqDiff, ↓reduceIte]
          refine hK4 _ ?_; try clear hK4 K4
          refine awp_keepL [8, 10, 11, 13, 17, 18, 31, 63] ?_
          simp only [zz20, zzI, look_nil, Nat.reduceBEq]
          refine awp_condS _ (by decide) (by simp only [look_cons, Nat.reduceBEq, cond_true, cond_false]; rfl) ?_ ?_
          · intro hb
            clear hb
            refine awp_plain F_mixed [some 65, some 66, some 67, some 64, some 68, some 69, some 70, none, some 18] rfl ?_
            simp only [List.nil_append, List.cons_append, true_and, and_true, zz0, true_implies, Nat.reduceLT, Nat.reduceLeDiff, zzI, look_nil, Nat.reduceBEq, implies_true, evS_move, F_ok59, F_ag59, F_sz59, zz8, zz23, zzD, Nat.reduceAdd, Nat.zero_add, zzF, zzB, zzE, zz16, Option.some.injEq, exists_eq_left', exists_eq_left, Option.map_some, eq_self, reduceCtorEq, and_self, evS_call, evC_value, zz14, evS_indexAddr, zz15, F_arr31, F_sz3, zz18, F_ok3, splice, List.append_nil, zz1, zzG, evS_assign, wideC, wideA, Int.reduceToNat, Int.reduceLT, Int.reduceLE, cast6, Nat.reduceMul, zz6, Nat.reduceEqDiff, ↓reduceIte]
            refine call_go F_go21 (fun hG => wInt_ ((pcs r who cur l).map (lossOf · 1)).sum) (by simp [AV.ids, AV.idsL, wideC, wideA]) (by simp) ?_
            simp only [List.nil_append, List.cons_append, true_and, and_true, zz0, true_implies, Nat.reduceLT, Nat.reduceLeDiff, zzI, look_nil, Nat.reduceBEq, implies_true, evS_move, F_ok59, F_ag59, F_sz59, zz8, zz23, zzD, Nat.reduceAdd, Nat.zero_add, zzF, zzB, zzE, zz16, Option.some.injEq, exists_eq_left', exists_eq_left, Option.map_some, eq_self, reduceCtorEq, and_self, evS_call, evC_value, zz14, evS_indexAddr, zz15, F_arr31, F_sz3, zz18, F_ok3, splice, List.append_nil, zz1, zzG, evS_assign, wideC, wideA, Int.reduceToNat, Int.reduceLT, Int.reduceLE, cast6, Nat.reduceMul, zz6, Nat.reduceEqDiff, ↓reduceIte, atsL, oksG, freeN, AV.ren, AV.renL, addRows, ORow.row, Nat.reduceMul, Nat.reduceAdd, zz9, Option.bind_some, Option.map_some, forall_eq', D.sl.injEq, S_mem, Option.some.injEq, exists_eq_left', exists_eq_left, exists_eq', exists_eq, List.length_cons, zz2]
            refine hK3 _ ?_; try clear hK3 K3
            refine awp_keepL [8, 10, 11, 18, 31] ?_
            simp only [zz20, zzI, look_nil, Nat.reduceBEq]
            refine awp_seq fun K3 hK3 => ?_
            refine awp_plain F_mixed [some 71, some 72] rfl ?_
            simp only [List.nil_append, List.cons_append, true_and, and_true, zz0, true_implies, Nat.reduceLT, Nat.reduceLeDiff, zzI, look_nil, Nat.reduceBEq, implies_true, evS_move, zz21, gr_v, zz28, zz6, Nat.reduceEqDiff, ↓reduceIte]
            refine hK3 _ ?_; try clear hK3 K3
            refine awp_keepL [8, 10, 11, 18, 31, 72] ?_
            simp only [zz20, zzI, look_nil, Nat.reduceBEq]
            refine awp_condS _ (by decide) (by simp only [look_cons, Nat.reduceBEq, cond_true, cond_false]; rfl) ?_ ?_
            · intro hb
              have hj : rightN (lossT (pcs r who cur l) 1) = false := bif_ne hb
              clear hb
              refine awp_seq fun K4 hK4 => ?_
              refine awp_plain F_mixed [some 73, some 74, none, some 9] rfl ?_
              simp only [List.nil_append, List.cons_append, true_and, and_true, zz0, true_implies, Nat.reduceLT, Nat.reduceLeDiff, zzI, look_nil, Nat.reduceBEq, implies_true, F_zero31, F_bld31, zz7, splice, Option.getD_some, List.append_nil, zz1, zzG, zzD, zz16, Option.some.injEq, exists_eq_left', exists_eq_left, Option.map_some, eq_self, reduceCtorEq, and_self, Nat.reduceAdd, Nat.zero_add, zzF, zzB, zzE, zz10, evS_move, zz18, F_ok31, F_sz31, evS_assign, zz6, Nat.reduceEqDiff, ↓reduceIte]
              refine hK4 _ ?_; try clear hK4 K4
              refine awp_keepL [8, 9] ?_
              simp only [zz20, zzI, look_nil, Nat.reduceBEq]
              refine awp_ret ?_
              simp only [zz6, Nat.reduceEqDiff, ↓reduceIte]
              refine done0 (by simp [resCs, resC, S, List.getD, look_cons, lookR, F_ag31, F_sz31, F_ok31]) ?_ (by simp [flatA, flatAs, flatD, lossA]) (by simp [AV.ids, AV.idsL, lossA])
              simp only [List.map_cons, List.map_nil, resA, S_getD, S_mem, lookR_cons, lookR_nil, Nat.reduceLT, Nat.reduceLeDiff, look_cons, Nat.reduceBEq, cond_true, cond_false, resAll, List.getD_cons_zero, List.getD_cons_succ, List.drop_zero, List.drop_succ_cons, List.take_succ_cons, List.take_zero, F_ag31, F_sz31, F_ok31]
              have e : lossE r who cur l = 1 := by simp [lossE, hE, lossOk, hj]
              have v : ∀ j, lossV r who cur l j = 0 := fun j => by simp [lossV, e]
              simp only [show rightN (List.map (fun x => lossOf x 1) (pcs r who cur l)).sum = false from hj, lossA, v, e]; rfl
            · intro hb
              have hj : rightN (lossT (pcs r who cur l) 1) = true := bif_eq hb
              clear hb
              simp only [show rightN (List.map (fun x => lossOf x 1) (pcs r who cur l)).sum = true from hj, cond_true]
              have h1 := hj
              refine awp_skip ?_
              simp only [zz6, Nat.reduceEqDiff, ↓reduceIte]
              refine hK2 _ ?_; try clear hK2 K2
              refine awp_keepL [8, 10, 11, 31] ?_
              simp only [zz20, zzI, look_nil, Nat.reduceBEq]
              refine awp_plain F_mixed [some 75, some 31] rfl ?_
              simp only [List.nil_append, List.cons_append, true_and, and_true, zz0, true_implies, Nat.reduceLT, Nat.reduceLeDiff, zzI, look_nil, Nat.reduceBEq, implies_true, zz21, gr_v, zz26, evS_move, zz6, Nat.reduceEqDiff, ↓reduceIte]
              refine ⟨4, _, by decide, le_SK id [] rfl (l' := [(8, .ptr 8 0 0), (10, .ptr 10 0 0), (11, .d (pieces (pcs r who cur l))), (31, .d (iv 2))]) (m' := [(8, (⟨True, 31, 6, true, false, 8, [[.d (.v (.int .i64 0)), .d (.v (.int .i64 0)), .d (.v (.int .i64 0)), .d (.v (.int .i64 0)), .d (.v (.int .i64 0)), .d (.v (.int .i64 0))]]⟩ : ARow)), (10, (⟨True, 31, 6, true, false, 10, [[.d (iv (lossT (pcs r who cur l) 0)), .d (iv (lossT (pcs r who cur l) 1)), .d (.v (.int .i64 0)), .d (.v (.int .i64 0)), .d (.v (.int .i64 0)), .d (.v (.int .i64 0))]]⟩ : ARow))]) ?_ ?_ ?_ ?_, .inr (.inr (.inl (⟨rfl, h0, h1, rfl⟩)))⟩
              · simp only [leV, look_cons, Nat.reduceBEq, cond_true, cond_false]; exact ⟨VLe.refl _, VLe.refl _, VLe.refl _, VLe.refl _, trivial⟩
              · exact ⟨fun _ => ⟨_, rfl, ⟨id, rfl, rfl, rfl, id, .inl, VLess.refl _⟩⟩, fun h => by simp at h, fun _ => ⟨_, rfl, ⟨id, rfl, rfl, rfl, id, .inl, VLess.refl _⟩⟩, fun h => by simp at h, trivial⟩
              · simp [wfV, AV.ids, AV.idsL, lookR]
              · simp [wfR, AV.idsL, AV.ids]
          · intro hb
            simp at hb
      · intro hb
        simp at hb
    · skip
      refine awp_seq fun K2 hK2 => ?_
      refine awp_plain F_mixed [some 32] rfl ?_
      simp only [List.nil_append, List.cons_append, true_and, and_true, zz0, true_implies, Nat.reduceLT, Nat.reduceLeDiff, zzI, look_nil, Nat.reduceBEq, implies_true, zz21, gr_v, zz22, zz6, Nat.reduceEqDiff, ↓reduceIte]
      refine hK2 _ ?_; try clear hK2 K2
      refine awp_keepL [8, 10, 11, 31, 32] ?_
      simp only [zz20, zzI, look_nil, Nat.reduceBEq]
      refine awp_seq fun K2 hK2 => ?_
      refine awp_condS _ (by decide) (by simp only [look_cons, Nat.reduceBEq, cond_true, cond_false]; rfl) ?_ ?_
      · intro hb
        clear hb
        refine awp_skip ?_
        simp only [zz6, Nat.reduceEqDiff, ↓reduceIte]
        refine hK2 _ ?_; try clear hK2 K2
        refine awp_keepL [8, 10, 11, 31] ?_
        simp only [zz20, zzI, look_nil, Nat.reduceBEq]
        refine awp_seq fun K2 hK2 => ?_
        refine awp_block ?_
        refine awp_seq fun K3 hK3 => ?_
        refine awp_plain F_mixed [some 33, some 13] rfl ?_
        simp only [List.nil_append, List.cons_append, true_and, and_true, zz0, true_implies, Nat.reduceLT, Nat.reduceLeDiff, zzI, look_nil, Nat.reduceBEq, implies_true, evS_move, evS_assign, zz6, Nat.reduceEqDiff, ↓reduceIte]
        refine hK3 _ ?_; try clear hK3 K3
        refine awp_keepL [8, 10, 11, 13, 31] ?_
        simp only [zz20, zzI, look_nil, Nat.reduceBEq]
        refine awp_seq fun K3 hK3 => ?_
        refine awp_plain F_mixed [some 14] rfl ?_
        simp only [List.nil_append, List.cons_append, true_and, and_true, zz0, true_implies, Nat.reduceLT, Nat.reduceLeDiff, zzI, look_nil, Nat.reduceBEq, implies_true, evS_assign, zz6, Nat.reduceEqDiff, ↓reduceIte]
        refine hK3 _ ?_; try clear hK3 K3
        refine awp_keepL [8, 10, 11, 13, 14, 31] ?_
        simp only [zz20, zzI, look_nil, Nat.reduceBEq]
        refine awp_seq fun K3 hK3 => ?_
        refine awp_seq fun K4 hK4 => ?_
        refine awp_plain F_mixed [some 34, some 35, some 36] rfl ?_
        simp only [List.nil_append, List.cons_append, true_and, and_true, zz0, true_implies, Nat.reduceLT, Nat.reduceLeDiff, zzI, look_nil, Nat.reduceBEq, implies_true, evS_move, evS_call, zz12, F_sl51, Option.isSome_some, pieces, len_map, zz6, Nat.reduceEqDiff, ↓reduceIte]
        refine hK4 _ ?_; try clear hK4 K4
        refine awp_keepL [8, 10, 11, 13, 14, 31, 34, 35, 36] ?_
        simp only [zz20, zzI, look_nil, Nat.reduceBEq]
        refine awp_block ?_
        refine awp_loop (fun m s => ∃ pre post : List PieceV, pcs r who cur l = pre ++ post ∧ m = post.length ∧ s = S 77 [(8, .ptr 8 0 0), (10, .ptr 10 0 0), (11, .d (pieces (pre ++ post))), (13, .d (iv 2)), (14, .ref 14 pre.length), (31, .d (iv 2)), (34, .d (pieces (pre ++ post))), (35, .d (iv (pre ++ post).length)), (36, .d (iv pre.length))] [(8, (⟨True, 31, 6, true, false, 8, [[.d (.v (.int .i64 0)), .d (.v (.int .i64 0)), .d (.v (.int .i64 0)), .d (.v (.int .i64 0)), .d (.v (.int .i64 0)), .d (.v (.int .i64 0))]]⟩ : ARow)), (10, (⟨True, 31, 6, true, false, 10, [[.d (iv (lossT (pcs r who cur l) 0)), .d (iv (lossT (pcs r who cur l) 1)), .d (.v (.int .i64 0)), .d (.v (.int .i64 0)), .d (.v (.int .i64 0)), .d (.v (.int .i64 0))]]⟩ : ARow)), (14, grow 59 2 14 ((pre.map (lossOf · 2)).map wideC))]) (pcs r who cur l).length _ (le_SK id [14] rfl (l' := [(8, .ptr 8 0 0), (10, .ptr 10 0 0), (11, .d (pieces (([] : List PieceV) ++ (pcs r who cur l)))), (13, .d (iv 2)), (14, .ref 14 ([] : List PieceV).length), (31, .d (iv 2)), (34, .d (pieces (([] : List PieceV) ++ (pcs r who cur l)))), (35, .d (iv (([] : List PieceV) ++ (pcs r who cur l)).length)), (36, .d (iv ([] : List PieceV).length))]) (m' := [(8, (⟨True, 31, 6, true, false, 8, [[.d (.v (.int .i64 0)), .d (.v (.int .i64 0)), .d (.v (.int .i64 0)), .d (.v (.int .i64 0)), .d (.v (.int .i64 0)), .d (.v (.int .i64 0))]]⟩ : ARow)), (10, (⟨True, 31, 6, true, false, 10, [[.d (iv (lossT (pcs r who cur l) 0)), .d (iv (lossT (pcs r who cur l) 1)), .d (.v (.int .i64 0)), .d (.v (.int .i64 0)), .d (.v (.int .i64 0)), .d (.v (.int .i64 0))]]⟩ : ARow)), (14, grow 59 2 14 ((([] : List PieceV).map (lossOf · 2)).map wideC))]) ?_ ?_ ?_ ?_) ⟨[], pcs r who cur l, rfl, rfl, rfl⟩ ?_
        · simp only [leV, look_cons, Nat.reduceBEq, cond_true, cond_false, pieces, len_map, List.nil_append]; exact ⟨VLe.ptr_ (f := id) (r := 8) (by simp), VLe.ptr_ (f := id) (r := 10) (by simp), VLe.still rfl, VLe.still rfl, VLe.nil_ (by decide), VLe.still rfl, VLe.still rfl, VLe.still rfl, VLe.still rfl, trivial⟩
        · exact ⟨fun _ => ⟨_, rfl, RowLe.still (by simp [AV.idsL, AV.ids])⟩, fun h => by simp at h, fun _ => ⟨_, rfl, RowLe.still (by simp [AV.idsL, AV.ids])⟩, fun h => by simp at h, fun h => by simp at h, fun _ => rfl, trivial⟩
        · simp [wfV, AV.ids, lookR]
        · simp [wfR, grow, AV.idsL, AV.ids]
        rintro m s ⟨pre, post, hsp, rfl, rfl⟩
        refine awp_seq fun K5 hK5 => ?_
        refine awp_plain F_mixed [some 37] rfl ?_
        simp only [List.nil_append, List.cons_append, true_and, and_true, zz0, true_implies, Nat.reduceLT, Nat.reduceLeDiff, zzI, look_nil, Nat.reduceBEq, implies_true, zz21, gr_v, zz22, zz6, Nat.reduceEqDiff, ↓reduceIte]
        refine hK5 _ ?_; try clear hK5 K5
        refine awp_keepL [8, 10, 11, 13, 14, 31, 34, 35, 36, 37] ?_
        simp only [zz20, zzI, look_nil, Nat.reduceBEq]
        refine awp_seq fun K5 hK5 => ?_
        refine awp_condS _ (by decide) (by simp only [look_cons, Nat.reduceBEq, cond_true, cond_false]; rfl) ?_ ?_
        · intro hb
          obtain ⟨x, post, rfl⟩ := more_of hb; clear hb
          have hx : PieceOk x := hps x (by rw [hsp]; simp)
          have hb := hx.loss 2
          have hw : IntKind.wrap .i64 (IntKind.wrap .i64 (0 - x.qty) * x.inst.mult) = -x.qty * x.inst.mult := by
            rw [wrapI (n := 0 - x.qty) (by have := hx.q1; omega) (by have := hx.q0; omega), show (0 - x.qty : Int) = -x.qty from by omega]
            exact wrapI (by omega) (by omega)
          have hs := hx.s 2
          simp only [shN] at hs
          refine awp_skip ?_
          simp only [zz6, Nat.reduceEqDiff, ↓reduceIte]
          refine hK5 _ ?_; try clear hK5 K5
          refine awp_keepL [8, 10, 11, 13, 14, 31, 34, 35, 36] ?_
          simp only [zz20, zzI, look_nil, Nat.reduceBEq]
          refine awp_seq fun K5 hK5 => ?_
          refine awp_block ?_
          refine awp_seq fun K6 hK6 => ?_
          refine awp_plain F_mixed [some 38, some 39, some 16, none] rfl ?_
          simp only [List.nil_append, List.cons_append, true_and, and_true, zz0, true_implies, Nat.reduceLT, Nat.reduceLeDiff, zzI, look_nil, Nat.reduceBEq, implies_true, evS_indexAddr, zz23, zz24, F_sl51, F_sz56, Option.map_some, zz16, Option.some.injEq, exists_eq_left', exists_eq_left, eq_self, reduceCtorEq, and_self, F_ok56, F_ag56, zz8, zzD, Nat.reduceAdd, Nat.zero_add, zzF, zzB, zzE, zz32, newRow1, F_zero56, zz10, zz18, splice, List.append_nil, zz1, zzG, pieces, pieceC, getD_mid, len_map, lt_mid, ge_mid, zz6, Nat.reduceEqDiff, ↓reduceIte]
          refine hK6 _ ?_; try clear hK6 K6
          refine awp_keepL [8, 10, 11, 13, 14, 16, 31, 34, 35, 36] ?_
          simp only [zz20, zzI, look_nil, Nat.reduceBEq]
          refine awp_draw F_mixed [some 40, some 41, some 42, some 43, some 44, some 45, some 46, some 47, some 48, some 49, some 50, some 51, some 52, some 53, some 54, some 55, some 14] rfl (by kernel_rfl) ?_
          simp only [List.nil_append, List.cons_append, true_and, and_true, zz0, true_implies, Nat.reduceLT, Nat.reduceLeDiff, zzI, look_nil, Nat.reduceBEq, implies_true, evS_move, zz19, zz23, F_off56_1, zzB, Nat.zero_add, Nat.reduceAdd, F_ok3, F_ag3, F_sz3, zz8, zzD, zzF, zzE, zz16, Option.some.injEq, exists_eq_left', exists_eq_left, Option.map_some, eq_self, reduceCtorEq, and_self, zz29, gr_v, zz37, F_off56_0, F_off49_2, zz21, zz36, F_off49_6, evS_indexAddr, zz15, F_arr31, evS_call, evC_value, F_sl54, F_zero59, F_sz59, zz3, newRow1, zz1, zzG, maxLen_le, Nat.reduceMul, F_by59, zz4, zz9, Option.bind_some, evS_assign, hw, wideA, grow, D.agg.injEq, unDs_map, Int.reduceToNat, Int.reduceLT, Int.reduceLE, cast6, Nat.reduceMul, zz6, Nat.reduceEqDiff, ↓reduceIte]
          refine call_go F_go19 (fun hG => Times_ (-x.qty * x.inst.mult) x.inst.s2 (by omega) (by omega) (by omega) (by omega)) (by simp [AV.ids, AV.idsL, wideA]) (by simp) ?_
          simp only [List.nil_append, List.cons_append, true_and, and_true, zz0, true_implies, Nat.reduceLT, Nat.reduceLeDiff, zzI, look_nil, Nat.reduceBEq, implies_true, evS_move, zz19, zz23, F_off56_1, zzB, Nat.zero_add, Nat.reduceAdd, F_ok3, F_ag3, F_sz3, zz8, zzD, zzF, zzE, zz16, Option.some.injEq, exists_eq_left', exists_eq_left, Option.map_some, eq_self, reduceCtorEq, and_self, zz29, gr_v, zz37, F_off56_0, F_off49_2, zz21, zz36, F_off49_6, evS_indexAddr, zz15, F_arr31, evS_call, evC_value, F_sl54, F_zero59, F_sz59, zz3, newRow1, zz1, zzG, maxLen_le, Nat.reduceMul, F_by59, zz4, zz9, Option.bind_some, evS_assign, hw, wideA, grow, D.agg.injEq, unDs_map, Int.reduceToNat, Int.reduceLT, Int.reduceLE, cast6, Nat.reduceMul, zz6, Nat.reduceEqDiff, ↓reduceIte, atsL, oksG, freeN, AV.ren, AV.renL, addRows, ORow.row, Nat.reduceMul, Nat.reduceAdd, unDs_cons, Option.bind_some, Option.map_some, forall_eq', D.sl.injEq, S_mem, Option.some.injEq, exists_eq_left', exists_eq_left, exists_eq', exists_eq, List.length_cons, zz2]
          have hm : pre.length + 1 ≤ 1000000 := by have e := congrArg List.length hsp; simp only [List.length_append, List.length_cons, List.length_map] at e; omega
          first | refine ⟨le_maxLen hm, by omega, ?_⟩ | refine ⟨by simp, le_maxLen hm, by omega, ?_⟩
          clear hm
          refine hK5 _ ?_; try clear hK5 K5
          refine awp_keepL [8, 10, 11, 13, 14, 31, 34, 35, 36] ?_
          simp only [zz20, zzI, look_nil, Nat.reduceBEq]
          refine awp_plain F_mixed [some 56, some 36] rfl ?_
          simp only [List.nil_append, List.cons_append, true_and, and_true, zz0, true_implies, Nat.reduceLT, Nat.reduceLeDiff, zzI, look_nil, Nat.reduceBEq, implies_true, zz21, gr_v, zz26, evS_move, zz6, Nat.reduceEqDiff, ↓reduceIte]
          refine ⟨post.length, _, by simp, le_SK (fun r => bif r == 14 then 55 else r) [] rfl (l' := [(8, .ptr 8 0 0), (10, .ptr 10 0 0), (11, .d (pieces ((pre ++ [x]) ++ post))), (13, .d (iv 2)), (14, .ref 14 (pre ++ [x]).length), (31, .d (iv 2)), (34, .d (pieces ((pre ++ [x]) ++ post))), (35, .d (iv ((pre ++ [x]) ++ post).length)), (36, .d (iv (pre ++ [x]).length))]) (m' := [(8, (⟨True, 31, 6, true, false, 8, [[.d (.v (.int .i64 0)), .d (.v (.int .i64 0)), .d (.v (.int .i64 0)), .d (.v (.int .i64 0)), .d (.v (.int .i64 0)), .d (.v (.int .i64 0))]]⟩ : ARow)), (10, (⟨True, 31, 6, true, false, 10, [[.d (iv (lossT (pcs r who cur l) 0)), .d (iv (lossT (pcs r who cur l) 1)), .d (.v (.int .i64 0)), .d (.v (.int .i64 0)), .d (.v (.int .i64 0)), .d (.v (.int .i64 0))]]⟩ : ARow)), (14, grow 59 2 14 (((pre ++ [x]).map (lossOf · 2)).map wideC))]) ?_ ?_ ?_ ?_, pre ++ [x], post, by simp [hsp], rfl, rfl⟩
          · simp only [leV, look_cons, Nat.reduceBEq, cond_true, cond_false, pieces, len_map, List.append_assoc, List.singleton_append, wrap_len pre x (by have e := congrArg List.length hsp; simp only [List.length_append, List.length_cons, List.length_map] at e; omega)]
            refine ⟨VLe.ptr_ (f := (fun r => bif r == 14 then 55 else r)) (r := 8) (by simp), VLe.ptr_ (f := (fun r => bif r == 14 then 55 else r)) (r := 10) (by simp), VLe.still rfl, VLe.still rfl, ?_, VLe.still rfl, VLe.still rfl, VLe.still rfl, VLe.still rfl, trivial⟩
            rw [show (AV.ref 55 _ : AV) = .ref ((fun r => bif r == 14 then 55 else r) 14) (pre ++ [x]).length from by simp]; exact VLe.ref_ (f := (fun r => bif r == 14 then 55 else r)) (r := 14) (by simp)
          · exact ⟨fun _ => ⟨_, rfl, RowLe.still (by simp [AV.idsL, AV.ids])⟩, fun h => by simp at h, fun _ => ⟨_, rfl, RowLe.still (by simp [AV.idsL, AV.ids])⟩, fun h => by simp at h, fun _ => ⟨_, rfl, RowLe.data_ (by simp [wideC, lossOf, shN])⟩, fun h => by simp at h, trivial⟩
          · simp [wfV, AV.ids, lookR, grow]
          · exact ⟨by simp [AV.idsL, AV.ids], by simp [AV.idsL, AV.ids], wf_data _ _, trivial⟩
        · intro hb
          obtain rfl := none_of hb; clear hb
          obtain rfl : pre = pcs r who cur l := by simpa using hsp.symm
          clear hsp
          refine awp_exit ?_
          simp only [zz6, Nat.reduceEqDiff, ↓reduceIte]
          refine hK3 _ ?_; try clear hK3 K3
          refine awp_keepL [8, 10, 11, 13, 14, 31] ?_
          simp only [zz20, zzI, look_nil, Nat.reduceBEq]
          refine awp_seq fun K3 hK3 => ?_
          refine awp_plain F_mixed [some 58, some 59, some 57, some 60, some 61, some 17, none, some 18] rfl ?_
          simp only [List.nil_append, List.cons_append, true_and, and_true, zz0, true_implies, Nat.reduceLT, Nat.reduceLeDiff, zzI, look_nil, Nat.reduceBEq, implies_true, evS_move, evS_call, evC_value, zz14, zzD, Nat.reduceAdd, Nat.zero_add, zzF, zz32, newRow1, F_zero59, zz16, Option.some.injEq, exists_eq_left', exists_eq_left, Option.map_some, eq_self, reduceCtorEq, and_self, zzB, zzE, zz10, zz18, F_ok59, F_sz59, splice, List.append_nil, zz1, zzG, evS_assign, wides, wideA, grow, hfit, List.append_nil, zz6, Nat.reduceEqDiff, ↓reduceIte]
          refine call_go F_go20 (fun hG => wSum_ ((pcs r who cur l).map (lossOf · 2)) (by simp; omega) (fun y hy => by obtain ⟨x, hx, rfl⟩ := List.mem_map.1 hy; have := ((hps x hx).loss 2).2; omega)) (by simp [AV.ids, AV.idsL, wideA]) (by simp) ?_
          simp only [List.nil_append, List.cons_append, true_and, and_true, zz0, true_implies, Nat.reduceLT, Nat.reduceLeDiff, zzI, look_nil, Nat.reduceBEq, implies_true, evS_move, evS_call, evC_value, zz14, zzD, Nat.reduceAdd, Nat.zero_add, zzF, zz32, newRow1, F_zero59, zz16, Option.some.injEq, exists_eq_left', exists_eq_left, Option.map_some, eq_self, reduceCtorEq, and_self, zzB, zzE, zz10, zz18, F_ok59, F_sz59, splice, List.append_nil, zz1, zzG, evS_assign, wides, wideA, grow, hfit, List.append_nil, zz6, Nat.reduceEqDiff, ↓reduceIte, atsL, oksG, freeN, AV.ren, AV.renL, addRows, ORow.row, Nat.reduceMul, Nat.reduceAdd, zz9, Option.bind_some, Option.map_some, forall_eq', D.sl.injEq, S_mem, Option.some.injEq, exists_eq_left', exists_eq_left, exists_eq', exists_eq, List.length_cons, zz2]
          refine ⟨by simp, ?_⟩
          refine hK3 _ ?_; try clear hK3 K3
          refine awp_keepL [8, 10, 11, 13, 17, 18, 31] ?_
          simp only [zz20, zzI, look_nil, Nat.reduceBEq]
          refine awp_seq fun K3 hK3 => ?_
          refine awp_seq fun K4 hK4 => ?_
          refine awp_plain F_mixed [some 62, some 63] rfl ?_
          simp only [List.nil_append, List.cons_append, true_and, and_true, zz0, true_implies, Nat.reduceLT, Nat.reduceLeDiff, zzI, look_nil, Nat.reduceBEq, implies_true, evS_move, zz21, gr_v, zz34, zz6, Nat.reduceEqDiff, ↓reduceIte]
          refine hK4 _ ?_; try clear hK4 K4
          refine awp_keepL [8, 10, 11, 13, 17, 18, 31, 63] ?_
          simp only [zz20, zzI, look_nil, Nat.reduceBEq]
          refine awp_condS _ (by decide) (by simp only [look_cons, Nat.reduceBEq, cond_true, cond_false]; rfl) ?_ ?_
          · intro hb
            clear hb
            refine awp_plain F_mixed [some 65, some 66, some 67, some 64, some 68, some 69, some 70, none, some 18] rfl ?_
            simp only [List.nil_append, List.cons_append, true_and, and_true, zz0, true_implies, Nat.reduceLT, Nat.reduceLeDiff, zzI, look_nil, Nat.reduceBEq, implies_true, evS_move, F_ok59, F_ag59, F_sz59, zz8, zz23, zzD, Nat.reduceAdd, Nat.zero_add, zzF, zzB, zzE, zz16, Option.some.injEq, exists_eq_left', exists_eq_left, Option.map_some, eq_self, reduceCtorEq, and_self, evS_call, evC_value, zz14, evS_indexAddr, zz15, F_arr31, F_sz3, zz18, F_ok3, splice, List.append_nil, zz1, zzG, evS_assign, wideC, wideA, Int.reduceToNat, Int.reduceLT, Int.reduceLE, cast6, Nat.reduceMul, zz6, Nat.reduceEqDiff, ↓reduceIte]
            refine call_go F_go21 (fun hG => wInt_ ((pcs r who cur l).map (lossOf · 2)).sum) (by simp [AV.ids, AV.idsL, wideC, wideA]) (by simp) ?_
            simp only [List.nil_append, List.cons_append, true_and, and_true, zz0, true_implies, Nat.reduceLT, Nat.reduceLeDiff, zzI, look_nil, Nat.reduceBEq, implies_true, evS_move, F_ok59, F_ag59, F_sz59, zz8, zz23, zzD, Nat.reduceAdd, Nat.zero_add, zzF, zzB, zzE, zz16, Option.some.injEq, exists_eq_left', exists_eq_left, Option.map_some, eq_self, reduceCtorEq, and_self, evS_call, evC_value, zz14, evS_indexAddr, zz15, F_arr31, F_sz3, zz18, F_ok3, splice, List.append_nil, zz1, zzG, evS_assign, wideC, wideA, Int.reduceToNat, Int.reduceLT, Int.reduceLE, cast6, Nat.reduceMul, zz6, Nat.reduceEqDiff, ↓reduceIte, atsL, oksG, freeN, AV.ren, AV.renL, addRows, ORow.row, Nat.reduceMul, Nat.reduceAdd, zz9, Option.bind_some, Option.map_some, forall_eq', D.sl.injEq, S_mem, Option.some.injEq, exists_eq_left', exists_eq_left, exists_eq', exists_eq, List.length_cons, zz2]
            refine hK3 _ ?_; try clear hK3 K3
            refine awp_keepL [8, 10, 11, 18, 31] ?_
            simp only [zz20, zzI, look_nil, Nat.reduceBEq]
            refine awp_seq fun K3 hK3 => ?_
            refine awp_plain F_mixed [some 71, some 72] rfl ?_
            simp only [List.nil_append, List.cons_append, true_and, and_true, zz0, true_implies, Nat.reduceLT, Nat.reduceLeDiff, zzI, look_nil, Nat.reduceBEq, implies_true, evS_move, zz21, gr_v, zz28, zz6, Nat.reduceEqDiff, ↓reduceIte]
            refine hK3 _ ?_; try clear hK3 K3
            refine awp_keepL [8, 10, 11, 18, 31, 72] ?_
            simp only [zz20, zzI, look_nil, Nat.reduceBEq]
            refine awp_condS _ (by decide) (by simp only [look_cons, Nat.reduceBEq, cond_true, cond_false]; rfl) ?_ ?_
            · intro hb
              have hj : rightN (lossT (pcs r who cur l) 2) = false := bif_ne hb
              clear hb
              refine awp_seq fun K4 hK4 => ?_
              refine awp_plain F_mixed [some 73, some 74, none, some 9] rfl ?_
              simp only [List.nil_append, List.cons_append, true_and, and_true, zz0, true_implies, Nat.reduceLT, Nat.reduceLeDiff, zzI, look_nil, Nat.reduceBEq, implies_true, F_zero31, F_bld31, zz7, splice, Option.getD_some, List.append_nil, zz1, zzG, zzD, zz16, Option.some.injEq, exists_eq_left', exists_eq_left, Option.map_some, eq_self, reduceCtorEq, and_self, Nat.reduceAdd, Nat.zero_add, zzF, zzB, zzE, zz10, evS_move, zz18, F_ok31, F_sz31, evS_assign, zz6, Nat.reduceEqDiff, ↓reduceIte]
              refine hK4 _ ?_; try clear hK4 K4
              refine awp_keepL [8, 9] ?_
              simp only [zz20, zzI, look_nil, Nat.reduceBEq]
              refine awp_ret ?_
              simp only [zz6, Nat.reduceEqDiff, ↓reduceIte]
              refine done0 (by simp [resCs, resC, S, List.getD, look_cons, lookR, F_ag31, F_sz31, F_ok31]) ?_ (by simp [flatA, flatAs, flatD, lossA]) (by simp [AV.ids, AV.idsL, lossA])
              simp only [List.map_cons, List.map_nil, resA, S_getD, S_mem, lookR_cons, lookR_nil, Nat.reduceLT, Nat.reduceLeDiff, look_cons, Nat.reduceBEq, cond_true, cond_false, resAll, List.getD_cons_zero, List.getD_cons_succ, List.drop_zero, List.drop_succ_cons, List.take_succ_cons, List.take_zero, F_ag31, F_sz31, F_ok31]
              have e : lossE r who cur l = 1 := by simp [lossE, hE, lossOk, hj]
              have v : ∀ j, lossV r who cur l j = 0 := fun j => by simp [lossV, e]
              simp only [show rightN (List.map (fun x => lossOf x 2) (pcs r who cur l)).sum = false from hj, lossA, v, e]; rfl
            · intro hb
              have hj : rightN (lossT (pcs r who cur l) 2) = true := bif_eq hb
              clear hb
              simp only [show rightN (List.map (fun x => lossOf x 2) (pcs r who cur l)).sum = true from hj, cond_true]
              have h2 := hj
              refine awp_skip ?_
              simp only [zz6, Nat.reduceEqDiff, ↓reduceIte]
              refine hK2 _ ?_; try clear hK2 K2
              refine awp_keepL [8, 10, 11, 31] ?_
              simp only [zz20, zzI, look_nil, Nat.reduceBEq]
              refine awp_plain F_mixed [some 75, some 31] rfl ?_
              simp only [List.nil_append, List.cons_append, true_and, and_true, zz0, true_implies, Nat.reduceLT, Nat.reduceLeDiff, zzI, look_nil, Nat.reduceBEq, implies_true, zz21, gr_v, zz26, evS_move, zz6, Nat.reduceEqDiff, ↓reduceIte]
              refine ⟨3, _, by decide, le_SK id [] rfl (l' := [(8, .ptr 8 0 0), (10, .ptr 10 0 0), (11, .d (pieces (pcs r who cur l))), (31, .d (iv 3))]) (m' := [(8, (⟨True, 31, 6, true, false, 8, [[.d (.v (.int .i64 0)), .d (.v (.int .i64 0)), .d (.v (.int .i64 0)), .d (.v (.int .i64 0)), .d (.v (.int .i64 0)), .d (.v (.int .i64 0))]]⟩ : ARow)), (10, (⟨True, 31, 6, true, false, 10, [[.d (iv (lossT (pcs r who cur l) 0)), .d (iv (lossT (pcs r who cur l) 1)), .d (iv (lossT (pcs r who cur l) 2)), .d (.v (.int .i64 0)), .d (.v (.int .i64 0)), .d (.v (.int .i64 0))]]⟩ : ARow))]) ?_ ?_ ?_ ?_, .inr (.inr (.inr (.inl (⟨rfl, h0, h1, h2, rfl⟩))))⟩
              · simp only [leV, look_cons, Nat.reduceBEq, cond_true, cond_false]; exact ⟨VLe.refl _, VLe.refl _, VLe.refl _, VLe.refl _, trivial⟩
              · exact ⟨fun _ => ⟨_, rfl, ⟨id, rfl, rfl, rfl, id, .inl, VLess.refl _⟩⟩, fun h => by simp at h, fun _ => ⟨_, rfl, ⟨id, rfl, rfl, rfl, id, .inl, VLess.refl _⟩⟩, fun h => by simp at h, trivial⟩
              · simp [wfV, AV.ids, AV.idsL, lookR]
              · simp [wfR, AV.idsL, AV.ids]
          · intro hb
            simp at hb
      · intro hb
        simp at hb
    · skip
      refine awp_seq fun K2 hK2 => ?_
      refine awp_plain F_mixed [some 32] rfl ?_
      simp only [List.nil_append, List.cons_append, true_and, and_true, zz0, true_implies, Nat.reduceLT, Nat.reduceLeDiff, zzI, look_nil, Nat.reduceBEq, implies_true, zz21, gr_v, zz22, zz6, Nat.reduceEqDiff, ↓reduceIte]
      refine hK2 _ ?_; try clear hK2 K2
      refine awp_keepL [8, 10, 11, 31, 32] ?_
      simp only [zz20, zzI, look_nil, Nat.reduceBEq]
      refine awp_seq fun K2 hK2 => ?_
      refine awp_condS _ (by decide) (by simp only [look_cons, Nat.reduceBEq, cond_true, cond_false]; rfl) ?_ ?_
      · intro hb
        clear hb
        refine awp_skip ?_
        simp only [zz6, Nat.reduceEqDiff, ↓reduceIte]
        refine hK2 _ ?_; try clear hK2 K2
        refine awp_keepL [8, 10, 11, 31] ?_
        simp only [zz20, zzI, look_nil, Nat.reduceBEq]
        refine awp_seq fun K2 hK2 => ?_
        refine awp_block ?_
        refine awp_seq fun K3 hK3 => ?_
        refine awp_plain F_mixed [some 33, some 13] rfl ?_
        simp only [List.nil_append, List.cons_append, true_and, and_true, zz0, true_implies, Nat.reduceLT, Nat.reduceLeDiff, zzI, look_nil, Nat.reduceBEq, implies_true, evS_move, evS_assign, zz6, Nat.reduceEqDiff, ↓reduceIte]
        refine hK3 _ ?_; try clear hK3 K3
        refine awp_keepL [8, 10, 11, 13, 31] ?_
        simp only [zz20, zzI, look_nil, Nat.reduceBEq]
        refine awp_seq fun K3 hK3 => ?_
        refine awp_plain F_mixed [some 14] rfl ?_
        simp only [List.nil_append, List.cons_append, true_and, and_true, zz0, true_implies, Nat.reduceLT, Nat.reduceLeDiff, zzI, look_nil, Nat.reduceBEq, implies_true, evS_assign, zz6, Nat.reduceEqDiff, ↓reduceIte]
        refine hK3 _ ?_; try clear hK3 K3
        refine awp_keepL [8, 10, 11, 13, 14, 31] ?_
        simp only [zz20, zzI, look_nil, Nat.reduceBEq]
        refine awp_seq fun K3 hK3 => ?_
        refine awp_seq fun K4 hK4 => ?_
        refine awp_plain F_mixed [some 34, some 35, some 36] rfl ?_
        simp only [List.nil_append, List.cons_append, true_and, and_true, zz0, true_implies, Nat.reduceLT, Nat.reduceLeDiff, zzI, look_nil, Nat.reduceBEq, implies_true, evS_move, evS_call, zz12, F_sl51, Option.isSome_some, pieces, len_map, zz6, Nat.reduceEqDiff, ↓reduceIte]
        refine hK4 _ ?_; try clear hK4 K4
        refine awp_keepL [8, 10, 11, 13, 14, 31, 34, 35, 36] ?_
        simp only [zz20, zzI, look_nil, Nat.reduceBEq]
        refine awp_block ?_
        refine awp_loop (fun m s => ∃ pre post : List PieceV, pcs r who cur l = pre ++ post ∧ m = post.length ∧ s = S 77 [(8, .ptr 8 0 0), (10, .ptr 10 0 0), (11, .d (pieces (pre ++ post))), (13, .d (iv 3)), (14, .ref 14 pre.length), (31, .d (iv 3)), (34, .d (pieces (pre ++ post))), (35, .d (iv (pre ++ post).length)), (36, .d (iv pre.length))] [(8, (⟨True, 31, 6, true, false, 8, [[.d (.v (.int .i64 0)), .d (.v (.int .i64 0)), .d (.v (.int .i64 0)), .d (.v (.int .i64 0)), .d (.v (.int .i64 0)), .d (.v (.int .i64 0))]]⟩ : ARow)), (10, (⟨True, 31, 6, true, false, 10, [[.d (iv (lossT (pcs r who cur l) 0)), .d (iv (lossT (pcs r who cur l) 1)), .d (iv (lossT (pcs r who cur l) 2)), .d (.v (.int .i64 0)), .d (.v (.int .i64 0)), .d (.v (.int .i64 0))]]⟩ : ARow)), (14, grow 59 2 14 ((pre.map (lossOf · 3)).map wideC))]) (pcs r who cur l).length _ (le_SK id [14] rfl (l' := [(8, .ptr 8 0 0), (10, .ptr 10 0 0), (11, .d (pieces (([] : List PieceV) ++ (pcs r who cur l)))), (13, .d (iv 3)), (14, .ref 14 ([] : List PieceV).length), (31, .d (iv 3)), (34, .d (pieces (([] : List PieceV) ++ (pcs r who cur l)))), (35, .d (iv (([] : List PieceV) ++ (pcs r who cur l)).length)), (36, .d (iv ([] : List PieceV).length))]) (m' := [(8, (⟨True, 31, 6, true, false, 8, [[.d (.v (.int .i64 0)), .d (.v (.int .i64 0)), .d (.v (.int .i64 0)), .d (.v (.int .i64 0)), .d (.v (.int .i64 0)), .d (.v (.int .i64 0))]]⟩ : ARow)), (10, (⟨True, 31, 6, true, false, 10, [[.d (iv (lossT (pcs r who cur l) 0)), .d (iv (lossT (pcs r who cur l) 1)), .d (iv (lossT (pcs r who cur l) 2)), .d (.v (.int .i64 0)), .d (.v (.int .i64 0)), .d (.v (.int .i64 0))]]⟩ : ARow)), (14, grow 59 2 14 ((([] : List PieceV).map (lossOf · 3)).map wideC))]) ?_ ?_ ?_ ?_) ⟨[], pcs r who cur l, rfl, rfl, rfl⟩ ?_
        · simp only [leV, look_cons, Nat.reduceBEq, cond_true, cond_false, pieces, len_map, List.nil_append]; exact ⟨VLe.ptr_ (f := id) (r := 8) (by simp), VLe.ptr_ (f := id) (r := 10) (by simp), VLe.still rfl, VLe.still rfl, VLe.nil_ (by decide), VLe.still rfl, VLe.still rfl, VLe.still rfl, VLe.still rfl, trivial⟩
        · exact ⟨fun _ => ⟨_, rfl, RowLe.still (by simp [AV.idsL, AV.ids])⟩, fun h => by simp at h, fun _ => ⟨_, rfl, RowLe.still (by simp [AV.idsL, AV.ids])⟩, fun h => by simp at h, fun h => by simp at h, fun _ => rfl, trivial⟩
        · simp [wfV, AV.ids, lookR]
        · simp [wfR, grow, AV.idsL, AV.ids]
        rintro m s ⟨pre, post, hsp, rfl, rfl⟩
        refine awp_seq fun K5 hK5 => ?_
        refine awp_plain F_mixed [some 37] rfl ?_
        simp only [List.nil_append, List.cons_append, true_and, and_true, zz0, true_implies, Nat.reduceLT, Nat.reduceLeDiff, zzI, look_nil, Nat.reduceBEq, implies_true, zz21, gr_v, zz22, zz6, Nat.reduceEqDiff, ↓reduceIte]
        refine hK5 _ ?_; try clear hK5 K5
        refine awp_keepL [8, 10, 11, 13, 14, 31, 34, 35, 36, 37] ?_
        simp only [zz20, zzI, look_nil, Nat.reduceBEq]
        refine awp_seq fun K5 hK5 => ?_
        refine awp_condS _ (by decide) (by simp only [look_cons, Nat.reduceBEq, cond_true, cond_false]; rfl) ?_ ?_
        · intro hb
          obtain ⟨x, post, rfl⟩ := more_of hb; clear hb
          have hx : PieceOk x := hps x (by rw [hsp]; simp)
          have hb := hx.loss 3
          have hw : IntKind.wrap .i64 (IntKind.wrap .i64 (0 - x.qty) * x.inst.mult) = -x.qty * x.inst.mult := by
            rw [wrapI (n := 0 - x.qty) (by have := hx.q1; omega) (by have := hx.q0; omega), show (0 - x.qty : Int) = -x.qty from by omega]
            exact wrapI (by omega) (by omega)
          have hs := hx.s 3
          simp only [shN] at hs
          refine awp_skip ?_
          simp only [zz6, Nat.reduceEqDiff, ↓reduceIte]
          refine hK5 _ ?_; try clear hK5 K5
          refine awp_keepL [8, 10, 11, 13, 14, 31, 34, 35, 36] ?_
          simp only [zz20, zzI, look_nil, Nat.reduceBEq]
          refine awp_seq fun K5 hK5 => ?_
          refine awp_block ?_
          refine awp_seq fun K6 hK6 => ?_
          refine awp_plain F_mixed [some 38, some 39, some 16, none] rfl ?_
          simp only [List.nil_append, List.cons_append, true_and, and_true, zz0, true_implies, Nat.reduceLT, Nat.reduceLeDiff, zzI, look_nil, Nat.reduceBEq, implies_true, evS_indexAddr, zz23, zz24, F_sl51, F_sz56, Option.map_some, zz16, Option.some.injEq, exists_eq_left', exists_eq_left, eq_self, reduceCtorEq, and_self, F_ok56, F_ag56, zz8, zzD, Nat.reduceAdd, Nat.zero_add, zzF, zzB, zzE, zz32, newRow1, F_zero56, zz10, zz18, splice, List.append_nil, zz1, zzG, pieces, pieceC, getD_mid, len_map, lt_mid, ge_mid, zz6, Nat.reduceEqDiff, ↓reduceIte]
          refine hK6 _ ?_; try clear hK6 K6
          refine awp_keepL [8, 10, 11, 13, 14, 16, 31, 34, 35, 36] ?_
          simp only [zz20, zzI, look_nil, Nat.reduceBEq]
          refine awp_draw F_mixed [some 40, some 41, some 42, some 43, some 44, some 45, some 46, some 47, some 48, some 49, some 50, some 51, some 52, some 53, some 54, some 55, some 14] rfl (by kernel_rfl) ?_
          simp only [List.nil_append, List.cons_append, true_and, and_true, zz0, true_implies, Nat.reduceLT, Nat.reduceLeDiff, zzI, look_nil, Nat.reduceBEq, implies_true, evS_move, zz19, zz23, F_off56_1, zzB, Nat.zero_add, Nat.reduceAdd, F_ok3, F_ag3, F_sz3, zz8, zzD, zzF, zzE, zz16, Option.some.injEq, exists_eq_left', exists_eq_left, Option.map_some, eq_self, reduceCtorEq, and_self, zz29, gr_v, zz37, F_off56_0, F_off49_2, zz21, zz36, F_off49_6, evS_indexAddr, zz15, F_arr31, evS_call, evC_value, F_sl54, F_zero59, F_sz59, zz3, newRow1, zz1, zzG, maxLen_le, Nat.reduceMul, F_by59, zz4, zz9, Option.bind_some, evS_assign, hw, wideA, grow, D.agg.injEq, unDs_map, Int.reduceToNat, Int.reduceLT, Int.reduceLE, cast6, Nat.reduceMul, zz6, Nat.reduceEqDiff, ↓reduceIte]
          refine call_go F_go19 (fun hG => Times_ (-x.qty * x.inst.mult) x.inst.s3 (by omega) (by omega) (by omega) (by omega)) (by simp [AV.ids, AV.idsL, wideA]) (by simp) ?_
          simp only [List.nil_append, List.cons_append, true_and, and_true, zz0, true_implies, Nat.reduceLT, Nat.reduceLeDiff, zzI, look_nil, Nat.reduceBEq, implies_true, evS_move, zz19, zz23, F_off56_1, zzB, Nat.zero_add, Nat.reduceAdd, F_ok3, F_ag3, F_sz3, zz8, zzD, zzF, zzE, zz16, Option.some.injEq, exists_eq_left', exists_eq_left, Option.map_some, eq_self, reduceCtorEq, and_self, zz29, gr_v, zz37, F_off56_0, F_off49_2, zz21, zz36, F_off49_6, evS_indexAddr, zz15, F_arr31, evS_call, evC_value, F_sl54, F_zero59, F_sz59, zz3, newRow1, zz1, zzG, maxLen_le, Nat.reduceMul, F_by59, zz4, zz9, Option.bind_some, evS_assign, hw, wideA, grow, D.agg.injEq, unDs_map, Int.reduceToNat, Int.reduceLT, Int.reduceLE, cast6, Nat.reduceMul, zz6, Nat.reduceEqDiff, ↓reduceIte, atsL, oksG, freeN, AV.ren, AV.renL, addRows, ORow.row, Nat.reduceMul, Nat.reduceAdd, unDs_cons, Option.bind_some, Option.map_some, forall_eq', D.sl.injEq, S_mem, Option.some.injEq, exists_eq_left', exists_eq_left, exists_eq', exists_eq, List.length_cons, zz2]
          have hm : pre.length + 1 ≤ 1000000 := by have e := congrArg List.length hsp; simp only [List.length_append, List.length_cons, List.length_map] at e; omega
          first | refine ⟨le_maxLen hm, by omega, ?_⟩ | refine ⟨by simp, le_maxLen hm, by omega, ?_⟩
          clear hm
          refine hK5 _ ?_; try clear hK5 K5
          refine awp_keepL [8, 10, 11, 13, 14, 31, 34, 35, 36] ?_
          simp only [zz20, zzI, look_nil, Nat.reduceBEq]
          refine awp_plain F_mixed [some 56, some 36] rfl ?_
          simp only [List.nil_append, List.cons_append, true_and, and_true, zz0, true_implies, Nat.reduceLT, Nat.reduceLeDiff, zzI, look_nil, Nat.reduceBEq, implies_true, zz21, gr_v, zz26, evS_move, zz6, Nat.reduceEqDiff, ↓reduceIte]
          refine ⟨post.length, _, by simp, le_SK (fun r => bif r == 14 then 55 else r) [] rfl (l' := [(8, .ptr 8 0 0), (10, .ptr 10 0 0), (11, .d (pieces ((pre ++ [x]) ++ post))), (13, .d (iv 3)), (14, .ref 14 (pre ++ [x]).length), (31, .d (iv 3)), (34, .d (pieces ((pre ++ [x]) ++ post))), (35, .d (iv ((pre ++ [x]) ++ post).length)), (36, .d (iv (pre ++ [x]).length))]) (m' := [(8, (⟨True, 31, 6, true, false, 8, [[.d (.v (.int .i64 0)), .d (.v (.int .i64 0)), .d (.v (.int .i64 0)), .d (.v (.int .i64 0)), .d (.v (.int .i64 0)), .d (.v (.int .i64 0))]]⟩ : ARow)), (10, (⟨True, 31, 6, true, false, 10, [[.d (iv (lossT (pcs r who cur l) 0)), .d (iv (lossT (pcs r who cur l) 1)), .d (iv (lossT (pcs r who cur l) 2)), .d (.v (.int .i64 0)), .d (.v (.int .i64 0)), .d (.v (.int .i64 0))]]⟩ : ARow)), (14, grow 59 2 14 (((pre ++ [x]).map (lossOf · 3)).map wideC))]) ?_ ?_ ?_ ?_, pre ++ [x], post, by simp [hsp], rfl, rfl⟩
          · simp only [leV, look_cons, Nat.reduceBEq, cond_true, cond_false, pieces, len_map, List.append_assoc, List.singleton_append, wrap_len pre x (by have e := congrArg List.length hsp; simp only [List.length_append, List.length_cons, List.length_map] at e; omega)]
            refine ⟨VLe.ptr_ (f := (fun r => bif r == 14 then 55 else r)) (r := 8) (by simp), VLe.ptr_ (f := (fun r => bif r == 14 then 55 else r)) (r := 10) (by simp), VLe.still rfl, VLe.still rfl, ?_, VLe.still rfl, VLe.still rfl, VLe.still rfl, VLe.still rfl, trivial⟩
            rw [show (AV.ref 55 _ : AV) = .ref ((fun r => bif r == 14 then 55 else r) 14) (pre ++ [x]).length from by simp]; exact VLe.ref_ (f := (fun r => bif r == 14 then 55 else r)) (r := 14) (by simp)
          · exact ⟨fun _ => ⟨_, rfl, RowLe.still (by simp [AV.idsL, AV.ids])⟩, fun h => by simp at h, fun _ => ⟨_, rfl, RowLe.still (by simp [AV.idsL, AV.ids])⟩, fun h => by simp at h, fun _ => ⟨_, rfl, RowLe.data_ (by simp [wideC, lossOf, shN])⟩, fun h => by simp at h, trivial⟩
          · simp [wfV, AV.ids, lookR, grow]
          · exact ⟨by simp [AV.idsL, AV.ids], by simp [AV.idsL, AV.ids], wf_data _ _, trivial⟩
        · intro hb
          obtain rfl := none_of hb; clear hb
          obtain rfl : pre = pcs r who cur l := by simpa using hsp.symm
          clear hsp
          refine awp_exit ?_
          simp only [zz6, Nat.reduceEqDiff, ↓reduceIte]
          refine hK3 _ ?_; try clear hK3 K3
          refine awp_keepL [8, 10, 11, 13, 14, 31] ?_
          simp only [zz20, zzI, look_nil, Nat.reduceBEq]
          refine awp_seq fun K3 hK3 => ?_
          refine awp_plain F_mixed [some 58, some 59, some 57, some 60, some 61, some 17, none, some 18] rfl ?_
          simp only [List.nil_append, List.cons_append, true_and, and_true, zz0, true_implies, Nat.reduceLT, Nat.reduceLeDiff, zzI, look_nil, Nat.reduceBEq, implies_true, evS_move, evS_call, evC_value, zz14, zzD, Nat.reduceAdd, Nat.zero_add, zzF, zz32, newRow1, F_zero59, zz16, Option.some.injEq, exists_eq_left', exists_eq_left, Option.map_some, eq_self, reduceCtorEq, and_self, zzB, zzE, zz10, zz18, F_ok59, F_sz59, splice, List.append_nil, zz1, zzG, evS_assign, wides, wideA, grow, hfit, List.append_nil, zz6, Nat.reduceEqDiff, ↓reduceIte]
          refine call_go F_go20 (fun hG => wSum_ ((pcs r who cur l).map (lossOf · 3)) (by simp; omega) (fun y hy => by obtain ⟨x, hx, rfl⟩ := List.mem_map.1 hy; have := ((hps x hx).loss 3).2; omega)) (by simp [AV.ids, AV.idsL, wideA]) (by simp) ?_
          simp only [List.nil_append, List.cons_append, true_and, and_true, zz0, true_implies, Nat.reduceLT, Nat.reduceLeDiff, zzI, look_nil, Nat.reduceBEq, implies_true, evS_move, evS_call, evC_value, zz14, zzD, Nat.reduceAdd, Nat.zero_add, zzF, zz32, newRow1, F_zero59, zz16, Option.some.injEq, exists_eq_left', exists_eq_left, Option.map_some, eq_self, reduceCtorEq, and_self, zzB, zzE, zz10, zz18, F_ok59, F_sz59, splice, List.append_nil, zz1, zzG, evS_assign, wides, wideA, grow, hfit, List.append_nil, zz6, Nat.reduceEqDiff, ↓reduceIte, atsL, oksG, freeN, AV.ren, AV.renL, addRows, ORow.row, Nat.reduceMul, Nat.reduceAdd, zz9, Option.bind_some, Option.map_some, forall_eq', D.sl.injEq, S_mem, Option.some.injEq, exists_eq_left', exists_eq_left, exists_eq', exists_eq, List.length_cons, zz2]
          refine ⟨by simp, ?_⟩
          refine hK3 _ ?_; try clear hK3 K3
          refine awp_keepL [8, 10, 11, 13, 17, 18, 31] ?_
          simp only [zz20, zzI, look_nil, Nat.reduceBEq]
          refine awp_seq fun K3 hK3 => ?_
          refine awp_seq fun K4 hK4 => ?_
          refine awp_plain F_mixed [some 62, some 63] rfl ?_
          simp only [List.nil_append, List.cons_append, true_and, and_true, zz0, true_implies, Nat.reduceLT, Nat.reduceLeDiff, zzI, look_nil, Nat.reduceBEq, implies_true, evS_move, zz21, gr_v, zz34, zz6, Nat.reduceEqDiff, ↓reduceIte]
          refine hK4 _ ?_; try clear hK4 K4
          refine awp_keepL [8, 10, 11, 13, 17, 18, 31, 63] ?_
          simp only [zz20, zzI, look_nil, Nat.reduceBEq]
          refine awp_condS _ (by decide) (by simp only [look_cons, Nat.reduceBEq, cond_true, cond_false]; rfl) ?_ ?_
          · intro hb
            clear hb
            refine awp_plain F_mixed [some 65, some 66, some 67, some 64, some 68, some 69, some 70, none, some 18] rfl ?_
            simp only [List.nil_append, List.cons_append, true_and, and_true, zz0, true_implies, Nat.reduceLT, Nat.reduceLeDiff, zzI, look_nil, Nat.reduceBEq, implies_true, evS_move, F_ok59, F_ag59, F_sz59, zz8, zz23, zzD, Nat.reduceAdd, Nat.zero_add, zzF, zzB, zzE, zz16, Option.some.injEq, exists_eq_left', exists_eq_left, Option.map_some, eq_self, reduceCtorEq, and_self, evS_call, evC_value, zz14, evS_indexAddr, zz15, F_arr31, F_sz3, zz18, F_ok3, splice, List.append_nil, zz1, zzG, evS_assign, wideC, wideA, Int.reduceToNat, Int.reduceLT, Int.reduceLE, cast6, Nat.reduceMul, zz6, Nat.reduceEqDiff, ↓reduceIte]
            refine call_go F_go21 (fun hG => wInt_ ((pcs r who cur l).map (lossOf · 3)).sum) (by simp [AV.ids, AV.idsL, wideC, wideA]) (by simp) ?_
            simp only [List.nil_append, List.cons_append, true_and, and_true, zz0, true_implies, Nat.reduceLT, Nat.reduceLeDiff, zzI, look_nil, Nat.reduceBEq, implies_true, evS_move, F_ok59, F_ag59, F_sz59, zz8, zz23, zzD, Nat.reduceAdd, Nat.zero_add, zzF, zzB, zzE, zz16, Option.some.injEq, exists_eq_left', exists_eq_left, Option.map_some, eq_self, reduceCtorEq, and_self, evS_call, evC_value, zz14, evS_indexAddr, zz15, F_arr31, F_sz3, zz18, F_ok3, splice, List.append_nil, zz1, zzG, evS_assign, wideC, wideA, Int.reduceToNat, Int.reduceLT, Int.reduceLE, cast6, Nat.reduceMul, zz6, Nat.reduceEqDiff, ↓reduceIte, atsL, oksG, freeN, AV.ren, AV.renL, addRows, ORow.row, Nat.reduceMul, Nat.reduceAdd, zz9, Option.bind_some, Option.map_some, forall_eq', D.sl.injEq, S_mem, Option.some.injEq, exists_eq_left', exists_eq_left, exists_eq', exists_eq, List.length_cons, zz2]
            refine hK3 _ ?_; try clear hK3 K3
            refine awp_keepL [8, 10, 11, 18, 31] ?_
            simp only [zz20, zzI, look_nil, Nat.reduceBEq]
            refine awp_seq fun K3 hK3 => ?_
            refine awp_plain F_mixed [some 71, some 72] rfl ?_
            simp only [List.nil_append, List.cons_append, true_and, and_true, zz0, true_implies, Nat.reduceLT, Nat.reduceLeDiff, zzI, look_nil, Nat.reduceBEq, implies_true, evS_move, zz21, gr_v, zz28, zz6, Nat.reduceEqDiff, ↓reduceIte]
            refine hK3 _ ?_; try clear hK3 K3
            refine awp_keepL [8, 10, 11, 18, 31, 72] ?_
            simp only [zz20, zzI, look_nil, Nat.reduceBEq]
            refine awp_condS _ (by decide) (by simp only [look_cons, Nat.reduceBEq, cond_true, cond_false]; rfl) ?_ ?_
            · intro hb
              have hj : rightN (lossT (pcs r who cur l) 3) = false := bif_ne hb
              clear hb
              refine awp_seq fun K4 hK4 => ?_
              refine awp_plain F_mixed [some 73, some 74, none, some 9] rfl ?_
              simp only [List.nil_append, List.cons_append, true_and, and_true, zz0, true_implies, Nat.reduceLT, Nat.reduceLeDiff, zzI, look_nil, Nat.reduceBEq, implies_true, F_zero31, F_bld31, zz7, splice, Option.getD_some, List.append_nil, zz1, zzG, zzD, zz16, Option.some.injEq, exists_eq_left', exists_eq_left, Option.map_some, eq_self, reduceCtorEq, and_self, Nat.reduceAdd, Nat.zero_add, zzF, zzB, zzE, zz10, evS_move, zz18, F_ok31, F_sz31, evS_assign, zz6, Nat.reduceEqDiff, ↓reduceIte]
              refine hK4 _ ?_; try clear hK4 K4
              refine awp_keepL [8, 9] ?_
              simp only [zz20, zzI, look_nil, Nat.reduceBEq]
              refine awp_ret ?_
              simp only [zz6, Nat.reduceEqDiff, ↓reduceIte]
              refine done0 (by simp [resCs, resC, S, List.getD, look_cons, lookR, F_ag31, F_sz31, F_ok31]) ?_ (by simp [flatA, flatAs, flatD, lossA]) (by simp [AV.ids, AV.idsL, lossA])
              simp only [List.map_cons, List.map_nil, resA, S_getD, S_mem, lookR_cons, lookR_nil, Nat.reduceLT, Nat.reduceLeDiff, look_cons, Nat.reduceBEq, cond_true, cond_false, resAll, List.getD_cons_zero, List.getD_cons_succ, List.drop_zero, List.drop_succ_cons, List.take_succ_cons, List.take_zero, F_ag31, F_sz31, F_ok31]
              have e : lossE r who cur l = 1 := by simp [lossE, hE, lossOk, hj]
              have v : ∀ j, lossV r who cur l j = 0 := fun j => by simp [lossV, e]
              simp only [show rightN (List.map (fun x => lossOf x 3) (pcs r who cur l)).sum = false from hj, lossA, v, e]; rfl
            · intro hb
              have hj : rightN (lossT (pcs r who cur l) 3) = true := bif_eq hb
              clear hb
              simp only [show rightN (List.map (fun x => lossOf x 3) (pcs r who cur l)).sum = true from hj, cond_true]
              have h3 := hj
              refine awp_skip ?_
              simp only [zz6, Nat.reduceEqDiff, ↓reduceIte]
              refine hK2 _ ?_; try clear hK2 K2
              refine awp_keepL [8, 10, 11, 31] ?_
              simp only [zz20, zzI, look_nil, Nat.reduceBEq]
              refine awp_plain F_mixed [some 75, some 31] rfl ?_
              simp only [List.nil_append, List.cons_append, true_and, and_true, zz0, true_implies, Nat.reduceLT, Nat.reduceLeDiff, zzI, look_nil, Nat.reduceBEq, implies_true, zz21, gr_v, zz26, evS_move, zz6, Nat.reduceEqDiff, ↓reduceIte]
              refine ⟨2, _, by decide, le_SK id [] rfl (l' := [(8, .ptr 8 0 0), (10, .ptr 10 0 0), (11, .d (pieces (pcs r who cur l))), (31, .d (iv 4))]) (m' := [(8, (⟨True, 31, 6, true, false, 8, [[.d (.v (.int .i64 0)), .d (.v (.int .i64 0)), .d (.v (.int .i64 0)), .d (.v (.int .i64 0)), .d (.v (.int .i64 0)), .d (.v (.int .i64 0))]]⟩ : ARow)), (10, (⟨True, 31, 6, true, false, 10, [[.d (iv (lossT (pcs r who cur l) 0)), .d (iv (lossT (pcs r who cur l) 1)), .d (iv (lossT (pcs r who cur l) 2)), .d (iv (lossT (pcs r who cur l) 3)), .d (.v (.int .i64 0)), .d (.v (.int .i64 0))]]⟩ : ARow))]) ?_ ?_ ?_ ?_, .inr (.inr (.inr (.inr (.inl (⟨rfl, h0, h1, h2, h3, rfl⟩)))))⟩
              · simp only [leV, look_cons, Nat.reduceBEq, cond_true, cond_false]; exact ⟨VLe.refl _, VLe.refl _, VLe.refl _, VLe.refl _, trivial⟩
              · exact ⟨fun _ => ⟨_, rfl, ⟨id, rfl, rfl, rfl, id, .inl, VLess.refl _⟩⟩, fun h => by simp at h, fun _ => ⟨_, rfl, ⟨id, rfl, rfl, rfl, id, .inl, VLess.refl _⟩⟩, fun h => by simp at h, trivial⟩
              · simp [wfV, AV.ids, AV.idsL, lookR]
              · simp [wfR, AV.idsL, AV.ids]
          · intro hb
            simp at hb
      · intro hb
        simp at hb
    · skip
      refine awp_seq fun K2 hK2 => ?_
      refine awp_plain F_mixed [some 32] rfl ?_
      simp only [List.nil_append, List.cons_append, true_and, and_true, zz0, true_implies, Nat.reduceLT, Nat.reduceLeDiff, zzI, look_nil, Nat.reduceBEq, implies_true, zz21, gr_v, zz22, zz6, Nat.reduceEqDiff, ↓reduceIte]
      refine hK2 _ ?_; try clear hK2 K2
      refine awp_keepL [8, 10, 11, 31, 32] ?_
      simp only [zz20, zzI, look_nil, Nat.reduceBEq]
      refine awp_seq fun K2 hK2 => ?_
      refine awp_condS _ (by decide) (by simp only [look_cons, Nat.reduceBEq, cond_true, cond_false]; rfl) ?_ ?_
      · intro hb
        clear hb
        refine awp_skip ?_
        simp only [zz6, Nat.reduceEqDiff, ↓reduceIte]
        refine hK2 _ ?_; try clear hK2 K2
        refine awp_keepL [8, 10, 11, 31] ?_
        simp only [zz20, zzI, look_nil, Nat.reduceBEq]
        refine awp_seq fun K2 hK2 => ?_
        refine awp_block ?_
        refine awp_seq fun K3 hK3 => ?_
        refine awp_plain F_mixed [some 33, some 13] rfl ?_
        simp only [List.nil_append, List.cons_append, true_and, and_true, zz0, true_implies, Nat.reduceLT, Nat.reduceLeDiff, zzI, look_nil, Nat.reduceBEq, implies_true, evS_move, evS_assign, zz6, Nat.reduceEqDiff, ↓reduceIte]
        refine hK3 _ ?_; try clear hK3 K3
        refine awp_keepL [8, 10, 11, 13, 31] ?_
        simp only [zz20, zzI, look_nil, Nat.reduceBEq]
        refine awp_seq fun K3 hK3 => ?_
        refine awp_plain F_mixed [some 14] rfl ?_
        simp only [List.nil_append, List.cons_append, true_and, and_true, zz0, true_implies, Nat.reduceLT, Nat.reduceLeDiff, zzI, look_nil, Nat.reduceBEq, implies_true, evS_assign, zz6, Nat.reduceEqDiff, ↓reduceIte]
        refine hK3 _ ?_; try clear hK3 K3
        refine awp_keepL [8, 10, 11, 13, 14, 31] ?_
        simp only [zz20, zzI, look_nil, Nat.reduceBEq]
        refine awp_seq fun K3 hK3 => ?_
        refine awp_seq fun K4 hK4 => ?_
        refine awp_plain F_mixed [some 34, some 35, some 36] rfl ?_
        simp only [List.nil_append, List.cons_append, true_and, and_true, zz0, true_implies, Nat.reduceLT, Nat.reduceLeDiff, zzI, look_nil, Nat.reduceBEq, implies_true, evS_move, evS_call, zz12, F_sl51, Option.isSome_some, pieces, len_map, zz6, Nat.reduceEqDiff, ↓reduceIte]
        refine hK4 _ ?_; try clear hK4 K4
        refine awp_keepL [8, 10, 11, 13, 14, 31, 34, 35, 36] ?_
        simp only [zz20, zzI, look_nil, Nat.reduceBEq]
        refine awp_block ?_
        refine awp_loop (fun m s => ∃ pre post : List PieceV, pcs r who cur l = pre ++ post ∧ m = post.length ∧ s = S 77 [(8, .ptr 8 0 0), (10, .ptr 10 0 0), (11, .d (pieces (pre ++ post))), (13, .d (iv 4)), (14, .ref 14 pre.length), (31, .d (iv 4)), (34, .d (pieces (pre ++ post))), (35, .d (iv (pre ++ post).length)), (36, .d (iv pre.length))] [(8, (⟨True, 31, 6, true, false, 8, [[.d (.v (.int .i64 0)), .d (.v (.int .i64 0)), .d (.v (.int .i64 0)), .d (.v (.int .i64 0)), .d (.v (.int .i64 0)), .d (.v (.int .i64 0))]]⟩ : ARow)), (10, (⟨True, 31, 6, true, false, 10, [[.d (iv (lossT (pcs r who cur l) 0)), .d (iv (lossT (pcs r who cur l) 1)), .d (iv (lossT (pcs r who cur l) 2)), .d (iv (lossT (pcs r who cur l) 3)), .d (.v (.int .i64 0)), .d (.v (.int .i64 0))]]⟩ : ARow)), (14, grow 59 2 14 ((pre.map (lossOf · 4)).map wideC))]) (pcs r who cur l).length _ (le_SK id [14] rfl (l' := [(8, .ptr 8 0 0), (10, .ptr 10 0 0), (11, .d (pieces (([] : List PieceV) ++ (pcs r who cur l)))), (13, .d (iv 4)), (14, .ref 14 ([] : List PieceV).length), (31, .d (iv 4)), (34, .d (pieces (([] : List PieceV) ++ (pcs r who cur l)))), (35, .d (iv (([] : List PieceV) ++ (pcs r who cur l)).length)), (36, .d (iv ([] : List PieceV).length))]) (m' := [(8, (⟨True, 31, 6, true, false, 8, [[.d (.v (.int .i64 0)), .d (.v (.int .i64 0)), .d (.v (.int .i64 0)), .d (.v (.int .i64 0)), .d (.v (.int .i64 0)), .d (.v (.int .i64 0))]]⟩ : ARow)), (10, (⟨True, 31, 6, true, false, 10, [[.d (iv (lossT (pcs r who cur l) 0)), .d (iv (lossT (pcs r who cur l) 1)), .d (iv (lossT (pcs r who cur l) 2)), .d (iv (lossT (pcs r who cur l) 3)), .d (.v (.int .i64 0)), .d (.v (.int .i64 0))]]⟩ : ARow)), (14, grow 59 2 14 ((([] : List PieceV).map (lossOf · 4)).map wideC))]) ?_ ?_ ?_ ?_) ⟨[], pcs r who cur l, rfl, rfl, rfl⟩ ?_
        · simp only [leV, look_cons, Nat.reduceBEq, cond_true, cond_false, pieces, len_map, List.nil_append]; exact ⟨VLe.ptr_ (f := id) (r := 8) (by simp), VLe.ptr_ (f := id) (r := 10) (by simp), VLe.still rfl, VLe.still rfl, VLe.nil_ (by decide), VLe.still rfl, VLe.still rfl, VLe.still rfl, VLe.still rfl, trivial⟩
        · exact ⟨fun _ => ⟨_, rfl, RowLe.still (by simp [AV.idsL, AV.ids])⟩, fun h => by simp at h, fun _ => ⟨_, rfl, RowLe.still (by simp [AV.idsL, AV.ids])⟩, fun h => by simp at h, fun h => by simp at h, fun _ => rfl, trivial⟩
        · simp [wfV, AV.ids, lookR]
        · simp [wfR, grow, AV.idsL, AV.ids]
        rintro m s ⟨pre, post, hsp, rfl, rfl⟩
        refine awp_seq fun K5 hK5 => ?_
        refine awp_plain F_mixed [some 37] rfl ?_
        simp only [List.nil_append, List.cons_append, true_and, and_true, zz0, true_implies, Nat.reduceLT, Nat.reduceLeDiff, zzI, look_nil, Nat.reduceBEq, implies_true, zz21, gr_v, zz22, zz6, Nat.reduceEqDiff, ↓reduceIte]
        refine hK5 _ ?_; try clear hK5 K5
        refine awp_keepL [8, 10, 11, 13, 14, 31, 34, 35, 36, 37] ?_
        simp only [zz20, zzI, look_nil, Nat.reduceBEq]
        refine awp_seq fun K5 hK5 => ?_
        refine awp_condS _ (by decide) (by simp only [look_cons, Nat.reduceBEq, cond_true, cond_false]; rfl) ?_ ?_
        · intro hb
          obtain ⟨x, post, rfl⟩ := more_of hb; clear hb
          have hx : PieceOk x := hps x (by rw [hsp]; simp)
          have hb := hx.loss 4
          have hw : IntKind.wrap .i64 (IntKind.wrap .i64 (0 - x.qty) * x.inst.mult) = -x.qty * x.inst.mult := by
            rw [wrapI (n := 0 - x.qty) (by have := hx.q1; omega) (by have := hx.q0; omega), show (0 - x.qty : Int) = -x.qty from by omega]
            exact wrapI (by omega) (by omega)
          have hs := hx.s 4
          simp only [shN] at hs
          refine awp_skip ?_
          simp only [zz6, Nat.reduceEqDiff, ↓reduceIte]
          refine hK5 _ ?_; try clear hK5 K5
          refine awp_keepL [8, 10, 11, 13, 14, 31, 34, 35, 36] ?_
          simp only [zz20, zzI, look_nil, Nat.reduceBEq]
          refine awp_seq fun K5 hK5 => ?_
          refine awp_block ?_
          refine awp_seq fun K6 hK6 => ?_
          refine awp_plain F_mixed [some 38, some 39, some 16, none] rfl ?_
          simp only [List.nil_append, List.cons_append, true_and, and_true, zz0, true_implies, Nat.reduceLT, Nat.reduceLeDiff, zzI, look_nil, Nat.reduceBEq, implies_true, evS_indexAddr, zz23, zz24, F_sl51, F_sz56, Option.map_some, zz16, Option.some.injEq, exists_eq_left', exists_eq_left, eq_self, reduceCtorEq, and_self, F_ok56, F_ag56, zz8, zzD, Nat.reduceAdd, Nat.zero_add, zzF, zzB, zzE, zz32, newRow1, F_zero56, zz10, zz18, splice, List.append_nil, zz1, zzG, pieces, pieceC, getD_mid, len_map, lt_mid, ge_mid, zz6, Nat.reduceEqDiff, ↓reduceIte]
          refine hK6 _ ?_; try clear hK6 K6
          refine awp_keepL [8, 10, 11, 13, 14, 16, 31, 34, 35, 36] ?_
          simp only [zz20, zzI, look_nil, Nat.reduceBEq]
          refine awp_draw F_mixed [some 40, some 41, some 42, some 43, some 44, some 45, some 46, some 47, some 48, some 49, some 50, some 51, some 52, some 53, some 54, some 55, some 14] rfl (by kernel_rfl) ?_
          simp only [List.nil_append, List.cons_append, true_and, and_true, zz0, true_implies, Nat.reduceLT, Nat.reduceLeDiff, zzI, look_nil, Nat.reduceBEq, implies_true, evS_move, zz19, zz23, F_off56_1, zzB, Nat.zero_add, Nat.reduceAdd, F_ok3, F_ag3, F_sz3, zz8, zzD, zzF, zzE, zz16, Option.some.injEq, exists_eq_left', exists_eq_left, Option.map_some, eq_self, reduceCtorEq, and_self, zz29, gr_v, zz37, F_off56_0, F_off49_2, zz21, zz36, F_off49_6, evS_indexAddr, zz15, F_arr31, evS_call, evC_value, F_sl54, F_zero59, F_sz59, zz3, newRow1, zz1, zzG, maxLen_le, Nat.reduceMul, F_by59, zz4, zz9, Option.bind_some, evS_assign, hw, wideA, grow, D.agg.injEq, unDs_map, Int.reduceToNat, Int.reduceLT, Int.reduceLE, cast6, Nat.reduceMul, zz6, Nat.reduceEqDiff, ↓reduceIte]
          refine call_go F_go19 (fun hG => Times_ (-x.qty * x.inst.mult) x.inst.s4 (by omega) (by omega) (by omega) (by omega)) (by simp [AV.ids, AV.idsL, wideA]) (by simp) ?_
          simp only [List.nil_append, List.cons_append, true_and, and_true, zz0, true_implies, Nat.reduceLT, Nat.reduceLeDiff, zzI, look_nil, Nat.reduceBEq, implies_true, evS_move, zz19, zz23, F_off56_1, zzB, Nat.zero_add, Nat.reduceAdd, F_ok3, F_ag3, F_sz3, zz8, zzD, zzF, zzE, zz16, Option.some.injEq, exists_eq_left', exists_eq_left, Option.map_some, eq_self, reduceCtorEq, and_self, zz29, gr_v, zz37, F_off56_0, F_off49_2, zz21, zz36, F_off49_6, evS_indexAddr, zz15, F_arr31, evS_call, evC_value, F_sl54, F_zero59, F_sz59, zz3, newRow1, zz1, zzG, maxLen_le, Nat.reduceMul, F_by59, zz4, zz9, Option.bind_some, evS_assign, hw, wideA, grow, D.agg.injEq, unDs_map, Int.reduceToNat, Int.reduceLT, Int.reduceLE, cast6, Nat.reduceMul, zz6, Nat.reduceEqDiff, ↓reduceIte, atsL, oksG, freeN, AV.ren, AV.renL, addRows, ORow.row, Nat.reduceMul, Nat.reduceAdd, unDs_cons, Option.bind_some, Option.map_some, forall_eq', D.sl.injEq, S_mem, Option.some.injEq, exists_eq_left', exists_eq_left, exists_eq', exists_eq, List.length_cons, zz2]
          have hm : pre.length + 1 ≤ 1000000 := by have e := congrArg List.length hsp; simp only [List.length_append, List.length_cons, List.length_map] at e; omega
          first | refine ⟨le_maxLen hm, by omega, ?_⟩ | refine ⟨by simp, le_maxLen hm, by omega, ?_⟩
          clear hm
          refine hK5 _ ?_; try clear hK5 K5
          refine awp_keepL [8, 10, 11, 13, 14, 31, 34, 35, 36] ?_
          simp only [zz20, zzI, look_nil, Nat.reduceBEq]
          refine awp_plain F_mixed [some 56, some 36] rfl ?_
          simp only [List.nil_append, List.cons_append, true_and, and_true, zz0, true_implies, Nat.reduceLT, Nat.reduceLeDiff, zzI, look_nil, Nat.reduceBEq, implies_true, zz21, gr_v, zz26, evS_move, zz6, Nat.reduceEqDiff, ↓reduceIte]
          refine ⟨post.length, _, by simp, le_SK (fun r => bif r == 14 then 55 else r) [] rfl (l' := [(8, .ptr 8 0 0), (10, .ptr 10 0 0), (11, .d (pieces ((pre ++ [x]) ++ post))), (13, .d (iv 4)), (14, .ref 14 (pre ++ [x]).length), (31, .d (iv 4)), (34, .d (pieces ((pre ++ [x]) ++ post))), (35, .d (iv ((pre ++ [x]) ++ post).length)), (36, .d (iv (pre ++ [x]).length))]) (m' := [(8, (⟨True, 31, 6, true, false, 8, [[.d (.v (.int .i64 0)), .d (.v (.int .i64 0)), .d (.v (.int .i64 0)), .d (.v (.int .i64 0)), .d (.v (.int .i64 0)), .d (.v (.int .i64 0))]]⟩ : ARow)), (10, (⟨True, 31, 6, true, false, 10, [[.d (iv (lossT (pcs r who cur l) 0)), .d (iv (lossT (pcs r who cur l) 1)), .d (iv (lossT (pcs r who cur l) 2)), .d (iv (lossT (pcs r who cur l) 3)), .d (.v (.int .i64 0)), .d (.v (.int .i64 0))]]⟩ : ARow)), (14, grow 59 2 14 (((pre ++ [x]).map (lossOf · 4)).map wideC))]) ?_ ?_ ?_ ?_, pre ++ [x], post, by simp [hsp], rfl, rfl⟩
          · simp only [leV, look_cons, Nat.reduceBEq, cond_true, cond_false, pieces, len_map, List.append_assoc, List.singleton_append, wrap_len pre x (by have e := congrArg List.length hsp; simp only [List.length_append, List.length_cons, List.length_map] at e; omega)]
            refine ⟨VLe.ptr_ (f := (fun r => bif r == 14 then 55 else r)) (r := 8) (by simp), VLe.ptr_ (f := (fun r => bif r == 14 then 55 else r)) (r := 10) (by simp), VLe.still rfl, VLe.still rfl, ?_, VLe.still rfl, VLe.still rfl, VLe.still rfl, VLe.still rfl, trivial⟩
            rw [show (AV.ref 55 _ : AV) = .ref ((fun r => bif r == 14 then 55 else r) 14) (pre ++ [x]).length from by simp]; exact VLe.ref_ (f := (fun r => bif r == 14 then 55 else r)) (r := 14) (by simp)
          · exact ⟨fun _ => ⟨_, rfl, RowLe.still (by simp [AV.idsL, AV.ids])⟩, fun h => by simp at h, fun _ => ⟨_, rfl, RowLe.still (by simp [AV.idsL, AV.ids])⟩, fun h => by simp at h, fun _ => ⟨_, rfl, RowLe.data_ (by simp [wideC, lossOf, shN])⟩, fun h => by simp at h, trivial⟩
          · simp [wfV, AV.ids, lookR, grow]
          · exact ⟨by simp [AV.idsL, AV.ids], by simp [AV.idsL, AV.ids], wf_data _ _, trivial⟩
        · intro hb
          obtain rfl := none_of hb; clear hb
          obtain rfl : pre = pcs r who cur l := by simpa using hsp.symm
          clear hsp
          refine awp_exit ?_
          simp only [zz6, Nat.reduceEqDiff, ↓reduceIte]
          refine hK3 _ ?_; try clear hK3 K3
          refine awp_keepL [8, 10, 11, 13, 14, 31] ?_
          simp only [zz20, zzI, look_nil, Nat.reduceBEq]
          refine awp_seq fun K3 hK3 => ?_
          refine awp_plain F_mixed [some 58, some 59, some 57, some 60, some 61, some 17, none, some 18] rfl ?_
          simp only [List.nil_append, List.cons_append, true_and, and_true, zz0, true_implies, Nat.reduceLT, Nat.reduceLeDiff, zzI, look_nil, Nat.reduceBEq, implies_true, evS_move, evS_call, evC_value, zz14, zzD, Nat.reduceAdd, Nat.zero_add, zzF, zz32, newRow1, F_zero59, zz16, Option.some.injEq, exists_eq_left', exists_eq_left, Option.map_some, eq_self, reduceCtorEq, and_self, zzB, zzE, zz10, zz18, F_ok59, F_sz59, splice, List.append_nil, zz1, zzG, evS_assign, wides, wideA, grow, hfit, List.append_nil, zz6, Nat.reduceEqDiff, ↓reduceIte]
          refine call_go F_go20 (fun hG => wSum_ ((pcs r who cur l).map (lossOf · 4)) (by simp; omega) (fun y hy => by obtain ⟨x, hx, rfl⟩ := List.mem_map.1 hy; have := ((hps x hx).loss 4).2; omega)) (by simp [AV.ids, AV.idsL, wideA]) (by simp) ?_
          simp only [List.nil_append, List.cons_append, true_and, and_true, zz0, true_implies, Nat.reduceLT, Nat.reduceLeDiff, zzI, look_nil, Nat.reduceBEq, implies_true, evS_move, evS_call, evC_value, zz14, zzD, Nat.reduceAdd, Nat.zero_add, zzF, zz32, newRow1, F_zero59, zz16, Option.some.injEq, exists_eq_left', exists_eq_left, Option.map_some, eq_self, reduceCtorEq, and_self, zzB, zzE, zz10, zz18, F_ok59, F_sz59, splice, List.append_nil, zz1, zzG, evS_assign, wides, wideA, grow, hfit, List.append_nil, zz6, Nat.reduceEqDiff, ↓reduceIte, atsL, oksG, freeN, AV.ren, AV.renL, addRows, ORow.row, Nat.reduceMul, Nat.reduceAdd, zz9, Option.bind_some, Option.map_some, forall_eq', D.sl.injEq, S_mem, Option.some.injEq, exists_eq_left', exists_eq_left, exists_eq', exists_eq, List.length_cons, zz2]
          refine ⟨by simp, ?_⟩
          refine hK3 _ ?_; try clear hK3 K3
          refine awp_keepL [8, 10, 11, 13, 17, 18, 31] ?_
          simp only [zz20, zzI, look_nil, Nat.reduceBEq]
          refine awp_seq fun K3 hK3 => ?_
          refine awp_seq fun K4 hK4 => ?_
          refine awp_plain F_mixed [some 62, some 63] rfl ?_
          simp only [List.nil_append, List.cons_append, true_and, and_true, zz0, true_implies, Nat.reduceLT, Nat.reduceLeDiff, zzI, look_nil, Nat.reduceBEq, implies_true, evS_move, zz21, gr_v, zz34, zz6, Nat.reduceEqDiff, ↓reduceIte]
          refine hK4 _ ?_; try clear hK4 K4
          refine awp_keepL [8, 10, 11, 13, 17, 18, 31, 63] ?_
          simp only [zz20, zzI, look_nil, Nat.reduceBEq]
          refine awp_condS _ (by decide) (by simp only [look_cons, Nat.reduceBEq, cond_true, cond_false]; rfl) ?_ ?_
          · intro hb
            clear hb
            refine awp_plain F_mixed [some 65, some 66, some 67, some 64, some 68, some 69, some 70, none, some 18] rfl ?_
            simp only [List.nil_append, List.cons_append, true_and, and_true, zz0, true_implies, Nat.reduceLT, Nat.reduceLeDiff, zzI, look_nil, Nat.reduceBEq, implies_true, evS_move, F_ok59, F_ag59, F_sz59, zz8, zz23, zzD, Nat.reduceAdd, Nat.zero_add, zzF, zzB, zzE, zz16, Option.some.injEq, exists_eq_left', exists_eq_left, Option.map_some, eq_self, reduceCtorEq, and_self, evS_call, evC_value, zz14, evS_indexAddr, zz15, F_arr31, F_sz3, zz18, F_ok3, splice, List.append_nil, zz1, zzG, evS_assign, wideC, wideA, Int.reduceToNat, Int.reduceLT, Int.reduceLE, cast6, Nat.reduceMul, zz6, Nat.reduceEqDiff, ↓reduceIte]
            refine call_go F_go21 (fun hG => wInt_ ((pcs r who cur l).map (lossOf · 4)).sum) (by simp [AV.ids, AV.idsL, wideC, wideA]) (by simp) ?_
            simp only [List.nil_append, List.cons_append, true_and, and_true, zz0, true_implies, Nat.reduceLT, Nat.reduceLeDiff, zzI, look_nil, Nat.reduceBEq, implies_true, evS_move, F_ok59, F_ag59, F_sz59, zz8, zz23, zzD, Nat.reduceAdd, Nat.zero_add, zzF, zzB, zzE, zz16, Option.some.injEq, exists_eq_left', exists_eq_left, Option.map_some, eq_self, reduceCtorEq, and_self, evS_call, evC_value, zz14, evS_indexAddr, zz15, F_arr31, F_sz3, zz18, F_ok3, splice, List.append_nil, zz1, zzG, evS_assign, wideC, wideA, Int.reduceToNat, Int.reduceLT, Int.reduceLE, cast6, Nat.reduceMul, zz6, Nat.reduceEqDiff, ↓reduceIte, atsL, oksG, freeN, AV.ren, AV.renL, addRows, ORow.row, Nat.reduceMul, Nat.reduceAdd, zz9, Option.bind_some, Option.map_some, forall_eq', D.sl.injEq, S_mem, Option.some.injEq, exists_eq_left', exists_eq_left, exists_eq', exists_eq, List.length_cons, zz2]
            refine hK3 _ ?_; try clear hK3 K3
            refine awp_keepL [8, 10, 11, 18, 31] ?_
            simp only [zz20, zzI, look_nil, Nat.reduceBEq]
            refine awp_seq fun K3 hK3 => ?_
            refine awp_plain F_mixed [some 71, some 72] rfl ?_
            simp only [List.nil_append, List.cons_append, true_and, and_true, zz0, true_implies, Nat.reduceLT, Nat.reduceLeDiff, zzI, look_nil, Nat.reduceBEq, implies_true, evS_move, zz21, gr_v, zz28, zz6, Nat.reduceEqDiff, ↓reduceIte]
            refine hK3 _ ?_; try clear hK3 K3
            refine awp_keepL [8, 10, 11, 18, 31, 72] ?_
            simp only [zz20, zzI, look_nil, Nat.reduceBEq]
            refine awp_condS _ (by decide) (by simp only [look_cons, Nat.reduceBEq, cond_true, cond_false]; rfl) ?_ ?_
            · intro hb
              have hj : rightN (lossT (pcs r who cur l) 4) = false := bif_ne hb
              clear hb
              refine awp_seq fun K4 hK4 => ?_
              refine awp_plain F_mixed [some 73, some 74, none, some 9] rfl ?_
              simp only [List.nil_append, List.cons_append, true_and, and_true, zz0, true_implies, Nat.reduceLT, Nat.reduceLeDiff, zzI, look_nil, Nat.reduceBEq, implies_true, F_zero31, F_bld31, zz7, splice, Option.getD_some, List.append_nil, zz1, zzG, zzD, zz16, Option.some.injEq, exists_eq_left', exists_eq_left, Option.map_some, eq_self, reduceCtorEq, and_self, Nat.reduceAdd, Nat.zero_add, zzF, zzB, zzE, zz10, evS_move, zz18, F_ok31, F_sz31, evS_assign, zz6, Nat.reduceEqDiff, ↓reduceIte]
              refine hK4 _ ?_; try clear hK4 K4
              refine awp_keepL [8, 9] ?_
              simp only [zz20, zzI, look_nil, Nat.reduceBEq]
              refine awp_ret ?_
              simp only [zz6, Nat.reduceEqDiff, ↓reduceIte]
              refine done0 (by simp [resCs, resC, S, List.getD, look_cons, lookR, F_ag31, F_sz31, F_ok31]) ?_ (by simp [flatA, flatAs, flatD, lossA]) (by simp [AV.ids, AV.idsL, lossA])
              simp only [List.map_cons, List.map_nil, resA, S_getD, S_mem, lookR_cons, lookR_nil, Nat.reduceLT, Nat.reduceLeDiff, look_cons, Nat.reduceBEq, cond_true, cond_false, resAll, List.getD_cons_zero, List.getD_cons_succ, List.drop_zero, List.drop_succ_cons, List.take_succ_cons, List.take_zero, F_ag31, F_sz31, F_ok31]
              have e : lossE r who cur l = 1 := by simp [lossE, hE, lossOk, hj]
              have v : ∀ j, lossV r who cur l j = 0 := fun j => by simp [lossV, e]
              simp only [show rightN (List.map (fun x => lossOf x 4) (pcs r who cur l)).sum = false from hj, lossA, v, e]; rfl
            · intro hb
              have hj : rightN (lossT (pcs r who cur l) 4) = true := bif_eq hb
              clear hb
              simp only [show rightN (List.map (fun x => lossOf x 4) (pcs r who cur l)).sum = true from hj, cond_true]
              have h4 := hj
              refine awp_skip ?_
              simp only [zz6, Nat.reduceEqDiff, ↓reduceIte]
              refine hK2 _ ?_; try clear hK2 K2
              refine awp_keepL [8, 10, 11, 31] ?_
              simp only [zz20, zzI, look_nil, Nat.reduceBEq]
              refine awp_plain F_mixed [some 75, some 31] rfl ?_
              simp only [List.nil_append, List.cons_append, true_and, and_true, zz0, true_implies, Nat.reduceLT, Nat.reduceLeDiff, zzI, look_nil, Nat.reduceBEq, implies_true, zz21, gr_v, zz26, evS_move, zz6, Nat.reduceEqDiff, ↓reduceIte]
              refine ⟨1, _, by decide, le_SK id [] rfl (l' := [(8, .ptr 8 0 0), (10, .ptr 10 0 0), (11, .d (pieces (pcs r who cur l))), (31, .d (iv 5))]) (m' := [(8, (⟨True, 31, 6, true, false, 8, [[.d (.v (.int .i64 0)), .d (.v (.int .i64 0)), .d (.v (.int .i64 0)), .d (.v (.int .i64 0)), .d (.v (.int .i64 0)), .d (.v (.int .i64 0))]]⟩ : ARow)), (10, (⟨True, 31, 6, true, false, 10, [[.d (iv (lossT (pcs r who cur l) 0)), .d (iv (lossT (pcs r who cur l) 1)), .d (iv (lossT (pcs r who cur l) 2)), .d (iv (lossT (pcs r who cur l) 3)), .d (iv (lossT (pcs r who cur l) 4)), .d (.v (.int .i64 0))]]⟩ : ARow))]) ?_ ?_ ?_ ?_, .inr (.inr (.inr (.inr (.inr (.inl (⟨rfl, h0, h1, h2, h3, h4, rfl⟩))))))⟩
              · simp only [leV, look_cons, Nat.reduceBEq, cond_true, cond_false]; exact ⟨VLe.refl _, VLe.refl _, VLe.refl _, VLe.refl _, trivial⟩
              · exact ⟨fun _ => ⟨_, rfl, ⟨id, rfl, rfl, rfl, id, .inl, VLess.refl _⟩⟩, fun h => by simp at h, fun _ => ⟨_, rfl, ⟨id, rfl, rfl, rfl, id, .inl, VLess.refl _⟩⟩, fun h => by simp at h, trivial⟩
              · simp [wfV, AV.ids, AV.idsL, lookR]
              · simp [wfR, AV.idsL, AV.ids]
          · intro hb
            simp at hb
      · intro hb
        simp at hb
    · skip
      refine awp_seq fun K2 hK2 => ?_
      refine awp_plain F_mixed [some 32] rfl ?_
      simp only [List.nil_append, List.cons_append, true_and, and_true, zz0, true_implies, Nat.reduceLT, Nat.reduceLeDiff, zzI, look_nil, Nat.reduceBEq, implies_true, zz21, gr_v, zz22, zz6, Nat.reduceEqDiff, ↓reduceIte]
      refine hK2 _ ?_; try clear hK2 K2
      refine awp_keepL [8, 10, 11, 31, 32] ?_
      simp only [zz20, zzI, look_nil, Nat.reduceBEq]
      refine awp_seq fun K2 hK2 => ?_
      refine awp_condS _ (by decide) (by simp only [look_cons, Nat.reduceBEq, cond_true, cond_false]; rfl) ?_ ?_
      · intro hb
        clear hb
        refine awp_skip ?_
        simp only [zz6, Nat.reduceEqDiff, ↓reduceIte]
        refine hK2 _ ?_; try clear hK2 K2
        refine awp_keepL [8, 10, 11, 31] ?_
        simp only [zz20, zzI, look_nil, Nat.reduceBEq]
        refine awp_seq fun K2 hK2 => ?_
        refine awp_block ?_
        refine awp_seq fun K3 hK3 => ?_
        refine awp_plain F_mixed [some 33, some 13] rfl ?_
        simp only [List.nil_append, List.cons_append, true_and, and_true, zz0, true_implies, Nat.reduceLT, Nat.reduceLeDiff, zzI, look_nil, Nat.reduceBEq, implies_true, evS_move, evS_assign, zz6, Nat.reduceEqDiff, ↓reduceIte]
        refine hK3 _ ?_; try clear hK3 K3
        refine awp_keepL [8, 10, 11, 13, 31] ?_
        simp only [zz20, zzI, look_nil, Nat.reduceBEq]
        refine awp_seq fun K3 hK3 => ?_
        refine awp_plain F_mixed [some 14] rfl ?_
        simp only [List.nil_append, List.cons_append, true_and, and_true, zz0, true_implies, Nat.reduceLT, Nat.reduceLeDiff, zzI, look_nil, Nat.reduceBEq, implies_true, evS_assign, zz6, Nat.reduceEqDiff, ↓reduceIte]
        refine hK3 _ ?_; try clear hK3 K3
        refine awp_keepL [8, 10, 11, 13, 14, 31] ?_
        simp only [zz20, zzI, look_nil, Nat.reduceBEq]
        refine awp_seq fun K3 hK3 => ?_
        refine awp_seq fun K4 hK4 => ?_
        refine awp_plain F_mixed [some 34, some 35, some 36] rfl ?_
        simp only [List.nil_append, List.cons_append, true_and, and_true, zz0, true_implies, Nat.reduceLT, Nat.reduceLeDiff, zzI, look_nil, Nat.reduceBEq, implies_true, evS_move, evS_call, zz12, F_sl51, Option.isSome_some, pieces, len_map, zz6, Nat.reduceEqDiff, ↓reduceIte]
        refine hK4 _ ?_; try clear hK4 K4
        refine awp_keepL [8, 10, 11, 13, 14, 31, 34, 35, 36] ?_
        simp only [zz20, zzI, look_nil, Nat.reduceBEq]
        refine awp_block ?_
        refine awp_loop (fun m s => ∃ pre post : List PieceV, pcs r who cur l = pre ++ post ∧ m = post.length ∧ s = S 77 [(8, .ptr 8 0 0), (10, .ptr 10 0 0), (11, .d (pieces (pre ++ post))), (13, .d (iv 5)), (14, .ref 14 pre.length), (31, .d (iv 5)), (34, .d (pieces (pre ++ post))), (35, .d (iv (pre ++ post).length)), (36, .d (iv pre.length))] [(8, (⟨True, 31, 6, true, false, 8, [[.d (.v (.int .i64 0)), .d (.v (.int .i64 0)), .d (.v (.int .i64 0)), .d (.v (.int .i64 0)), .d (.v (.int .i64 0)), .d (.v (.int .i64 0))]]⟩ : ARow)), (10, (⟨True, 31, 6, true, false, 10, [[.d (iv (lossT (pcs r who cur l) 0)), .d (iv (lossT (pcs r who cur l) 1)), .d (iv (lossT (pcs r who cur l) 2)), .d (iv (lossT (pcs r who cur l) 3)), .d (iv (lossT (pcs r who cur l) 4)), .d (.v (.int .i64 0))]]⟩ : ARow)), (14, grow 59 2 14 ((pre.map (lossOf · 5)).map wideC))]) (pcs r who cur l).length _ (le_SK id [14] rfl (l' := [(8, .ptr 8 0 0), (10, .ptr 10 0 0), (11, .d (pieces (([] : List PieceV) ++ (pcs r who cur l)))), (13, .d (iv 5)), (14, .ref 14 ([] : List PieceV).length), (31, .d (iv 5)), (34, .d (pieces (([] : List PieceV) ++ (pcs r who cur l)))), (35, .d (iv (([] : List PieceV) ++ (pcs r who cur l)).length)), (36, .d (iv ([] : List PieceV).length))]) (m' := [(8, (⟨True, 31, 6, true, false, 8, [[.d (.v (.int .i64 0)), .d (.v (.int .i64 0)), .d (.v (.int .i64 0)), .d (.v (.int .i64 0)), .d (.v (.int .i64 0)), .d (.v (.int .i64 0))]]⟩ : ARow)), (10, (⟨True, 31, 6, true, false, 10, [[.d (iv (lossT (pcs r who cur l) 0)), .d (iv (lossT (pcs r who cur l) 1)), .d (iv (lossT (pcs r who cur l) 2)), .d (iv (lossT (pcs r who cur l) 3)), .d (iv (lossT (pcs r who cur l) 4)), .d (.v (.int .i64 0))]]⟩ : ARow)), (14, grow 59 2 14 ((([] : List PieceV).map (lossOf · 5)).map wideC))]) ?_ ?_ ?_ ?_) ⟨[], pcs r who cur l, rfl, rfl, rfl⟩ ?_
        · simp only [leV, look_cons, Nat.reduceBEq, cond_true, cond_false, pieces, len_map, List.nil_append]; exact ⟨VLe.ptr_ (f := id) (r := 8) (by simp), VLe.ptr_ (f := id) (r := 10) (by simp), VLe.still rfl, VLe.still rfl, VLe.nil_ (by decide), VLe.still rfl, VLe.still rfl, VLe.still rfl, VLe.still rfl, trivial⟩
        · exact ⟨fun _ => ⟨_, rfl, RowLe.still (by simp [AV.idsL, AV.ids])⟩, fun h => by simp at h, fun _ => ⟨_, rfl, RowLe.still (by simp [AV.idsL, AV.ids])⟩, fun h => by simp at h, fun h => by simp at h, fun _ => rfl, trivial⟩
        · simp [wfV, AV.ids, lookR]
        · simp [wfR, grow, AV.idsL, AV.ids]
        rintro m s ⟨pre, post, hsp, rfl, rfl⟩
        refine awp_seq fun K5 hK5 => ?_
        refine awp_plain F_mixed [some 37] rfl ?_
        simp only [List.nil_append, List.cons_append, true_and, and_true, zz0, true_implies, Nat.reduceLT, Nat.reduceLeDiff, zzI, look_nil, Nat.reduceBEq, implies_true, zz21, gr_v, zz22, zz6, Nat.reduceEqDiff, ↓reduceIte]
        refine hK5 _ ?_; try clear hK5 K5
        refine awp_keepL [8, 10, 11, 13, 14, 31, 34, 35, 36, 37] ?_
        simp only [zz20, zzI, look_nil, Nat.reduceBEq]
        refine awp_seq fun K5 hK5 => ?_
        refine awp_condS _ (by decide) (by simp only [look_cons, Nat.reduceBEq, cond_true, cond_false]; rfl) ?_ ?_
        · intro hb
          obtain ⟨x, post, rfl⟩ := more_of hb; clear hb
          have hx : PieceOk x := hps x (by rw [hsp]; simp)
          have hb := hx.loss 5
          have hw : IntKind.wrap .i64 (IntKind.wrap .i64 (0 - x.qty) * x.inst.mult) = -x.qty * x.inst.mult := by
            rw [wrapI (n := 0 - x.qty) (by have := hx.q1; omega) (by have := hx.q0; omega), show (0 - x.qty : Int) = -x.qty from by omega]
            exact wrapI (by omega) (by omega)
          have hs := hx.s 5
          simp only [shN] at hs
          refine awp_skip ?_
          simp only [zz6, Nat.reduceEqDiff, ↓reduceIte]
          refine hK5 _ ?_; try clear hK5 K5
          refine awp_keepL [8, 10, 11, 13, 14, 31, 34, 35, 36] ?_
          simp only [zz20, zzI, look_nil, Nat.reduceBEq]
          refine awp_seq fun K5 hK5 => ?_
          refine awp_block ?_
          refine awp_seq fun K6 hK6 => ?_
          refine awp_plain F_mixed [some 38, some 39, some 16, none] rfl ?_
          simp only [List.nil_append, List.cons_append, true_and, and_true, zz0, true_implies, Nat.reduceLT, Nat.reduceLeDiff, zzI, look_nil, Nat.reduceBEq, implies_true, evS_indexAddr, zz23, zz24, F_sl51, F_sz56, Option.map_some, zz16, Option.some.injEq, exists_eq_left', exists_eq_left, eq_self, reduceCtorEq, and_self, F_ok56, F_ag56, zz8, zzD, Nat.reduceAdd, Nat.zero_add, zzF, zzB, zzE, zz32, newRow1, F_zero56, zz10, zz18, splice, List.append_nil, zz1, zzG, pieces, pieceC, getD_mid, len_map, lt_mid, ge_mid, zz6, Nat.reduceEqDiff, ↓reduceIte]
          refine hK6 _ ?_; try clear hK6 K6
          refine awp_keepL [8, 10, 11, 13, 14, 16, 31, 34, 35, 36] ?_
          simp only [zz20, zzI, look_nil, Nat.reduceBEq]
          refine awp_draw F_mixed [some 40, some 41, some 42, some 43, some 44, some 45, some 46, some 47, some 48, some 49, some 50, some 51, some 52, some 53, some 54, some 55, some 14] rfl (by kernel_rfl) ?_
          simp only [List.nil_append, List.cons_append, true_and, and_true, zz0, true_implies, Nat.reduceLT, Nat.reduceLeDiff, zzI, look_nil, Nat.reduceBEq, implies_true, evS_move, zz19, zz23, F_off56_1, zzB, Nat.zero_add, Nat.reduceAdd, F_ok3, F_ag3, F_sz3, zz8, zzD, zzF, zzE, zz16, Option.some.injEq, exists_eq_left', exists_eq_left, Option.map_some, eq_self, reduceCtorEq, and_self, zz29, gr_v, zz37, F_off56_0, F_off49_2, zz21, zz36, F_off49_6, evS_indexAddr, zz15, F_arr31, evS_call, evC_value, F_sl54, F_zero59, F_sz59, zz3, newRow1, zz1, zzG, maxLen_le, Nat.reduceMul, F_by59, zz4, zz9, Option.bind_some, evS_assign, hw, wideA, grow, D.agg.injEq, unDs_map, Int.reduceToNat, Int.reduceLT, Int.reduceLE, cast6, Nat.reduceMul, zz6, Nat.reduceEqDiff, ↓reduceIte]
          refine call_go F_go19 (fun hG => Times_ (-x.qty * x.inst.mult) x.inst.s5 (by omega) (by omega) (by omega) (by omega)) (by simp [AV.ids, AV.idsL, wideA]) (by simp) ?_
          simp only [List.nil_append, List.cons_append, true_and, and_true, zz0, true_implies, Nat.reduceLT, Nat.reduceLeDiff, zzI, look_nil, Nat.reduceBEq, implies_true, evS_move, zz19, zz23, F_off56_1, zzB, Nat.zero_add, Nat.reduceAdd, F_ok3, F_ag3, F_sz3, zz8, zzD, zzF, zzE, zz16, Option.some.injEq, exists_eq_left', exists_eq_left, Option.map_some, eq_self, reduceCtorEq, and_self, zz29, gr_v, zz37, F_off56_0, F_off49_2, zz21, zz36, F_off49_6, evS_indexAddr, zz15, F_arr31, evS_call, evC_value, F_sl54, F_zero59, F_sz59, zz3, newRow1, zz1, zzG, maxLen_le, Nat.reduceMul, F_by59, zz4, zz9, Option.bind_some, evS_assign, hw, wideA, grow, D.agg.injEq, unDs_map, Int.reduceToNat, Int.reduceLT, Int.reduceLE, cast6, Nat.reduceMul, zz6, Nat.reduceEqDiff, ↓reduceIte, atsL, oksG, freeN, AV.ren, AV.renL, addRows, ORow.row, Nat.reduceMul, Nat.reduceAdd, unDs_cons, Option.bind_some, Option.map_some, forall_eq', D.sl.injEq, S_mem, Option.some.injEq, exists_eq_left', exists_eq_left, exists_eq', exists_eq, List.length_cons, zz2]
          have hm : pre.length + 1 ≤ 1000000 := by have e := congrArg List.length hsp; simp only [List.length_append, List.length_cons, List.length_map] at e; omega
          first | refine ⟨le_maxLen hm, by omega, ?_⟩ | refine ⟨by simp, le_maxLen hm, by omega, ?_⟩
          clear hm
          refine hK5 _ ?_; try clear hK5 K5
          refine awp_keepL [8, 10, 11, 13, 14, 31, 34, 35, 36] ?_
          simp only [zz20, zzI, look_nil, Nat.reduceBEq]
          refine awp_plain F_mixed [some 56, some 36] rfl ?_
          simp only [List.nil_append, List.cons_append, true_and, and_true, zz0, true_implies, Nat.reduceLT, Nat.reduceLeDiff, zzI, look_nil, Nat.reduceBEq, implies_true, zz21, gr_v, zz26, evS_move, zz6, Nat.reduceEqDiff, ↓reduceIte]
          refine ⟨post.length, _, by simp, le_SK (fun r => bif r == 14 then 55 else r) [] rfl (l' := [(8, .ptr 8 0 0), (10, .ptr 10 0 0), (11, .d (pieces ((pre ++ [x]) ++ post))), (13, .d (iv 5)), (14, .ref 14 (pre ++ [x]).length), (31, .d (iv 5)), (34, .d (pieces ((pre ++ [x]) ++ post))), (35, .d (iv ((pre ++ [x]) ++ post).length)), (36, .d (iv (pre ++ [x]).length))]) (m' := [(8, (⟨True, 31, 6, true, false, 8, [[.d (.v (.int .i64 0)), .d (.v (.int .i64 0)), .d (.v (.int .i64 0)), .d (.v (.int .i64 0)), .d (.v (.int .i64 0)), .d (.v (.int .i64 0))]]⟩ : ARow)), (10, (⟨True, 31, 6, true, false, 10, [[.d (iv (lossT (pcs r who cur l) 0)), .d (iv (lossT (pcs r who cur l) 1)), .d (iv (lossT (pcs r who cur l) 2)), .d (iv (lossT (pcs r who cur l) 3)), .d (iv (lossT (pcs r who cur l) 4)), .d (.v (.int .i64 0))]]⟩ : ARow)), (14, grow 59 2 14 (((pre ++ [x]).map (lossOf · 5)).map wideC))]) ?_ ?_ ?_ ?_, pre ++ [x], post, by simp [hsp], rfl, rfl⟩
          · simp only [leV, look_cons, Nat.reduceBEq, cond_true, cond_false, pieces, len_map, List.append_assoc, List.singleton_append, wrap_len pre x (by have e := congrArg List.length hsp; simp only [List.length_append, List.length_cons, List.length_map] at e; omega)]
            refine ⟨VLe.ptr_ (f := (fun r => bif r == 14 then 55 else r)) (r := 8) (by simp), VLe.ptr_ (f := (fun r => bif r == 14 then 55 else r)) (r := 10) (by simp), VLe.still rfl, VLe.still rfl, ?_, VLe.still rfl, VLe.still rfl, VLe.still rfl, VLe.still rfl, trivial⟩
            rw [show (AV.ref 55 _ : AV) = .ref ((fun r => bif r == 14 then 55 else r) 14) (pre ++ [x]).length from by simp]; exact VLe.ref_ (f := (fun r => bif r == 14 then 55 else r)) (r := 14) (by simp)
          · exact ⟨fun _ => ⟨_, rfl, RowLe.still (by simp [AV.idsL, AV.ids])⟩, fun h => by simp at h, fun _ => ⟨_, rfl, RowLe.still (by simp [AV.idsL, AV.ids])⟩, fun h => by simp at h, fun _ => ⟨_, rfl, RowLe.data_ (by simp [wideC, lossOf, shN])⟩, fun h => by simp at h, trivial⟩
          · simp [wfV, AV.ids, lookR, grow]
          · exact ⟨by simp [AV.idsL, AV.ids], by simp [AV.idsL, AV.ids], wf_data _ _, trivial⟩
        · intro hb
          obtain rfl := none_of hb; clear hb
          obtain rfl : pre = pcs r who cur l := by simpa using hsp.symm
          clear hsp
          refine awp_exit ?_
          simp only [zz6, Nat.reduceEqDiff, ↓reduceIte]
          refine hK3 _ ?_; try clear hK3 K3
          refine awp_keepL [8, 10, 11, 13, 14, 31] ?_
          simp only [zz20, zzI, look_nil, Nat.reduceBEq]
          refine awp_seq fun K3 hK3 => ?_
          refine awp_plain F_mixed [some 58, some 59, some 57, some 60, some 61, some 17, none, some 18] rfl ?_
          simp only [List.nil_append, List.cons_append, true_and, and_true, zz0, true_implies, Nat.reduceLT, Nat.reduceLeDiff, zzI, look_nil, Nat.reduceBEq, implies_true, evS_move, evS_call, evC_value, zz14, zzD, Nat.reduceAdd, Nat.zero_add, zzF, zz32, newRow1, F_zero59, zz16, Option.some.injEq, exists_eq_left', exists_eq_left, Option.map_some, eq_self, reduceCtorEq, and_self, zzB, zzE, zz10, zz18, F_ok59, F_sz59, splice, List.append_nil, zz1, zzG, evS_assign, wides, wideA, grow, hfit, List.append_nil, zz6, Nat.reduceEqDiff, ↓reduceIte]
          refine call_go F_go20 (fun hG => wSum_ ((pcs r who cur l).map (lossOf · 5)) (by simp; omega) (fun y hy => by obtain ⟨x, hx, rfl⟩ := List.mem_map.1 hy; have := ((hps x hx).loss 5).2; omega)) (by simp [AV.ids, AV.idsL, wideA]) (by simp) ?_
          simp only [List.nil_append, List.cons_append, true_and, and_true, zz0, true_implies, Nat.reduceLT, Nat.reduceLeDiff, zzI, look_nil, Nat.reduceBEq, implies_true, evS_move, evS_call, evC_value, zz14, zzD, Nat.reduceAdd, Nat.zero_add, zzF, zz32, newRow1, F_zero59, zz16, Option.some.injEq, exists_eq_left', exists_eq_left, Option.map_some, eq_self, reduceCtorEq, and_self, zzB, zzE, zz10, zz18, F_ok59, F_sz59, splice, List.append_nil, zz1, zzG, evS_assign, wides, wideA, grow, hfit, List.append_nil, zz6, Nat.reduceEqDiff, ↓reduceIte, atsL, oksG, freeN, AV.ren, AV.renL, addRows, ORow.row, Nat.reduceMul, Nat.reduceAdd, zz9, Option.bind_some, Option.map_some, forall_eq', D.sl.injEq, S_mem, Option.some.injEq, exists_eq_left', exists_eq_left, exists_eq', exists_eq, List.length_cons, zz2]
          refine ⟨by simp, ?_⟩
          refine hK3 _ ?_; try clear hK3 K3
          refine awp_keepL [8, 10, 11, 13, 17, 18, 31] ?_
          simp only [zz20, zzI, look_nil, Nat.reduceBEq]
          refine awp_seq fun K3 hK3 => ?_
          refine awp_seq fun K4 hK4 => ?_
          refine awp_plain F_mixed [some 62, some 63] rfl ?_
          simp only [List.nil_append, List.cons_append, true_and, and_true, zz0, true_implies, Nat.reduceLT, Nat.reduceLeDiff, zzI, look_nil, Nat.reduceBEq, implies_true, evS_move, zz21, gr_v, zz34, zz6, Nat.reduceEqDiff, ↓reduceIte]
          refine hK4 _ ?_; try clear hK4 K4
          refine awp_keepL [8, 10, 11, 13, 17, 18, 31, 63] ?_
          simp only [zz20, zzI, look_nil, Nat.reduceBEq]
          refine awp_condS _ (by decide) (by simp only [look_cons, Nat.reduceBEq, cond_true, cond_false]; rfl) ?_ ?_
          · intro hb
            clear hb
            refine awp_plain F_mixed [some 65, some 66, some 67, some 64, some 68, some 69, some 70, none, some 18] rfl ?_
            simp only [List.nil_append, List.cons_append, true_and, and_true, zz0, true_implies, Nat.reduceLT, Nat.reduceLeDiff, zzI, look_nil, Nat.reduceBEq, implies_true, evS_move, F_ok59, F_ag59, F_sz59, zz8, zz23, zzD, Nat.reduceAdd, Nat.zero_add, zzF, zzB, zzE, zz16, Option.some.injEq, exists_eq_left', exists_eq_left, Option.map_some, eq_self, reduceCtorEq, and_self, evS_call, evC_value, zz14, evS_indexAddr, zz15, F_arr31, F_sz3, zz18, F_ok3, splice, List.append_nil, zz1, zzG, evS_assign, wideC, wideA, Int.reduceToNat, Int.reduceLT, Int.reduceLE, cast6, Nat.reduceMul, zz6, Nat.reduceEqDiff, ↓reduceIte]
            refine call_go F_go21 (fun hG => wInt_ ((pcs r who cur l).map (lossOf · 5)).sum) (by simp [AV.ids, AV.idsL, wideC, wideA]) (by simp) ?_
            simp only [List.nil_append, List.cons_append, true_and, and_true, zz0, true_implies, Nat.reduceLT, Nat.reduceLeDiff, zzI, look_nil, Nat.reduceBEq, implies_true, evS_move, F_ok59, F_ag59, F_sz59, zz8, zz23, zzD, Nat.reduceAdd, Nat.zero_add, zzF, zzB, zzE, zz16, Option.some.injEq, exists_eq_left', exists_eq_left, Option.map_some, eq_self, reduceCtorEq, and_self, evS_call, evC_value, zz14, evS_indexAddr, zz15, F_arr31, F_sz3, zz18, F_ok3, splice, List.append_nil, zz1, zzG, evS_assign, wideC, wideA, Int.reduceToNat, Int.reduceLT, Int.reduceLE, cast6, Nat.reduceMul, zz6, Nat.reduceEqDiff, ↓reduceIte, atsL, oksG, freeN, AV.ren, AV.renL, addRows, ORow.row, Nat.reduceMul, Nat.reduceAdd, zz9, Option.bind_some, Option.map_some, forall_eq', D.sl.injEq, S_mem, Option.some.injEq, exists_eq_left', exists_eq_left, exists_eq', exists_eq, List.length_cons, zz2]
            refine hK3 _ ?_; try clear hK3 K3
            refine awp_keepL [8, 10, 11, 18, 31] ?_
            simp only [zz20, zzI, look_nil, Nat.reduceBEq]
            refine awp_seq fun K3 hK3 => ?_
            refine awp_plain F_mixed [some 71, some 72] rfl ?_
            simp only [List.nil_append, List.cons_append, true_and, and_true, zz0, true_implies, Nat.reduceLT, Nat.reduceLeDiff, zzI, look_nil, Nat.reduceBEq, implies_true, evS_move, zz21, gr_v, zz28, zz6, Nat.reduceEqDiff, ↓reduceIte]
            refine hK3 _ ?_; try clear hK3 K3
            refine awp_keepL [8, 10, 11, 18, 31, 72] ?_
            simp only [zz20, zzI, look_nil, Nat.reduceBEq]
            refine awp_condS _ (by decide) (by simp only [look_cons, Nat.reduceBEq, cond_true, cond_false]; rfl) ?_ ?_
            · intro hb
              have hj : rightN (lossT (pcs r who cur l) 5) = false := bif_ne hb
              clear hb
              refine awp_seq fun K4 hK4 => ?_
              refine awp_plain F_mixed [some 73, some 74, none, some 9] rfl ?_
              simp only [List.nil_append, List.cons_append, true_and, and_true, zz0, true_implies, Nat.reduceLT, Nat.reduceLeDiff, zzI, look_nil, Nat.reduceBEq, implies_true, F_zero31, F_bld31, zz7, splice, Option.getD_some, List.append_nil, zz1, zzG, zzD, zz16, Option.some.injEq, exists_eq_left', exists_eq_left, Option.map_some, eq_self, reduceCtorEq, and_self, Nat.reduceAdd, Nat.zero_add, zzF, zzB, zzE, zz10, evS_move, zz18, F_ok31, F_sz31, evS_assign, zz6, Nat.reduceEqDiff, ↓reduceIte]
              refine hK4 _ ?_; try clear hK4 K4
              refine awp_keepL [8, 9] ?_
              simp only [zz20, zzI, look_nil, Nat.reduceBEq]
              refine awp_ret ?_
              simp only [zz6, Nat.reduceEqDiff, ↓reduceIte]
              refine done0 (by simp [resCs, resC, S, List.getD, look_cons, lookR, F_ag31, F_sz31, F_ok31]) ?_ (by simp [flatA, flatAs, flatD, lossA]) (by simp [AV.ids, AV.idsL, lossA])
              simp only [List.map_cons, List.map_nil, resA, S_getD, S_mem, lookR_cons, lookR_nil, Nat.reduceLT, Nat.reduceLeDiff, look_cons, Nat.reduceBEq, cond_true, cond_false, resAll, List.getD_cons_zero, List.getD_cons_succ, List.drop_zero, List.drop_succ_cons, List.take_succ_cons, List.take_zero, F_ag31, F_sz31, F_ok31]
              have e : lossE r who cur l = 1 := by simp [lossE, hE, lossOk, hj]
              have v : ∀ j, lossV r who cur l j = 0 := fun j => by simp [lossV, e]
              simp only [show rightN (List.map (fun x => lossOf x 5) (pcs r who cur l)).sum = false from hj, lossA, v, e]; rfl
            · intro hb
              have hj : rightN (lossT (pcs r who cur l) 5) = true := bif_eq hb
              clear hb
              simp only [show rightN (List.map (fun x => lossOf x 5) (pcs r who cur l)).sum = true from hj, cond_true]
              have h5 := hj
              refine awp_skip ?_
              simp only [zz6, Nat.reduceEqDiff, ↓reduceIte]
              refine hK2 _ ?_; try clear hK2 K2
              refine awp_keepL [8, 10, 11, 31] ?_
              simp only [zz20, zzI, look_nil, Nat.reduceBEq]
              refine awp_plain F_mixed [some 75, some 31] rfl ?_
              simp only [List.nil_append, List.cons_append, true_and, and_true, zz0, true_implies, Nat.reduceLT, Nat.reduceLeDiff, zzI, look_nil, Nat.reduceBEq, implies_true, zz21, gr_v, zz26, evS_move, zz6, Nat.reduceEqDiff, ↓reduceIte]
              refine ⟨0, _, by decide, le_SK id [] rfl (l' := [(8, .ptr 8 0 0), (10, .ptr 10 0 0), (11, .d (pieces (pcs r who cur l))), (31, .d (iv 6))]) (m' := [(8, (⟨True, 31, 6, true, false, 8, [[.d (.v (.int .i64 0)), .d (.v (.int .i64 0)), .d (.v (.int .i64 0)), .d (.v (.int .i64 0)), .d (.v (.int .i64 0)), .d (.v (.int .i64 0))]]⟩ : ARow)), (10, (⟨True, 31, 6, true, false, 10, [[.d (iv (lossT (pcs r who cur l) 0)), .d (iv (lossT (pcs r who cur l) 1)), .d (iv (lossT (pcs r who cur l) 2)), .d (iv (lossT (pcs r who cur l) 3)), .d (iv (lossT (pcs r who cur l) 4)), .d (iv (lossT (pcs r who cur l) 5))]]⟩ : ARow))]) ?_ ?_ ?_ ?_, .inr (.inr (.inr (.inr (.inr (.inr (⟨rfl, h0, h1, h2, h3, h4, h5, rfl⟩))))))⟩
              · simp only [leV, look_cons, Nat.reduceBEq, cond_true, cond_false]; exact ⟨VLe.refl _, VLe.refl _, VLe.refl _, VLe.refl _, trivial⟩
              · exact ⟨fun _ => ⟨_, rfl, ⟨id, rfl, rfl, rfl, id, .inl, VLess.refl _⟩⟩, fun h => by simp at h, fun _ => ⟨_, rfl, ⟨id, rfl, rfl, rfl, id, .inl, VLess.refl _⟩⟩, fun h => by simp at h, trivial⟩
              · simp [wfV, AV.ids, AV.idsL, lookR]
              · simp [wfR, AV.idsL, AV.ids]
          · intro hb
            simp at hb
      · intro hb
        simp at hb
    · skip
      refine awp_seq fun K2 hK2 => ?_
      refine awp_plain F_mixed [some 32] rfl ?_
      simp only [List.nil_append, List.cons_append, true_and, and_true, zz0, true_implies, Nat.reduceLT, Nat.reduceLeDiff, zzI, look_nil, Nat.reduceBEq, implies_true, zz21, gr_v, zz22, zz6, Nat.reduceEqDiff, ↓reduceIte]
      refine hK2 _ ?_; try clear hK2 K2
      refine awp_keepL [8, 10, 11, 31, 32] ?_
      simp only [zz20, zzI, look_nil, Nat.reduceBEq]
      refine awp_seq fun K2 hK2 => ?_
      refine awp_condS _ (by decide) (by simp only [look_cons, Nat.reduceBEq, cond_true, cond_false]; rfl) ?_ ?_
      · intro hb
        simp at hb
      · intro hb
        clear hb
        refine awp_exit ?_
        simp only [zz6, Nat.reduceEqDiff, ↓reduceIte]
        refine hK0 _ ?_; try clear hK0 K0
        refine awp_keepL [8, 10] ?_
        simp only [zz20, zzI, look_nil, Nat.reduceBEq]
        refine awp_seq fun K0 hK0 => ?_
        refine awp_plain F_mixed [some 76, none, some 9] rfl ?_
        simp only [List.nil_append, List.cons_append, true_and, and_true, zz0, true_implies, Nat.reduceLT, Nat.reduceLeDiff, zzI, look_nil, Nat.reduceBEq, implies_true, F_ok31, F_ag31, F_sz31, zz8, zz23, zzD, Nat.reduceAdd, Nat.zero_add, zzF, zzB, zzE, zz16, Option.some.injEq, exists_eq_left', exists_eq_left, Option.map_some, eq_self, reduceCtorEq, and_self, zz18, splice, List.append_nil, zz1, zzG, evS_assign, zz6, Nat.reduceEqDiff, ↓reduceIte]
        refine hK0 _ ?_; try clear hK0 K0
        refine awp_keepL [8, 9] ?_
        simp only [zz20, zzI, look_nil, Nat.reduceBEq]
        refine awp_ret ?_
        simp only [zz6, Nat.reduceEqDiff, ↓reduceIte]
        refine done0 (by simp [resCs, resC, S, List.getD, look_cons, lookR, F_ag31, F_sz31, F_ok31]) ?_ (by simp [flatA, flatAs, flatD, lossA]) (by simp [AV.ids, AV.idsL, lossA])
        simp only [List.map_cons, List.map_nil, resA, S_getD, S_mem, lookR_cons, lookR_nil, Nat.reduceLT, Nat.reduceLeDiff, look_cons, Nat.reduceBEq, cond_true, cond_false, resAll, List.getD_cons_zero, List.getD_cons_succ, List.drop_zero, List.drop_succ_cons, List.take_succ_cons, List.take_zero, F_ag31, F_sz31, F_ok31]
        have e : lossE r who cur l = 0 := by simp [lossE, hE, lossOk, h0, h1, h2, h3, h4, h5]
        have v : ∀ j, lossV r who cur l j = lossT (pcs r who cur l) j := fun j => by simp [lossV, e]
        simp only [lossA, v, e]
end Go.Proofs.Ytcpiojfhbebfiaa
