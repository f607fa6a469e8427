import Derived.Test.YtcpiojfhbebfiaaWpF
namespace Go.Proofs.Ytcpiojfhbebfiaa
open Go.RowKit
set_option linter.unusedVariables false
set_option linter.unusedSimpArgs false
theorem F_ok26 : tyOk Try.prog 26 = true := by kernel_rfl
theorem F_ag26 : aggT Try.prog 26 = true := by kernel_rfl
theorem F_sz26 : szT Try.prog 26 = 3 := by kernel_rfl
theorem F_go34 : goFn Try.prog 34 := ⟨_, Try.func34, rfl, rfl⟩
theorem F_ok46 : tyOk Try.prog 46 = true := by kernel_rfl
theorem F_ag46 : aggT Try.prog 46 = true := by kernel_rfl
theorem F_off46_1 : offT Try.prog 46 1 = some 2 := by kernel_rfl
theorem F_off46_0 : offT Try.prog 46 0 = some 0 := by kernel_rfl
theorem F_off44_1 : offT Try.prog 44 1 = some 1 := by kernel_rfl
theorem F_go35 : goFn Try.prog 35 := ⟨_, Try.func35, rfl, rfl⟩
theorem F_off44_0 : offT Try.prog 44 0 = some 0 := by kernel_rfl
theorem F_zero56 : zeroT Try.prog 56 = some [(.int .i64 0), (.int .i64 0), (.int .i64 0), (.int .i64 0), (.int .i64 0), (.int .i64 0), (.int .i64 0), (.int .i64 0), (.int .i64 0), (.int .i64 0), (.int .i64 0), (.int .i64 0), (.int .i64 0)] := by kernel_rfl
theorem F_bld56 : bldT Try.prog 56 = true := by kernel_rfl
theorem F_fld56_0 : fldT Try.prog 56 0 = some (0, 12) := by kernel_rfl
theorem F_fld56_1 : fldT Try.prog 56 1 = some (12, 1) := by kernel_rfl
theorem F_sl51 : sliceT Try.prog 51 = some 56 := by kernel_rfl
theorem F_sz56 : szT Try.prog 56 = 13 := by kernel_rfl
theorem F_by56 : byT Try.prog 56 = 104 := by kernel_rfl
set_option maxRecDepth 100000 in
set_option maxHeartbeats 4000000 in
theorem pieces_ (r : RollV) (who cur : Int) (l : List PosV) (h : r.Small) (hl : l.length ≤ 500000) : ACalls Try.prog 18 [.agg (rollC r), iv who, iv cur, poss l] [⟨56, 13, (pcsL r who cur l).map pieceC⟩] (.tp [.ref 0 (pcsL r who cur l).length, .d (iv (pcsE r l))]) := by
  refine acalls_S (rs := [.tmp 8, .tmp 9]) Try.func18 rfl rfl 66 [(0, .d (.agg (rollC r))), (1, .d (iv who)), (2, .d (iv cur)), (3, .d (poss l))] rfl (by simp) rfl ?_
  refine awp_seq fun K0 hK0 => ?_
  refine awp_plain F_mixed [some 4, some 8, some 9] rfl ?_
  simp only [List.nil_append, List.cons_append, true_and, and_true, zz0, true_implies, Nat.reduceLT, Nat.reduceLeDiff, zzI, look_nil, Nat.reduceBEq, implies_true, zz35, newRow1, zz1, zzG, zzD, zz16, Option.some.injEq, exists_eq_left', exists_eq_left, Option.map_some, eq_self, reduceCtorEq, and_self, Nat.reduceAdd, Nat.zero_add, zzF, zzB, zzE, evS_assign, rollC, memsD, instsD, assetsD, zz6, Nat.reduceEqDiff, ↓reduceIte]
  refine hK0 _ ?_; try clear hK0 K0
  refine awp_keepL [1, 2, 3, 4] ?_
  simp only [zz20, zzI, look_nil, Nat.reduceBEq]
  refine awp_seq fun K0 hK0 => ?_
  refine awp_plain F_mixed [some 16, some 17, some 10] rfl ?_
  simp only [List.nil_append, List.cons_append, true_and, and_true, zz0, true_implies, Nat.reduceLT, Nat.reduceLeDiff, zzI, look_nil, Nat.reduceBEq, implies_true, F_ok26, F_ag26, F_sz26, zz8, zz23, zzD, Nat.reduceAdd, Nat.zero_add, zzF, zzB, zzE, zz16, Option.some.injEq, exists_eq_left', exists_eq_left, Option.map_some, eq_self, reduceCtorEq, and_self, evS_call, evC_value, evS_assign, memsD, instsD, assetsD, rollC, D.agg.injEq, memA, memC, instA, instC, zzG, zz6, Nat.reduceEqDiff, ↓reduceIte]
  refine call_go F_go34 (fun hG => check_ r h) (by simp [AV.ids, AV.idsL, instA, instC]) (by simp) ?_
  simp only [List.nil_append, List.cons_append, true_and, and_true, zz0, true_implies, Nat.reduceLT, Nat.reduceLeDiff, zzI, look_nil, Nat.reduceBEq, implies_true, F_ok26, F_ag26, F_sz26, zz8, zz23, zzD, Nat.reduceAdd, Nat.zero_add, zzF, zzB, zzE, zz16, Option.some.injEq, exists_eq_left', exists_eq_left, Option.map_some, eq_self, reduceCtorEq, and_self, evS_call, evC_value, evS_assign, memsD, instsD, assetsD, rollC, D.agg.injEq, memA, memC, instA, instC, zzG, zz6, Nat.reduceEqDiff, ↓reduceIte, atsL, oksG, freeN, AV.ren, AV.renL, addRows, ORow.row, Nat.reduceMul, Nat.reduceAdd, zz9, Option.bind_some, Option.map_some, forall_eq', D.sl.injEq, S_mem, Option.some.injEq, exists_eq_left', exists_eq_left, exists_eq', exists_eq, List.length_cons, zz2]
  refine hK0 _ ?_; try clear hK0 K0
  refine awp_keepL [1, 2, 3, 4, 10] ?_
  simp only [zz20, zzI, look_nil, Nat.reduceBEq]
  refine awp_seq fun K0 hK0 => ?_
  refine awp_seq fun K1 hK1 => ?_
  refine awp_plain F_mixed [some 18, some 19] rfl ?_
  simp only [List.nil_append, List.cons_append, true_and, and_true, zz0, true_implies, Nat.reduceLT, Nat.reduceLeDiff, zzI, look_nil, Nat.reduceBEq, implies_true, evS_move, zz21, gr_v, zz28, zz6, Nat.reduceEqDiff, ↓reduceIte]
  refine hK1 _ ?_; try clear hK1 K1
  refine awp_keepL [1, 2, 3, 4, 10, 19] ?_
  simp only [zz20, zzI, look_nil, Nat.reduceBEq]
  refine awp_condS _ (by decide) (by simp only [look_cons, Nat.reduceBEq, cond_true, cond_false]; rfl) ?_ ?_
  · intro hb
    have hr := rollE_ne hb
    clear hb
    refine awp_seq fun K2 hK2 => ?_
    refine awp_plain F_mixed [some 20, some 8, some 9] rfl ?_
    simp only [List.nil_append, List.cons_append, true_and, and_true, zz0, true_implies, Nat.reduceLT, Nat.reduceLeDiff, zzI, look_nil, Nat.reduceBEq, implies_true, evS_move, evS_assign, zz6, Nat.reduceEqDiff, ↓reduceIte]
    refine hK2 _ ?_; try clear hK2 K2
    refine awp_keepL [8, 9] ?_
    simp only [zz20, zzI, look_nil, Nat.reduceBEq]
    refine awp_le (le_SK id [0] rfl (l' := [(8, .ref 0 0), (9, .d (iv (rollE r)))]) (m' := [(0, (⟨True, 56, 13, true, true, 0, []⟩ : ARow))]) ?_ ?_ ?_ ?_) ?_
    · simp only [leV, look_cons, Nat.reduceBEq, cond_true, cond_false]; exact ⟨VLe.nil_ (by decide), VLe.still rfl, trivial⟩
    · exact ⟨fun h => by simp at h, fun _ => rfl, trivial⟩
    · simp [wfV, AV.ids, lookR]
    · simp [wfR]
    refine awp_ret ?_
    simp only [zz6, Nat.reduceEqDiff, ↓reduceIte]
    have e : pcsE r l = 14 := by simp [pcsE, hr.1]
    have e2 : pcsL r who cur l = [] := by simp [pcsL, e]
    rw [e2, e]
    refine done1 0 (by simp only [resCs, resC]; trivial) ?_ (by simp [flatA, flatAs, flatD]) (by simp [AV.ids, AV.idsL]) (by rfl) trivial rfl rfl ?_ (by simp [flatDs, flatD])
    · simp only [List.map_cons, List.map_nil, resA, S_getD, Nat.reduceLT, Nat.reduceLeDiff, look_cons, Nat.reduceBEq, cond_true, cond_false, resAll, hr.2]; rfl
    · rfl
  · intro hb
    have hr := rollE_eq hb
    clear hb
    refine awp_skip ?_
    simp only [zz6, Nat.reduceEqDiff, ↓reduceIte]
    refine hK0 _ ?_; try clear hK0 K0
    refine awp_keepL [1, 2, 3, 4] ?_
    simp only [zz20, zzI, look_nil, Nat.reduceBEq]
    refine awp_seq fun K0 hK0 => ?_
    refine awp_plain F_mixed [some 11] rfl ?_
    simp only [List.nil_append, List.cons_append, true_and, and_true, zz0, true_implies, Nat.reduceLT, Nat.reduceLeDiff, zzI, look_nil, Nat.reduceBEq, implies_true, evS_assign, zz6, Nat.reduceEqDiff, ↓reduceIte]
    refine hK0 _ ?_; try clear hK0 K0
    refine awp_keepL [1, 2, 3, 4, 11] ?_
    simp only [zz20, zzI, look_nil, Nat.reduceBEq]
    refine awp_seq fun K0 hK0 => ?_
    refine awp_seq fun K1 hK1 => ?_
    refine awp_plain F_mixed [some 21, some 22, some 23] rfl ?_
    simp only [List.nil_append, List.cons_append, true_and, and_true, zz0, true_implies, Nat.reduceLT, Nat.reduceLeDiff, zzI, look_nil, Nat.reduceBEq, implies_true, evS_move, evS_call, zz12, F_sl27, Option.isSome_some, poss, len_map, zz6, Nat.reduceEqDiff, ↓reduceIte]
    refine hK1 _ ?_; try clear hK1 K1
    refine awp_keepL [1, 2, 4, 11, 21, 22, 23] ?_
    simp only [zz20, zzI, look_nil, Nat.reduceBEq]
    refine awp_block ?_
    refine awp_loop (fun m s => ∃ pre post : List PosV, l = pre ++ post ∧ pre.all pQok = true ∧ m = post.length ∧ s = S 66 [(1, .d (iv who)), (2, .d (iv cur)), (4, .ptr 4 0 0), (11, .ref 11 (pcs r who cur pre).length), (21, .d (poss l)), (22, .d (iv l.length)), (23, .d (iv pre.length))] [(4, (⟨True, 26, 3, true, false, 4, [[.d (.sl 3 (r.mems.map memC)), .d (.sl 12 (r.insts.map instC)), .d (.sl 4 (r.assets.map assetC))]]⟩ : ARow)), (11, grow 56 13 11 ((pcs r who cur pre).map pieceC))]) l.length _ (le_SK id [11] rfl (l' := [(1, .d (iv who)), (2, .d (iv cur)), (4, .ptr 4 0 0), (11, .ref 11 (pcs r who cur ([] : List PosV)).length), (21, .d (poss l)), (22, .d (iv l.length)), (23, .d (iv ([] : List PosV).length))]) (m' := [(4, (⟨True, 26, 3, true, false, 4, [[.d (.sl 3 (r.mems.map memC)), .d (.sl 12 (r.insts.map instC)), .d (.sl 4 (r.assets.map assetC))]]⟩ : ARow)), (11, grow 56 13 11 ((pcs r who cur ([] : List PosV)).map pieceC))]) ?_ ?_ ?_ ?_) ⟨[], l, rfl, rfl, rfl, rfl⟩ ?_
    · simp only [leV, look_cons, Nat.reduceBEq, cond_true, cond_false, poss, len_map]; exact ⟨VLe.still rfl, VLe.still rfl, VLe.ptr_ (f := id) (r := 4) (by simp), VLe.nil_ (by decide), VLe.still rfl, VLe.still rfl, VLe.still rfl, trivial⟩
    · exact ⟨fun _ => ⟨_, rfl, RowLe.still (by simp [AV.idsL, AV.ids])⟩, fun h => by simp at h, fun h => by simp at h, fun _ => rfl, trivial⟩
    · simp [wfV, AV.ids, lookR]
    · simp [wfR, grow, pcs, AV.idsL, AV.ids]
    rintro m s ⟨pre, post, rfl, hp, rfl, rfl⟩
    have hpl := pcs_len r who cur pre
    refine awp_seq fun K2 hK2 => ?_
    refine awp_plain F_mixed [some 24] rfl ?_
    simp only [List.nil_append, List.cons_append, true_and, and_true, zz0, true_implies, Nat.reduceLT, Nat.reduceLeDiff, zzI, look_nil, Nat.reduceBEq, implies_true, zz21, gr_v, zz22, zz6, Nat.reduceEqDiff, ↓reduceIte]
    refine hK2 _ ?_; try clear hK2 K2
    refine awp_keepL [1, 2, 4, 11, 21, 22, 23, 24] ?_
    simp only [zz20, zzI, look_nil, Nat.reduceBEq]
    refine awp_seq fun K2 hK2 => ?_
    refine awp_condS _ (by decide) (by simp only [look_cons, Nat.reduceBEq, cond_true, cond_false]; rfl) ?_ ?_
    · intro hb
      obtain ⟨x, post, rfl⟩ := more_of hb; clear hb
      refine awp_skip ?_
      simp only [zz6, Nat.reduceEqDiff, ↓reduceIte]
      refine hK2 _ ?_; try clear hK2 K2
      refine awp_keepL [1, 2, 4, 11, 21, 22, 23] ?_
      simp only [zz20, zzI, look_nil, Nat.reduceBEq]
      refine awp_seq fun K2 hK2 => ?_
      refine awp_block ?_
      refine awp_seq fun K3 hK3 => ?_
      refine awp_plain F_mixed [some 25, some 26, some 13, none] rfl ?_
      simp only [List.nil_append, List.cons_append, true_and, and_true, zz0, true_implies, Nat.reduceLT, Nat.reduceLeDiff, zzI, look_nil, Nat.reduceBEq, implies_true, evS_indexAddr, zz23, zz24, F_sl27, F_sz46, Option.map_some, zz16, Option.some.injEq, exists_eq_left', exists_eq_left, eq_self, reduceCtorEq, and_self, F_ok46, F_ag46, zz8, zzD, Nat.reduceAdd, Nat.zero_add, zzF, zzB, zzE, zz32, newRow1, F_zero46, zz10, zz18, splice, List.append_nil, zz1, zzG, poss, posC, getD_mid, len_map, lt_mid, ge_mid, zz6, Nat.reduceEqDiff, ↓reduceIte]
      refine hK3 _ ?_; try clear hK3 K3
      refine awp_keepL [1, 2, 4, 11, 13, 21, 22, 23] ?_
      simp only [zz20, zzI, look_nil, Nat.reduceBEq]
      refine awp_seq fun K3 hK3 => ?_
      refine awp_seq fun K4 hK4 => ?_
      refine awp_plain F_mixed [some 27, some 28, some 29, some 30, some 31, some 32, some 33, some 34] rfl ?_
      simp only [List.nil_append, List.cons_append, true_and, and_true, zz0, true_implies, Nat.reduceLT, Nat.reduceLeDiff, zzI, look_nil, Nat.reduceBEq, implies_true, Nat.reduceSub, S_getD, zz5, and_imp, imp_and, imp_self, and_self, zz19, zz23, F_off46_1, zzB, Nat.zero_add, Nat.reduceAdd, F_ok3, F_ag3, F_sz3, zz8, zzD, zzF, zzE, zz16, Option.some.injEq, exists_eq_left', exists_eq_left, Option.map_some, eq_self, reduceCtorEq, zz21, gr_v, zz22, evS_move, zz25, zz13, zz6, Nat.reduceEqDiff, ↓reduceIte]
      refine hK4 _ ?_; try clear hK4 K4
      refine awp_keepL [1, 2, 4, 11, 13, 21, 22, 23, 34] ?_
      simp only [zz20, zzI, look_nil, Nat.reduceBEq]
      refine awp_condS _ (by decide) (by simp only [look_cons, Nat.reduceBEq, cond_true, cond_false]; rfl) ?_ ?_
      · intro hb
        have hq : pQok x = false := by simp only [pQok, hb]; rfl
        clear hb
        refine awp_seq fun K5 hK5 => ?_
        refine awp_plain F_mixed [some 8, some 9] rfl ?_
        simp only [List.nil_append, List.cons_append, true_and, and_true, zz0, true_implies, Nat.reduceLT, Nat.reduceLeDiff, zzI, look_nil, Nat.reduceBEq, implies_true, evS_assign, zz6, Nat.reduceEqDiff, ↓reduceIte]
        refine hK5 _ ?_; try clear hK5 K5
        refine awp_keepL [8, 9] ?_
        simp only [zz20, zzI, look_nil, Nat.reduceBEq]
        refine awp_le (le_SK id [0] rfl (l' := [(8, .ref 0 0), (9, .d (iv 3))]) (m' := [(0, (⟨True, 56, 13, true, true, 0, []⟩ : ARow))]) ?_ ?_ ?_ ?_) ?_
        · simp only [leV, look_cons, Nat.reduceBEq, cond_true, cond_false]; exact ⟨VLe.nil_ (by decide), VLe.still rfl, trivial⟩
        · exact ⟨fun h => by simp at h, fun _ => rfl, trivial⟩
        · simp [wfV, AV.ids, lookR]
        · simp [wfR]
        refine awp_ret ?_
        simp only [zz6, Nat.reduceEqDiff, ↓reduceIte]
        have e : pcsE r (pre ++ x :: post) = 3 := by simp [pcsE, hr, hq]
        have e2 : pcsL r who cur (pre ++ x :: post) = [] := by simp [pcsL, e]
        rw [e2, e]
        refine done1 0 (by simp only [resCs, resC]; trivial) ?_ (by simp [flatA, flatAs, flatD]) (by simp [AV.ids, AV.idsL]) (by rfl) trivial rfl rfl ?_ (by simp [flatDs, flatD])
        · simp only [List.map_cons, List.map_nil, resA, S_getD, Nat.reduceLT, Nat.reduceLeDiff, look_cons, Nat.reduceBEq, cond_true, cond_false, resAll]; rfl
        · rfl
      · intro hb
        have hq : pQok x = true := by simp only [pQok, hb]; rfl
        clear hb
        refine awp_skip ?_
        simp only [zz6, Nat.reduceEqDiff, ↓reduceIte]
        refine hK3 _ ?_; try clear hK3 K3
        refine awp_keepL [1, 2, 4, 11, 13, 21, 22, 23] ?_
        simp only [zz20, zzI, look_nil, Nat.reduceBEq]
        refine awp_seq fun K3 hK3 => ?_
        refine awp_plain F_mixed [some 36, some 37, some 38, some 39, some 40, some 35, some 41, some 42, some 14, none, some 15] rfl ?_
        simp only [List.nil_append, List.cons_append, true_and, and_true, zz0, true_implies, Nat.reduceLT, Nat.reduceLeDiff, zzI, look_nil, Nat.reduceBEq, implies_true, F_ok26, F_ag26, F_sz26, zz8, zz23, zzD, Nat.reduceAdd, Nat.zero_add, zzF, zzB, zzE, zz16, Option.some.injEq, exists_eq_left', exists_eq_left, Option.map_some, eq_self, reduceCtorEq, and_self, zz19, F_off46_0, F_off44_1, F_ok3, F_ag3, F_sz3, evS_call, evC_value, evS_move, zz14, zz32, newRow1, F_zero49, zz10, zz18, F_ok49, F_sz49, splice, List.append_nil, zz1, zzG, evS_assign, memsD, instsD, assetsD, rollC, D.agg.injEq, memA, memC, instA, instC, List.map_cons, zz6, Nat.reduceEqDiff, ↓reduceIte]
        refine call_go F_go35 (fun hG => tInst_ r x.inst h) (by simp [AV.ids, AV.idsL, instA, instC]) (by simp) ?_
        simp only [List.nil_append, List.cons_append, true_and, and_true, zz0, true_implies, Nat.reduceLT, Nat.reduceLeDiff, zzI, look_nil, Nat.reduceBEq, implies_true, F_ok26, F_ag26, F_sz26, zz8, zz23, zzD, Nat.reduceAdd, Nat.zero_add, zzF, zzB, zzE, zz16, Option.some.injEq, exists_eq_left', exists_eq_left, Option.map_some, eq_self, reduceCtorEq, and_self, zz19, F_off46_0, F_off44_1, F_ok3, F_ag3, F_sz3, evS_call, evC_value, evS_move, zz14, zz32, newRow1, F_zero49, zz10, zz18, F_ok49, F_sz49, splice, List.append_nil, zz1, zzG, evS_assign, memsD, instsD, assetsD, rollC, D.agg.injEq, memA, memC, instA, instC, List.map_cons, zz6, Nat.reduceEqDiff, ↓reduceIte, atsL, oksG, freeN, AV.ren, AV.renL, addRows, ORow.row, Nat.reduceMul, Nat.reduceAdd, zz9, Option.bind_some, Option.map_some, forall_eq', D.sl.injEq, S_mem, Option.some.injEq, exists_eq_left', exists_eq_left, exists_eq', exists_eq, List.length_cons, zz2]
        refine hK3 _ ?_; try clear hK3 K3
        refine awp_keepL [1, 2, 4, 11, 13, 14, 15, 21, 22, 23] ?_
        simp only [zz20, zzI, look_nil, Nat.reduceBEq]
        refine awp_seq fun K3 hK3 => ?_
        refine awp_plain F_mixed [some 43, some 44, some 45, some 46, some 47, some 48, some 49, some 50, some 51, some 52, some 53, some 54, some 55, some 56] rfl ?_
        simp only [List.nil_append, List.cons_append, true_and, and_true, zz0, true_implies, Nat.reduceLT, Nat.reduceLeDiff, zzI, look_nil, Nat.reduceBEq, implies_true, Nat.reduceSub, S_getD, zz5, and_imp, imp_and, imp_self, and_self, evS_move, zz19, zz23, F_off46_0, zzB, Nat.zero_add, Nat.reduceAdd, F_off44_0, F_ok3, F_ag3, F_sz3, zz8, zzD, zzF, zzE, zz16, Option.some.injEq, exists_eq_left', exists_eq_left, Option.map_some, eq_self, reduceCtorEq, zz21, gr_v, zz34, zz13, F_off49_1, zz6, Nat.reduceEqDiff, ↓reduceIte]
        refine hK3 _ ?_; try clear hK3 K3
        refine awp_keepL [1, 2, 4, 11, 13, 14, 21, 22, 23, 56] ?_
        simp only [zz20, zzI, look_nil, Nat.reduceBEq]
        refine awp_condS _ (by decide) (by simp only [look_cons, Nat.reduceBEq, cond_true, cond_false]; rfl) ?_ ?_
        · intro hb
          have hs : pSel r who cur x = true := hb
          clear hb
          refine awp_plain F_mixed [some 57, some 58, some 59, some 60, some 61, some 62, some 63, some 11] rfl ?_
          simp only [List.nil_append, List.cons_append, true_and, and_true, zz0, true_implies, Nat.reduceLT, Nat.reduceLeDiff, zzI, look_nil, Nat.reduceBEq, implies_true, evS_move, F_ok49, F_ag49, F_sz49, zz8, zz23, zzD, Nat.reduceAdd, Nat.zero_add, zzF, zzB, zzE, zz16, Option.some.injEq, exists_eq_left', exists_eq_left, Option.map_some, eq_self, reduceCtorEq, and_self, zz19, F_off46_1, F_ok3, F_ag3, F_sz3, F_zero56, F_bld56, zz7, splice, Option.getD_some, List.append_nil, zz1, zzG, zz10, F_fld56_0, F_fld56_1, F_sl51, F_sz56, zz3, newRow1, maxLen_le, Nat.reduceMul, evS_call, F_by56, zz4, zz9, Option.bind_some, evS_assign, grow, D.agg.injEq, zz6, Nat.reduceEqDiff, ↓reduceIte]
          have hm : (pcs r who cur pre).length + 1 ≤ 1000000 := by simp at hl; omega
          first | refine ⟨le_maxLen hm, by omega, ?_⟩ | refine ⟨by simp, le_maxLen hm, by omega, ?_⟩
          clear hm
          refine hK2 _ ?_; try clear hK2 K2
          refine awp_keepL [1, 2, 4, 11, 21, 22, 23] ?_
          simp only [zz20, zzI, look_nil, Nat.reduceBEq]
          refine awp_plain F_mixed [some 64, some 23] rfl ?_
          simp only [List.nil_append, List.cons_append, true_and, and_true, zz0, true_implies, Nat.reduceLT, Nat.reduceLeDiff, zzI, look_nil, Nat.reduceBEq, implies_true, zz21, gr_v, zz26, evS_move, zz6, Nat.reduceEqDiff, ↓reduceIte]
          refine ⟨post.length, _, by simp, le_SK (fun r => bif r == 11 then 63 else r) [] rfl (l' := [(1, .d (iv who)), (2, .d (iv cur)), (4, .ptr 4 0 0), (11, .ref 11 (pcs r who cur (pre ++ [x])).length), (21, .d (poss (pre ++ x :: post))), (22, .d (iv (pre ++ x :: post).length)), (23, .d (iv (pre ++ [x]).length))]) (m' := [(4, (⟨True, 26, 3, true, false, 4, [[.d (.sl 3 (r.mems.map memC)), .d (.sl 12 (r.insts.map instC)), .d (.sl 4 (r.assets.map assetC))]]⟩ : ARow)), (11, grow 56 13 11 ((pcs r who cur (pre ++ [x])).map pieceC))]) ?_ ?_ ?_ ?_, pre ++ [x], post, by simp, by simp [hp, hq], rfl, rfl⟩
          · simp only [leV, look_cons, Nat.reduceBEq, cond_true, cond_false, poss, wrap_len pre x (by simp at hl; omega)]
            refine ⟨VLe.still rfl, VLe.still rfl, VLe.ptr_ (f := (fun r => bif r == 11 then 63 else r)) (r := 4) (by simp), ?_, VLe.still rfl, VLe.still rfl, VLe.still rfl, trivial⟩
            rw [pcs_yes hs]
            rw [show (AV.ref 63 _ : AV) = .ref ((fun r => bif r == 11 then 63 else r) 11) (pcs r who cur pre ++ [pPiece r x]).length from by simp]; try exact VLe.ref_ (f := (fun r => bif r == 11 then 63 else r)) (r := 11) (by simp)
          · exact ⟨fun _ => ⟨_, rfl, RowLe.still (by simp [AV.idsL, AV.ids])⟩, fun h => by simp at h, fun _ => ⟨_, rfl, RowLe.data_ (by rw [pcs_yes hs] <;> simp [pieceC, pPiece])⟩, fun h => by simp at h, trivial⟩
          · simp [wfV, AV.ids, lookR, grow]
          · exact ⟨by simp [AV.idsL, AV.ids], wf_data _ _, trivial⟩
        · intro hb
          have hs : pSel r who cur x = false := hb
          clear hb
          refine awp_skip ?_
          simp only [zz6, Nat.reduceEqDiff, ↓reduceIte]
          refine hK2 _ ?_; try clear hK2 K2
          refine awp_keepL [1, 2, 4, 11, 21, 22, 23] ?_
          simp only [zz20, zzI, look_nil, Nat.reduceBEq]
          refine awp_plain F_mixed [some 64, some 23] rfl ?_
          simp only [List.nil_append, List.cons_append, true_and, and_true, zz0, true_implies, Nat.reduceLT, Nat.reduceLeDiff, zzI, look_nil, Nat.reduceBEq, implies_true, zz21, gr_v, zz26, evS_move, zz6, Nat.reduceEqDiff, ↓reduceIte]
          refine ⟨post.length, _, by simp, le_SK (fun r => bif r == 11 then 11 else r) [] rfl (l' := [(1, .d (iv who)), (2, .d (iv cur)), (4, .ptr 4 0 0), (11, .ref 11 (pcs r who cur (pre ++ [x])).length), (21, .d (poss (pre ++ x :: post))), (22, .d (iv (pre ++ x :: post).length)), (23, .d (iv (pre ++ [x]).length))]) (m' := [(4, (⟨True, 26, 3, true, false, 4, [[.d (.sl 3 (r.mems.map memC)), .d (.sl 12 (r.insts.map instC)), .d (.sl 4 (r.assets.map assetC))]]⟩ : ARow)), (11, grow 56 13 11 ((pcs r who cur (pre ++ [x])).map pieceC))]) ?_ ?_ ?_ ?_, pre ++ [x], post, by simp, by simp [hp, hq], rfl, rfl⟩
          · simp only [leV, look_cons, Nat.reduceBEq, cond_true, cond_false, poss, wrap_len pre x (by simp at hl; omega)]
            refine ⟨VLe.still rfl, VLe.still rfl, VLe.ptr_ (f := (fun r => bif r == 11 then 11 else r)) (r := 4) (by simp), ?_, VLe.still rfl, VLe.still rfl, VLe.still rfl, trivial⟩
            rw [pcs_no hs]
            rw [show (AV.ref 11 _ : AV) = .ref ((fun r => bif r == 11 then 11 else r) 11) (pcs r who cur pre).length from by simp]; try exact VLe.ref_ (f := (fun r => bif r == 11 then 11 else r)) (r := 11) (by simp)
          · exact ⟨fun _ => ⟨_, rfl, RowLe.still (by simp [AV.idsL, AV.ids])⟩, fun h => by simp at h, fun _ => ⟨_, rfl, RowLe.data_ (by rw [pcs_no hs] <;> simp [pieceC, pPiece])⟩, fun h => by simp at h, trivial⟩
          · simp [wfV, AV.ids, lookR, grow]
          · exact ⟨by simp [AV.idsL, AV.ids], wf_data _ _, trivial⟩
    · intro hb
      obtain rfl := none_of hb; clear hb
      simp only [List.append_nil] at hl ⊢
      refine awp_exit ?_
      simp only [zz6, Nat.reduceEqDiff, ↓reduceIte]
      refine hK0 _ ?_; try clear hK0 K0
      refine awp_keepL [11] ?_
      simp only [zz20, zzI, look_nil, Nat.reduceBEq]
      refine awp_seq fun K0 hK0 => ?_
      refine awp_plain F_mixed [some 65, some 8, some 9] rfl ?_
      simp only [List.nil_append, List.cons_append, true_and, and_true, zz0, true_implies, Nat.reduceLT, Nat.reduceLeDiff, zzI, look_nil, Nat.reduceBEq, implies_true, evS_move, evS_assign, zz6, Nat.reduceEqDiff, ↓reduceIte]
      refine hK0 _ ?_; try clear hK0 K0
      refine awp_keepL [8, 9] ?_
      simp only [zz20, zzI, look_nil, Nat.reduceBEq]
      refine awp_ret ?_
      simp only [zz6, Nat.reduceEqDiff, ↓reduceIte]
      simp only [List.append_nil]
      have e : pcsE r pre = 0 := by simp [pcsE, hr, hp]
      have e2 : pcsL r who cur pre = pcs r who cur pre := by simp [pcsL, e]
      rw [e2, e]
      refine done1 11 (by simp only [resCs, resC]; trivial) ?_ (by simp [flatA, flatAs, flatD, pieceC]) (by simp [AV.ids, AV.idsL, pieceC]) (by rfl) trivial rfl rfl ?_ (by simp [flatDs, flatD, pieceC])
      · simp only [List.map_cons, List.map_nil, resA, S_getD, Nat.reduceLT, Nat.reduceLeDiff, look_cons, Nat.reduceBEq, cond_true, cond_false, resAll]; rfl
      · rfl
def pieces (l : List PieceV) : D := .sl 13 (l.map pieceC)
theorem piecesF (r : RollV) (who cur : Int) (l : List PosV) (h : r.Small) (hl : l.length ≤ 500000) : ACalls Try.prog 18 [.agg (rollC r), iv who, iv cur, poss l] [] (.tp [.d (pieces (pcsL r who cur l)), .d (iv (pcsE r l))]) :=
  (pieces_ r who cur l h hl).freezeT (by simp [frzOk, frzOkL])
end Go.Proofs.Ytcpiojfhbebfiaa
