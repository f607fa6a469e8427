import Derived.Test.YtopifbpibkpmmaaWpD
namespace Go.Proofs.Ytopifbpibkpmmaa
open Go.RowKit
set_option linter.unusedVariables false
set_option linter.unusedSimpArgs false
theorem F_go74 : goFn Try.prog 74 := ⟨_, Try.func74, rfl, rfl⟩
theorem F_go48 : goFn Try.prog 48 := ⟨_, Try.func48, rfl, rfl⟩
set_option maxRecDepth 100000 in
set_option maxHeartbeats 4000000 in
theorem sBid_stable {cf : FuncId} {cs : List D} {c : List D → List D → Int} {Pd : List D → Prop} (h : SC Try.prog cf cs c Pd 5) (M : List (List D)) (hM : okM Pd M) (hN : M.length ≤ 1000000) (n : Nat) (hn : n = M.length) : MCalls Try.prog 48 [.m 0, .d (iv n), .d (.fn cf cs)] [⟨31, 5, M⟩] [⟨31, 5, isort (ltc c) M⟩] [] (.tp []) := by
  refine mcalls_S (rs := []) Try.func48 rfl rfl 63 [(0, .ref 1000000000 (M).length), (1, .d (iv n)), (2, .d (.fn cf cs))] [(1000000000, (⟨True, 31, 5, true, false, 1000000000, (M).map (·.map .d)⟩ : ARow))] rfl (by simp) (by rfl) (by rfl) (by rfl) (by rfl) (by rfl) ?_
  subst hn
  change AWp _ _ _ (S _ _ [(1000000000, (⟨True, 31, 5, true, false, 1000000000, aV (M)⟩ : ARow))])
  refine awp_seq fun K0 hK0 => ?_
  refine awp_plain F_mixed [some 6] rfl ?_
  simp only [List.nil_append, List.cons_append, true_and, and_true, zz0, true_implies, Nat.reduceLT, Nat.reduceLeDiff, zzI, look_nil, Nat.reduceBEq, implies_true, evS_assign, zz6, Nat.reduceEqDiff, ↓reduceIte]
  refine hK0 _ ?_; try clear hK0 K0
  refine awp_keepL [0, 1, 2, 6] ?_
  simp only [zz20, zzI, look_nil, Nat.reduceBEq]
  refine awp_seq fun K0 hK0 => ?_
  refine awp_plain F_mixed [some 10, some 7, some 8] rfl ?_
  simp only [List.nil_append, List.cons_append, true_and, and_true, zz0, true_implies, Nat.reduceLT, Nat.reduceLeDiff, zzI, look_nil, Nat.reduceBEq, implies_true, evS_move, evS_assign, zz6, Nat.reduceEqDiff, ↓reduceIte]
  refine hK0 _ ?_; try clear hK0 K0
  refine awp_keepL [0, 1, 2, 6, 7, 8] ?_
  simp only [zz20, zzI, look_nil, Nat.reduceBEq]
  refine awp_seq fun K0 hK0 => ?_
  refine awp_block ?_
  refine awp_loop (fun mm s => ∃ A B A2 : List (List D), M = A ++ B ∧ A2.length = A.length ∧ okM Pd (A2 ++ B) ∧ (∀ Y, Chk (ltc c) 20 B Y → Chk (ltc c) 20 M (A2 ++ Y)) ∧ mm = B.length ∧ s = S 63 [(0, .ref 1000000000 M.length), (1, .d (iv M.length)), (2, .d (.fn cf cs)), (6, .d (iv 20)), (7, .d (iv (A2).length)), (8, .d (iv ((A2).length + 20 : Nat)))] [(1000000000, (⟨True, 31, 5, true, false, 1000000000, aV ((A2 ++ B))⟩ : ARow))]) M.length _ (le_SK id [] rfl (l' := [(0, .ref 1000000000 M.length), (1, .d (iv M.length)), (2, .d (.fn cf cs)), (6, .d (iv 20)), (7, .d (iv (([] : List (List D))).length)), (8, .d (iv ((([] : List (List D))).length + 20 : Nat)))]) (m' := [(1000000000, (⟨True, 31, 5, true, false, 1000000000, aV ((([] : List (List D)) ++ M))⟩ : ARow))]) ?_ ?_ ?_ ?_) ⟨[], M, [], rfl, rfl, hM, fun Y h => h, rfl, rfl⟩ ?_
  · simp only [leV, look_cons, Nat.reduceBEq, cond_true, cond_false]; exact ⟨VLe.refl _, VLe.refl _, VLe.refl _, VLe.refl _, VLe.refl _, VLe.refl _, trivial⟩
  · exact ⟨fun _ => ⟨_, rfl, RowLe.same rfl (aV_ids _)⟩, fun h => by simp at h, trivial⟩
  · simp [wfV, AV.ids, lookR]
  · exact ⟨fun e he r' hr' => by rw [aV_ids _ e he] at hr'; simp at hr', trivial⟩
  rintro mm s ⟨A, B, A2, hAB, hA2, hok, hK, rfl, rfl⟩
  have hlM := congrArg List.length hAB
  simp only [List.length_append] at hlM
  refine awp_seq fun K2 hK2 => ?_
  refine awp_seq fun K3 hK3 => ?_
  refine awp_plain F_mixed [some 11, some 12, some 13] rfl ?_
  simp only [List.nil_append, List.cons_append, true_and, and_true, zz0, true_implies, Nat.reduceLT, Nat.reduceLeDiff, zzI, look_nil, Nat.reduceBEq, implies_true, evS_move, zz21, gr_v, b_leq, pure_leq, zz6, Nat.reduceEqDiff, ↓reduceIte]
  refine hK3 _ ?_; try clear hK3 K3
  refine awp_keepL [0, 1, 2, 6, 7, 8, 13] ?_
  simp only [zz20, zzI, look_nil, Nat.reduceBEq]
  refine awp_condS _ (by decide) (by simp only [look_cons, Nat.reduceBEq, cond_true, cond_false]; rfl) ?_ ?_
  · intro hb
    have hge : 20 ≤ B.length := by have := of_decide_eq_true hb; omega
    clear hb
    obtain ⟨C, B2, rfl, hC⟩ := split_at B 20 hge
    simp only [List.length_append] at hlM
    have hlC : (A2 ++ isort (ltc c) C).length = A2.length + 20 := by simp only [List.length_append, isort_len]; omega
    have hw8 : IntKind.wrap .i64 (((A2.length + 20 : Nat) : Int) + 20) = ((A2.length + 20 + 20 : Nat) : Int) := by rw [wrapI (by omega) (by omega)]; omega
    have hN2 : (A2 ++ (C ++ B2)).length ≤ 1000000 := by simp only [List.length_append]; omega
    have hl2 : (A2 ++ (C ++ B2)).length = M.length := by simp only [List.length_append]; omega
    have hof : okM Pd (A2 ++ (isort (ltc c) C ++ B2)) := by
      simp only [okM_app] at hok ⊢
      exact ⟨hok.1, okM_isort hok.2.1, hok.2.2⟩
    refine awp_skip ?_
    simp only [zz6, Nat.reduceEqDiff, ↓reduceIte]
    refine hK2 _ ?_; try clear hK2 K2
    refine awp_keepL [0, 1, 2, 6, 7, 8] ?_
    simp only [zz20, zzI, look_nil, Nat.reduceBEq]
    refine awp_block ?_
    refine awp_seq fun K2 hK2 => ?_
    refine awp_mut [some 14, some 15, some 16, some 17, some 18] rfl 4 rfl ?_
    simp only [List.nil_append, List.cons_append, true_and, and_true, zz0, true_implies, Nat.reduceLT, Nat.reduceLeDiff, zzI, look_nil, Nat.reduceBEq, implies_true, evS_move, evS_call, evC_value, aV, hl2, zzB, zz6, Nat.reduceEqDiff, ↓reduceIte]
    refine mut_go [1000000000] F_go74 (sBid_ins h A2 C B2 hok hN2 A2.length (A2.length + 20) rfl (by omega)) (by simp [AV.ids, AV.idsL]) (by decide) (by first | exact ⟨by decide, by simp⟩ | rfl) ?_
    simp only [List.nil_append, List.cons_append, true_and, and_true, zz0, true_implies, Nat.reduceLT, Nat.reduceLeDiff, zzI, look_nil, Nat.reduceBEq, implies_true, evS_move, evS_call, evC_value, aV, hl2, zzB, zz6, Nat.reduceEqDiff, ↓reduceIte, mArgs_nil, asE_cl, asF_cl, asD_ptr, asG_ptr, asD_ep, asG_ep, List.mem_singleton, forall_eq, asEc_cons, asEc_nil, mArgs_d, mArgs_m, mRows_nil, mRows_cons, mNewL, nxM, mBase, mName, oksL, List.getElem?_cons_zero, List.getElem?_cons_succ, zzF, asE_ag, asE_d, asE_ref, asEc_cons, asEc_nil, asF_d, asF_ref, asF_ag, asGs, AV.ids, AV.idsL, List.length_singleton, List.not_mem_nil, false_implies, forall_const, atsL, asD_self, asD_nil, asD_sl, asD_agg, asD_int, asD_bool, asD_func, asD_ag, asD_ref, asG_d, asG_ag, asG_ref, freeN, AV.ren, AV.renL, addRows, ORow.row, Nat.reduceMul, Nat.reduceAdd, zz9, Option.bind_some, Option.map_some, forall_eq', D.sl.injEq, zz16, Option.some.injEq, exists_eq_left', exists_eq_left, exists_eq', exists_eq, zzD, S_func, Sk_func]
    refine ⟨fun l hl2 => h.flat l (hof l hl2), ?_⟩
    refine hK2 _ ?_; try clear hK2 K2
    refine awp_keepL [0, 1, 2, 6, 8] ?_
    simp only [zz20, zzI, look_nil, Nat.reduceBEq]
    refine awp_seq fun K2 hK2 => ?_
    refine awp_plain F_mixed [some 19, some 7] rfl ?_
    simp only [List.nil_append, List.cons_append, true_and, and_true, zz0, true_implies, Nat.reduceLT, Nat.reduceLeDiff, zzI, look_nil, Nat.reduceBEq, implies_true, evS_move, evS_assign, zz6, Nat.reduceEqDiff, ↓reduceIte]
    refine hK2 _ ?_; try clear hK2 K2
    refine awp_keepL [0, 1, 2, 6, 7, 8] ?_
    simp only [zz20, zzI, look_nil, Nat.reduceBEq]
    refine awp_plain F_mixed [some 20, some 21, some 22, some 8] rfl ?_
    simp only [List.nil_append, List.cons_append, true_and, and_true, zz0, true_implies, Nat.reduceLT, Nat.reduceLeDiff, zzI, look_nil, Nat.reduceBEq, implies_true, evS_move, zz21, gr_v, zz26, evS_assign, hw8, zz6, Nat.reduceEqDiff, ↓reduceIte]
    refine ⟨B2.length, _, by simp only [List.length_append]; omega, le_SK id [] rfl (l' := [(0, .ref 1000000000 M.length), (1, .d (iv M.length)), (2, .d (.fn cf cs)), (6, .d (iv 20)), (7, .d (iv (A2 ++ isort (ltc c) C).length)), (8, .d (iv ((A2 ++ isort (ltc c) C).length + 20 : Nat)))]) (m' := [(1000000000, (⟨True, 31, 5, true, false, 1000000000, aV (((A2 ++ isort (ltc c) C) ++ B2))⟩ : ARow))]) ?_ ?_ ?_ ?_, A ++ C, B2, A2 ++ isort (ltc c) C, by rw [hAB]; simp, by simp only [List.length_append, isort_len]; omega, by simpa only [List.append_assoc] using hof, fun Y hY => by rw [List.append_assoc]; exact hK _ (.cons C B2 Y hC hY), rfl, rfl⟩
    · simp only [leV, look_cons, Nat.reduceBEq, cond_true, cond_false, hw8, hlC]; exact ⟨VLe.refl _, VLe.refl _, VLe.refl _, VLe.refl _, VLe.refl _, VLe.refl _, trivial⟩
    · exact ⟨fun _ => ⟨_, rfl, RowLe.same (by rw [List.append_assoc]; rfl) (aV_ids _)⟩, fun h => by simp at h, trivial⟩
    · simp [wfV, AV.ids, lookR]
    · exact ⟨fun e he r' hr' => by rw [ids_data e he] at hr'; simp at hr', trivial⟩
  · intro hb
    have hlt : B.length < 20 := by have := of_decide_eq_false hb; omega
    clear hb
    have hN2 : (A2 ++ (B ++ [])).length ≤ 1000000 := by simp only [List.length_append, List.append_nil]; omega
    have hl2 : (A2 ++ (B ++ [])).length = M.length := by simp only [List.length_append, List.append_nil]; omega
    have hok2 : okM Pd (A2 ++ (B ++ [])) := by simpa only [List.append_nil] using hok
    have hof : okM Pd (A2 ++ (isort (ltc c) B ++ [])) := by
      simp only [okM_app] at hok2 ⊢
      exact ⟨hok2.1, okM_isort hok2.2.1, hok2.2.2⟩
    have hck := hK _ (.last B (by omega))
    refine awp_exit ?_
    simp only [zz6, Nat.reduceEqDiff, ↓reduceIte]
    refine hK0 _ ?_; try clear hK0 K0
    refine awp_keepL [0, 1, 2, 6, 7] ?_
    simp only [zz20, zzI, look_nil, Nat.reduceBEq]
    refine awp_seq fun K0 hK0 => ?_
    rw [show aV (A2 ++ B) = List.map (fun e : List D => e.map AV.d) (A2 ++ (B ++ [])) by rw [List.append_nil]; rfl]
    refine awp_mut [some 23, some 24, some 25, some 26, some 27] rfl 4 rfl ?_
    simp only [List.nil_append, List.cons_append, true_and, and_true, zz0, true_implies, Nat.reduceLT, Nat.reduceLeDiff, zzI, look_nil, Nat.reduceBEq, implies_true, evS_move, evS_call, evC_value, hl2, zzB, zz6, Nat.reduceEqDiff, ↓reduceIte]
    refine mut_go [1000000000] F_go74 (sBid_ins h A2 B [] hok2 hN2 A2.length M.length rfl (by omega)) (by simp [AV.ids, AV.idsL]) (by decide) (by first | exact ⟨by decide, by simp⟩ | rfl) ?_
    simp only [List.nil_append, List.cons_append, true_and, and_true, zz0, true_implies, Nat.reduceLT, Nat.reduceLeDiff, zzI, look_nil, Nat.reduceBEq, implies_true, evS_move, evS_call, evC_value, hl2, zzB, zz6, Nat.reduceEqDiff, ↓reduceIte, mArgs_nil, asE_cl, asF_cl, asD_ptr, asG_ptr, asD_ep, asG_ep, List.mem_singleton, forall_eq, asEc_cons, asEc_nil, mArgs_d, mArgs_m, mRows_nil, mRows_cons, mNewL, nxM, mBase, mName, oksL, List.getElem?_cons_zero, List.getElem?_cons_succ, zzF, asE_ag, asE_d, asE_ref, asEc_cons, asEc_nil, asF_d, asF_ref, asF_ag, asGs, AV.ids, AV.idsL, List.length_singleton, List.not_mem_nil, false_implies, forall_const, atsL, asD_self, asD_nil, asD_sl, asD_agg, asD_int, asD_bool, asD_func, asD_ag, asD_ref, asG_d, asG_ag, asG_ref, freeN, AV.ren, AV.renL, addRows, ORow.row, Nat.reduceMul, Nat.reduceAdd, zz9, Option.bind_some, Option.map_some, forall_eq', D.sl.injEq, zz16, Option.some.injEq, exists_eq_left', exists_eq_left, exists_eq', exists_eq, zzD, S_func, Sk_func]
    refine ⟨fun l hl2 => h.flat l (hof l hl2), ?_⟩
    refine hK0 _ ?_; try clear hK0 K0
    refine awp_keepL [0, 1, 2, 6] ?_
    simp only [zz20, zzI, look_nil, Nat.reduceBEq]
    refine awp_block ?_
    refine awp_loop (fun mm s => ∃ (bs : Nat) (R : List (List D)), 0 < bs ∧ Chk (ltc c) bs M R ∧ mm = M.length - bs ∧ s = S 63 [(0, .ref 1000000000 M.length), (1, .d (iv M.length)), (2, .d (.fn cf cs)), (6, .d (iv bs))] [(1000000000, (⟨True, 31, 5, true, false, 1000000000, aV (R)⟩ : ARow))]) (M.length - 20) _ (le_SK id [] rfl (l' := [(0, .ref 1000000000 M.length), (1, .d (iv M.length)), (2, .d (.fn cf cs)), (6, .d (iv ((20 : Nat) : Int)))]) (m' := [(1000000000, (⟨True, 31, 5, true, false, 1000000000, aV ((A2 ++ isort (ltc c) B))⟩ : ARow))]) ?_ ?_ ?_ ?_) ⟨20, _, by omega, hck, rfl, rfl⟩ ?_
    · simp only [leV, look_cons, Nat.reduceBEq, cond_true, cond_false]; exact ⟨VLe.refl _, VLe.refl _, VLe.refl _, VLe.refl _, trivial⟩
    · exact ⟨fun _ => ⟨_, rfl, RowLe.same (by rw [List.append_nil]; rfl) (aV_ids _)⟩, fun h => by simp at h, trivial⟩
    · simp [wfV, AV.ids, lookR]
    · exact ⟨fun e he r' hr' => by rw [ids_data e he] at hr'; simp at hr', trivial⟩
    rintro mm s ⟨bs, R, hbs, hck, rfl, rfl⟩
    refine awp_seq fun K1 hK1 => ?_
    refine awp_seq fun K2 hK2 => ?_
    refine awp_plain F_mixed [some 28, some 29, some 30] rfl ?_
    simp only [List.nil_append, List.cons_append, true_and, and_true, zz0, true_implies, Nat.reduceLT, Nat.reduceLeDiff, zzI, look_nil, Nat.reduceBEq, implies_true, evS_move, zz21, gr_v, zz22, zz6, Nat.reduceEqDiff, ↓reduceIte]
    refine hK2 _ ?_; try clear hK2 K2
    refine awp_keepL [0, 1, 2, 6, 30] ?_
    simp only [zz20, zzI, look_nil, Nat.reduceBEq]
    refine awp_condS _ (by decide) (by simp only [look_cons, Nat.reduceBEq, cond_true, cond_false]; rfl) ?_ ?_
    · intro hb
      have hlt : bs < M.length := by have := of_decide_eq_true hb; omega
      clear hb
      have hw2b : IntKind.wrap .i64 (2 * (bs : Int)) = ((bs + bs : Nat) : Int) := by rw [wrapI (by omega) (by omega)]; omega
      have hw16 : IntKind.wrap .i64 ((bs : Int) * 2) = ((bs + bs : Nat) : Int) := by rw [wrapI (by omega) (by omega)]; omega
      refine awp_skip ?_
      simp only [zz6, Nat.reduceEqDiff, ↓reduceIte]
      refine hK1 _ ?_; try clear hK1 K1
      refine awp_keepL [0, 1, 2, 6] ?_
      simp only [zz20, zzI, look_nil, Nat.reduceBEq]
      refine awp_block ?_
      refine awp_seq fun K1 hK1 => ?_
      refine awp_plain F_mixed [some 31, some 32, some 7, some 8] rfl ?_
      simp only [List.nil_append, List.cons_append, true_and, and_true, zz0, true_implies, Nat.reduceLT, Nat.reduceLeDiff, zzI, look_nil, Nat.reduceBEq, implies_true, evS_move, zz21, gr_v, zz36, evS_assign, hw2b, zz6, Nat.reduceEqDiff, ↓reduceIte]
      refine hK1 _ ?_; try clear hK1 K1
      refine awp_keepL [0, 1, 2, 6, 7, 8] ?_
      simp only [zz20, zzI, look_nil, Nat.reduceBEq]
      refine awp_seq fun K1 hK1 => ?_
      refine awp_block ?_
      refine awp_loop (fun mm s => ∃ A B A2 C : List (List D), M = A ++ B ∧ A2.length = A.length ∧ okM Pd (A2 ++ C) ∧ Chk (ltc c) bs B C ∧ (∀ Y, Chk (ltc c) (bs + bs) B Y → Chk (ltc c) (bs + bs) M (A2 ++ Y)) ∧ mm = B.length ∧ s = S 63 [(0, .ref 1000000000 M.length), (1, .d (iv M.length)), (2, .d (.fn cf cs)), (6, .d (iv bs)), (7, .d (iv (A2).length)), (8, .d (iv ((A2).length + (bs + bs) : Nat)))] [(1000000000, (⟨True, 31, 5, true, false, 1000000000, aV ((A2 ++ C))⟩ : ARow))]) M.length _ (le_SK id [] rfl (l' := [(0, .ref 1000000000 M.length), (1, .d (iv M.length)), (2, .d (.fn cf cs)), (6, .d (iv bs)), (7, .d (iv (([] : List (List D))).length)), (8, .d (iv ((([] : List (List D))).length + (bs + bs) : Nat)))]) (m' := [(1000000000, (⟨True, 31, 5, true, false, 1000000000, aV ((([] : List (List D)) ++ R))⟩ : ARow))]) ?_ ?_ ?_ ?_) ⟨[], M, [], R, rfl, rfl, hck.ok hM, hck, fun Y h => h, rfl, rfl⟩ ?_
      · simp only [leV, look_cons, Nat.reduceBEq, cond_true, cond_false, List.length_nil, Nat.zero_add]; exact ⟨VLe.refl _, VLe.refl _, VLe.refl _, VLe.refl _, VLe.refl _, VLe.refl _, trivial⟩
      · exact ⟨fun _ => ⟨_, rfl, RowLe.same rfl (aV_ids _)⟩, fun h => by simp at h, trivial⟩
      · simp [wfV, AV.ids, lookR]
      · exact ⟨fun e he r' hr' => by rw [aV_ids _ e he] at hr'; simp at hr', trivial⟩
      rintro mm s ⟨A, B, A2, C, hAB, hA2, hok, hBC, hK, rfl, rfl⟩
      have hlM := congrArg List.length hAB
      simp only [List.length_append] at hlM
      have hlC := hBC.len
      refine awp_seq fun K3 hK3 => ?_
      refine awp_seq fun K4 hK4 => ?_
      refine awp_plain F_mixed [some 33, some 34, some 35] rfl ?_
      simp only [List.nil_append, List.cons_append, true_and, and_true, zz0, true_implies, Nat.reduceLT, Nat.reduceLeDiff, zzI, look_nil, Nat.reduceBEq, implies_true, evS_move, zz21, gr_v, b_leq, pure_leq, zz6, Nat.reduceEqDiff, ↓reduceIte]
      refine hK4 _ ?_; try clear hK4 K4
      refine awp_keepL [0, 1, 2, 6, 7, 8, 35] ?_
      simp only [zz20, zzI, look_nil, Nat.reduceBEq]
      refine awp_condS _ (by decide) (by simp only [look_cons, Nat.reduceBEq, cond_true, cond_false]; rfl) ?_ ?_
      · intro hb
        have hge : bs + bs ≤ B.length := by have := of_decide_eq_true hb; omega
        clear hb
        obtain ⟨c1, c2, r, Rr, rfl, rfl, hc1, hc2, hrR⟩ := hBC.two hbs hge
        simp only [List.length_append] at hlM
        have hl12 : (A2 ++ isort (ltc c) (c1 ++ c2)).length = A2.length + (bs + bs) := by simp only [List.length_append, isort_len]; omega
        have hlR := hrR.len
        have hw10 : IntKind.wrap .i64 ((A2.length : Int) + (bs : Int)) = ((A2.length + bs : Nat) : Int) := by rw [wrapI (by omega) (by omega)]; omega
        have hw12 : IntKind.wrap .i64 (((A2.length + (bs + bs) : Nat) : Int) + ((bs + bs : Nat) : Int)) = ((A2.length + (bs + bs) + (bs + bs) : Nat) : Int) := by rw [wrapI (by omega) (by omega)]; omega
        have hN2 : (A2 ++ (isort (ltc c) c1 ++ (isort (ltc c) c2 ++ Rr))).length ≤ 1000000 := by simp only [List.length_append, isort_len]; omega
        have hl2 : (A2 ++ (isort (ltc c) c1 ++ (isort (ltc c) c2 ++ Rr))).length = M.length := by simp only [List.length_append, isort_len]; omega
        have hom : okM Pd (A2 ++ (mergeS (ltc c) (isort (ltc c) c1) (isort (ltc c) c2) ++ Rr)) := okM_merge hok
        have hof : okM Pd (A2 ++ (isort (ltc c) (c1 ++ c2) ++ Rr)) := by rw [merge_isort h.swo] at hom; exact hom
        refine awp_skip ?_
        simp only [zz6, Nat.reduceEqDiff, ↓reduceIte]
        refine hK3 _ ?_; try clear hK3 K3
        refine awp_keepL [0, 1, 2, 6, 7, 8] ?_
        simp only [zz20, zzI, look_nil, Nat.reduceBEq]
        refine awp_block ?_
        refine awp_seq fun K3 hK3 => ?_
        refine awp_mut [some 36, some 37, some 38, some 39, some 40, some 41, some 42, some 43] rfl 7 rfl ?_
        simp only [List.nil_append, List.cons_append, true_and, and_true, zz0, true_implies, Nat.reduceLT, Nat.reduceLeDiff, zzI, look_nil, Nat.reduceBEq, implies_true, evS_move, zz21, gr_v, zz26, evS_call, evC_value, aV, hl2, hw10, zzB, zz6, Nat.reduceEqDiff, ↓reduceIte]
        refine mut_go [1000000000] F_go75 (sBid_sym h (bs + bs + 1) A2 (isort (ltc c) c1) (isort (ltc c) c2) Rr hok hN2 (List.length_pos_iff.1 (by rw [isort_len]; omega)) (List.length_pos_iff.1 (by rw [isort_len]; omega)) (Srt_isort h.swo _) (Srt_isort h.swo _) A2.length (A2.length + bs) (A2.length + (bs + bs)) rfl (by rw [isort_len]; omega) (by rw [isort_len, isort_len]; omega) (by rw [isort_len, isort_len]; omega)) (by simp [AV.ids, AV.idsL]) (by decide) (by first | exact ⟨by decide, by simp⟩ | rfl) ?_
        simp only [List.nil_append, List.cons_append, true_and, and_true, zz0, true_implies, Nat.reduceLT, Nat.reduceLeDiff, zzI, look_nil, Nat.reduceBEq, implies_true, evS_move, zz21, gr_v, zz26, evS_call, evC_value, aV, hl2, hw10, zzB, zz6, Nat.reduceEqDiff, ↓reduceIte, mArgs_nil, asE_cl, asF_cl, asD_ptr, asG_ptr, asD_ep, asG_ep, List.mem_singleton, forall_eq, asEc_cons, asEc_nil, mArgs_d, mArgs_m, mRows_nil, mRows_cons, mNewL, nxM, mBase, mName, oksL, List.getElem?_cons_zero, List.getElem?_cons_succ, zzF, asE_ag, asE_d, asE_ref, asEc_cons, asEc_nil, asF_d, asF_ref, asF_ag, asGs, AV.ids, AV.idsL, List.length_singleton, List.not_mem_nil, false_implies, forall_const, atsL, asD_self, asD_nil, asD_sl, asD_agg, asD_int, asD_bool, asD_func, asD_ag, asD_ref, asG_d, asG_ag, asG_ref, freeN, AV.ren, AV.renL, addRows, ORow.row, Nat.reduceMul, Nat.reduceAdd, zz9, Option.bind_some, Option.map_some, forall_eq', D.sl.injEq, zz16, Option.some.injEq, exists_eq_left', exists_eq_left, exists_eq', exists_eq, zzD, S_func, Sk_func]
        refine ⟨fun l hl2 => h.flat l (hom l hl2), ?_⟩
        refine hK3 _ ?_; try clear hK3 K3
        refine awp_keepL [0, 1, 2, 6, 8] ?_
        simp only [zz20, zzI, look_nil, Nat.reduceBEq]
        refine awp_seq fun K3 hK3 => ?_
        refine awp_plain F_mixed [some 44, some 7] rfl ?_
        simp only [List.nil_append, List.cons_append, true_and, and_true, zz0, true_implies, Nat.reduceLT, Nat.reduceLeDiff, zzI, look_nil, Nat.reduceBEq, implies_true, evS_move, evS_assign, zz6, Nat.reduceEqDiff, ↓reduceIte]
        refine hK3 _ ?_; try clear hK3 K3
        refine awp_keepL [0, 1, 2, 6, 7, 8] ?_
        simp only [zz20, zzI, look_nil, Nat.reduceBEq]
        refine awp_plain F_mixed [some 45, some 46, some 47, some 48, some 8] rfl ?_
        simp only [List.nil_append, List.cons_append, true_and, and_true, zz0, true_implies, Nat.reduceLT, Nat.reduceLeDiff, zzI, look_nil, Nat.reduceBEq, implies_true, evS_move, zz21, gr_v, zz36, zz26, evS_assign, hw2b, hw12, zz6, Nat.reduceEqDiff, ↓reduceIte]
        refine ⟨r.length, _, by simp only [List.length_append]; omega, le_SK id [] rfl (l' := [(0, .ref 1000000000 M.length), (1, .d (iv M.length)), (2, .d (.fn cf cs)), (6, .d (iv bs)), (7, .d (iv (A2 ++ isort (ltc c) (c1 ++ c2)).length)), (8, .d (iv ((A2 ++ isort (ltc c) (c1 ++ c2)).length + (bs + bs) : Nat)))]) (m' := [(1000000000, (⟨True, 31, 5, true, false, 1000000000, aV (((A2 ++ isort (ltc c) (c1 ++ c2)) ++ Rr))⟩ : ARow))]) ?_ ?_ ?_ ?_, A ++ (c1 ++ c2), r, A2 ++ isort (ltc c) (c1 ++ c2), Rr, by rw [hAB]; simp, by simp only [List.length_append, isort_len]; omega, by simpa only [List.append_assoc] using hof, hrR, fun Y hY => by rw [List.append_assoc, show c1 ++ (c2 ++ r) = (c1 ++ c2) ++ r by simp] at *; exact hK _ (.cons (c1 ++ c2) r Y (by simp only [List.length_append]; omega) hY), rfl, rfl⟩
        · simp only [leV, look_cons, Nat.reduceBEq, cond_true, cond_false, hw12, hl12]; exact ⟨VLe.refl _, VLe.refl _, VLe.refl _, VLe.refl _, VLe.refl _, VLe.refl _, trivial⟩
        · exact ⟨fun _ => ⟨_, rfl, RowLe.same (by rw [merge_isort h.swo, List.append_assoc]; rfl) (aV_ids _)⟩, fun h => by simp at h, trivial⟩
        · simp [wfV, AV.ids, lookR]
        · exact ⟨fun e he r' hr' => by rw [ids_data e he] at hr'; simp at hr', trivial⟩
      · intro hb
        have hlt2 : B.length < bs + bs := by have := of_decide_eq_false hb; omega
        clear hb
        have hw13 : IntKind.wrap .i64 ((A2.length : Int) + (bs : Int)) = ((A2.length + bs : Nat) : Int) := by rw [wrapI (by omega) (by omega)]; omega
        refine awp_exit ?_
        simp only [zz6, Nat.reduceEqDiff, ↓reduceIte]
        refine hK1 _ ?_; try clear hK1 K1
        refine awp_keepL [0, 1, 2, 6, 7] ?_
        simp only [zz20, zzI, look_nil, Nat.reduceBEq]
        refine awp_seq fun K1 hK1 => ?_
        refine awp_seq fun K2 hK2 => ?_
        refine awp_plain F_mixed [some 49, some 50, some 51, some 9] rfl ?_
        simp only [List.nil_append, List.cons_append, true_and, and_true, zz0, true_implies, Nat.reduceLT, Nat.reduceLeDiff, zzI, look_nil, Nat.reduceBEq, implies_true, evS_move, zz21, gr_v, zz26, evS_assign, hw13, zz6, Nat.reduceEqDiff, ↓reduceIte]
        refine hK2 _ ?_; try clear hK2 K2
        refine awp_keepL [0, 1, 2, 6, 7, 9] ?_
        simp only [zz20, zzI, look_nil, Nat.reduceBEq]
        refine awp_seq fun K2 hK2 => ?_
        refine awp_plain F_mixed [some 52, some 53, some 54] rfl ?_
        simp only [List.nil_append, List.cons_append, true_and, and_true, zz0, true_implies, Nat.reduceLT, Nat.reduceLeDiff, zzI, look_nil, Nat.reduceBEq, implies_true, evS_move, zz21, gr_v, zz22, zz6, Nat.reduceEqDiff, ↓reduceIte]
        refine hK2 _ ?_; try clear hK2 K2
        refine awp_keepL [0, 1, 2, 6, 7, 9, 54] ?_
        simp only [zz20, zzI, look_nil, Nat.reduceBEq]
        refine awp_condS _ (by decide) (by simp only [look_cons, Nat.reduceBEq, cond_true, cond_false]; rfl) ?_ ?_
        · intro hb
          have hgt : bs < B.length := by have := of_decide_eq_true hb; omega
          clear hb
          obtain ⟨c1, c2, rfl, rfl, hc1⟩ := hBC.half hgt hlt2
          simp only [List.length_append] at hlM hgt hlt2
          have hN2 : (A2 ++ (isort (ltc c) c1 ++ (isort (ltc c) c2 ++ []))).length ≤ 1000000 := by simp only [List.length_append, isort_len, List.length_nil]; omega
          have hl2 : (A2 ++ (isort (ltc c) c1 ++ (isort (ltc c) c2 ++ []))).length = M.length := by simp only [List.length_append, isort_len, List.length_nil]; omega
          have hok2 : okM Pd (A2 ++ (isort (ltc c) c1 ++ (isort (ltc c) c2 ++ []))) := by simpa only [List.append_nil] using hok
          have hom : okM Pd (A2 ++ (mergeS (ltc c) (isort (ltc c) c1) (isort (ltc c) c2) ++ [])) := okM_merge hok2
          have hfin := hK _ (.last (c1 ++ c2) (by simp only [List.length_append]; omega))
          rw [show aV (A2 ++ (isort (ltc c) c1 ++ isort (ltc c) c2)) = List.map (fun e : List D => e.map AV.d) (A2 ++ (isort (ltc c) c1 ++ (isort (ltc c) c2 ++ []))) by rw [List.append_nil]; rfl]
          refine awp_mut [some 55, some 56, some 57, some 58, some 59, some 60] rfl 5 rfl ?_
          simp only [List.nil_append, List.cons_append, true_and, and_true, zz0, true_implies, Nat.reduceLT, Nat.reduceLeDiff, zzI, look_nil, Nat.reduceBEq, implies_true, evS_move, evS_call, evC_value, hl2, zzB, zz6, Nat.reduceEqDiff, ↓reduceIte]
          refine mut_go [1000000000] F_go75 (sBid_sym h (bs + bs + 1) A2 (isort (ltc c) c1) (isort (ltc c) c2) [] hok2 hN2 (List.length_pos_iff.1 (by rw [isort_len]; omega)) (List.length_pos_iff.1 (by rw [isort_len]; omega)) (Srt_isort h.swo _) (Srt_isort h.swo _) A2.length (A2.length + bs) M.length rfl (by rw [isort_len]; omega) (by rw [isort_len, isort_len]; omega) (by rw [isort_len, isort_len]; omega)) (by simp [AV.ids, AV.idsL]) (by decide) (by first | exact ⟨by decide, by simp⟩ | rfl) ?_
          simp only [List.nil_append, List.cons_append, true_and, and_true, zz0, true_implies, Nat.reduceLT, Nat.reduceLeDiff, zzI, look_nil, Nat.reduceBEq, implies_true, evS_move, evS_call, evC_value, hl2, zzB, zz6, Nat.reduceEqDiff, ↓reduceIte, mArgs_nil, asE_cl, asF_cl, asD_ptr, asG_ptr, asD_ep, asG_ep, List.mem_singleton, forall_eq, asEc_cons, asEc_nil, mArgs_d, mArgs_m, mRows_nil, mRows_cons, mNewL, nxM, mBase, mName, oksL, List.getElem?_cons_zero, List.getElem?_cons_succ, zzF, asE_ag, asE_d, asE_ref, asEc_cons, asEc_nil, asF_d, asF_ref, asF_ag, asGs, AV.ids, AV.idsL, List.length_singleton, List.not_mem_nil, false_implies, forall_const, atsL, asD_self, asD_nil, asD_sl, asD_agg, asD_int, asD_bool, asD_func, asD_ag, asD_ref, asG_d, asG_ag, asG_ref, freeN, AV.ren, AV.renL, addRows, ORow.row, Nat.reduceMul, Nat.reduceAdd, zz9, Option.bind_some, Option.map_some, forall_eq', D.sl.injEq, zz16, Option.some.injEq, exists_eq_left', exists_eq_left, exists_eq', exists_eq, zzD, S_func, Sk_func]
          refine ⟨fun l hl2 => h.flat l (hom l hl2), ?_⟩
          refine hK1 _ ?_; try clear hK1 K1
          refine awp_keepL [0, 1, 2, 6] ?_
          simp only [zz20, zzI, look_nil, Nat.reduceBEq]
          refine awp_plain F_mixed [some 61, some 62, some 6] rfl ?_
          simp only [List.nil_append, List.cons_append, true_and, and_true, zz0, true_implies, Nat.reduceLT, Nat.reduceLeDiff, zzI, look_nil, Nat.reduceBEq, implies_true, evS_move, zz21, gr_v, zz36, evS_assign, hw16, zz6, Nat.reduceEqDiff, ↓reduceIte]
          refine ⟨M.length - (bs + bs), _, by omega, le_SK id [] rfl (l' := [(0, .ref 1000000000 M.length), (1, .d (iv M.length)), (2, .d (.fn cf cs)), (6, .d (iv (bs + bs : Nat)))]) (m' := [(1000000000, (⟨True, 31, 5, true, false, 1000000000, aV ((A2 ++ isort (ltc c) (c1 ++ c2)))⟩ : ARow))]) ?_ ?_ ?_ ?_, bs + bs, _, by omega, hfin, rfl, rfl⟩
          · simp only [leV, look_cons, Nat.reduceBEq, cond_true, cond_false, hw16]; exact ⟨VLe.refl _, VLe.refl _, VLe.refl _, VLe.refl _, trivial⟩
          · exact ⟨fun _ => ⟨_, rfl, RowLe.same (by rw [merge_isort h.swo, List.append_nil]; rfl) (aV_ids _)⟩, fun h => by simp at h, trivial⟩
          · simp [wfV, AV.ids, lookR]
          · exact ⟨fun e he r' hr' => by rw [ids_data e he] at hr'; simp at hr', trivial⟩
        · intro hb
          have hle : B.length ≤ bs := by have := of_decide_eq_false hb; omega
          clear hb
          obtain rfl := hBC.fin hle
          have hfin := hK _ (.last B (by omega))
          refine awp_skip ?_
          simp only [zz6, Nat.reduceEqDiff, ↓reduceIte]
          refine hK1 _ ?_; try clear hK1 K1
          refine awp_keepL [0, 1, 2, 6] ?_
          simp only [zz20, zzI, look_nil, Nat.reduceBEq]
          refine awp_plain F_mixed [some 61, some 62, some 6] rfl ?_
          simp only [List.nil_append, List.cons_append, true_and, and_true, zz0, true_implies, Nat.reduceLT, Nat.reduceLeDiff, zzI, look_nil, Nat.reduceBEq, implies_true, evS_move, zz21, gr_v, zz36, evS_assign, hw16, zz6, Nat.reduceEqDiff, ↓reduceIte]
          refine ⟨M.length - (bs + bs), _, by omega, le_SK id [] rfl (l' := [(0, .ref 1000000000 M.length), (1, .d (iv M.length)), (2, .d (.fn cf cs)), (6, .d (iv (bs + bs : Nat)))]) (m' := [(1000000000, (⟨True, 31, 5, true, false, 1000000000, aV ((A2 ++ isort (ltc c) B))⟩ : ARow))]) ?_ ?_ ?_ ?_, bs + bs, _, by omega, hfin, rfl, rfl⟩
          · simp only [leV, look_cons, Nat.reduceBEq, cond_true, cond_false, hw16]; exact ⟨VLe.refl _, VLe.refl _, VLe.refl _, VLe.refl _, trivial⟩
          · exact ⟨fun _ => ⟨_, rfl, RowLe.same rfl (aV_ids _)⟩, fun h => by simp at h, trivial⟩
          · simp [wfV, AV.ids, lookR]
          · exact ⟨fun e he r' hr' => by rw [aV_ids _ e he] at hr'; simp at hr', trivial⟩
    · intro hb
      have hge : M.length ≤ bs := by have := of_decide_eq_false hb; omega
      clear hb
      obtain rfl := hck.fin hge
      have hfl : ∀ l, l ∈ isort (ltc c) M → flatDs l := fun l hl2 => h.flat l (okM_isort hM l hl2)
      refine awp_exit ?_
      simp only [zz6, Nat.reduceEqDiff, ↓reduceIte]
      refine doneM [] (by simp [resCs, resC, S, List.getD, look_cons, lookR, ]) ?_ (by simp [flatA, flatAs, flatD, ]) (by simp [AV.ids, AV.idsL, ]) (by decide) (by simp) ?_ ?_
      · simp only [List.map_cons, List.map_nil, resA, S_getD, S_mem, lookR_cons, lookR_nil, Nat.reduceLT, Nat.reduceLeDiff, look_cons, Nat.reduceBEq, cond_true, cond_false, resAll, List.getD_cons_zero, List.getD_cons_succ, List.drop_zero, List.drop_succ_cons, List.take_succ_cons, List.take_zero, ]; rfl
      · exact trivial
      · exact ⟨⟨_, rfl, trivial, rfl, rfl, rfl⟩, hfl, trivial⟩
theorem sBid_sort {cf : FuncId} {cs : List D} {c : List D → List D → Int} {Pd : List D → Prop} (h : SC Try.prog cf cs c Pd 5) (M : List (List D)) (hM : okM Pd M) (hN : M.length ≤ 1000000) : MCalls Try.prog 28 [.m 0, .d (.fn cf cs)] [⟨31, 5, M⟩] [⟨31, 5, isort (ltc c) M⟩] [] (.tp []) := by
  refine mcalls_S (rs := []) Try.func28 rfl rfl 9 [(0, .ref 1000000000 (M).length), (1, .d (.fn cf cs))] [(1000000000, (⟨True, 31, 5, true, false, 1000000000, (M).map (·.map .d)⟩ : ARow))] rfl (by simp) (by rfl) (by rfl) (by rfl) (by rfl) (by rfl) ?_
  refine awp_mut [some 4, some 5, some 6, some 7, some 8] rfl 4 rfl ?_
  simp only [List.nil_append, List.cons_append, true_and, and_true, zz0, true_implies, Nat.reduceLT, Nat.reduceLeDiff, zzI, look_nil, Nat.reduceBEq, implies_true, evS_move, evS_call, zz12, F_sl22, Option.isSome_some, evC_value, len_map, zzB, zz6, Nat.reduceEqDiff, ↓reduceIte]
  refine mut_go [1000000000] F_go48 (sBid_stable h M hM hN M.length rfl) (by simp [AV.ids, AV.idsL]) (by decide) (by first | exact ⟨by decide, by simp⟩ | rfl) ?_
  simp only [List.nil_append, List.cons_append, true_and, and_true, zz0, true_implies, Nat.reduceLT, Nat.reduceLeDiff, zzI, look_nil, Nat.reduceBEq, implies_true, evS_move, evS_call, zz12, F_sl22, Option.isSome_some, evC_value, len_map, zzB, zz6, Nat.reduceEqDiff, ↓reduceIte, mArgs_nil, asE_cl, asF_cl, asD_ptr, asG_ptr, asD_ep, asG_ep, List.mem_singleton, forall_eq, asEc_cons, asEc_nil, mArgs_d, mArgs_m, mRows_nil, mRows_cons, mNewL, nxM, mBase, mName, oksL, List.getElem?_cons_zero, List.getElem?_cons_succ, zzF, asE_ag, asE_d, asE_ref, asEc_cons, asEc_nil, asF_d, asF_ref, asF_ag, asGs, AV.ids, AV.idsL, List.length_singleton, List.not_mem_nil, false_implies, forall_const, atsL, asD_self, asD_nil, asD_sl, asD_agg, asD_int, asD_bool, asD_func, asD_ag, asD_ref, asG_d, asG_ag, asG_ref, freeN, AV.ren, AV.renL, addRows, ORow.row, Nat.reduceMul, Nat.reduceAdd, zz9, Option.bind_some, Option.map_some, forall_eq', D.sl.injEq, zz16, Option.some.injEq, exists_eq_left', exists_eq_left, exists_eq', exists_eq, zzD, S_func, Sk_func]
  refine ⟨fun l hl2 => h.flat l (okM_isort hM l hl2), ?_⟩
  have hfl : ∀ l, l ∈ isort (ltc c) M → flatDs l := fun l hl2 => h.flat l (okM_isort hM l hl2)
  refine doneM [] (by simp [resCs, resC, S, List.getD, look_cons, lookR, ]) ?_ (by simp [flatA, flatAs, flatD, ]) (by simp [AV.ids, AV.idsL, ]) (by decide) (by simp) ?_ ?_
  · simp only [List.map_cons, List.map_nil, resA, S_getD, S_mem, lookR_cons, lookR_nil, Nat.reduceLT, Nat.reduceLeDiff, look_cons, Nat.reduceBEq, cond_true, cond_false, resAll, List.getD_cons_zero, List.getD_cons_succ, List.drop_zero, List.drop_succ_cons, List.take_succ_cons, List.take_zero, ]; rfl
  · exact trivial
  · exact ⟨⟨_, rfl, trivial, rfl, rfl, rfl⟩, hfl, trivial⟩
end Go.Proofs.Ytopifbpibkpmmaa
