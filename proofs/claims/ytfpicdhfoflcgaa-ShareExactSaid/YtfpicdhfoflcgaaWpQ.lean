import Derived.Test.YtfpicdhfoflcgaaWpP
namespace Go.Proofs.Ytfpicdhfoflcgaa
open Go.RowKit
set_option linter.unusedVariables false
set_option linter.unusedSimpArgs false
theorem F_go18 : goFn Try.prog 18 := ⟨_, Try.func18, rfl, rfl⟩
theorem F_go20 : goFn Try.prog 20 := ⟨_, Try.func20, rfl, rfl⟩
theorem F_go21 : goFn Try.prog 21 := ⟨_, Try.func21, rfl, rfl⟩
theorem F_go22 : goFn Try.prog 22 := ⟨_, Try.func22, rfl, rfl⟩
theorem F_go23 : goFn Try.prog 23 := ⟨_, Try.func23, rfl, rfl⟩
theorem rSplitF (t : Int) (l : List Int) (hl : l.length ≤ 1000000) : ACalls Try.prog 20 [iv t, ints l] [] (.tp [.d (ints (splitV t l)), .d (iv (splitE t l))]) :=
  (rSplit_ t l hl).freezeT (by simp [frzOk, frzOkL])
theorem rGreedyF (t : Int) (l : List Int) (hl : l.length ≤ 1000000) : ACalls Try.prog 23 [iv t, ints l] [] (.tp [.d (ints (gV t l)), .d (iv (gR t l)), .d (iv (sRE t l))]) :=
  (rGreedy_ t l hl).freezeT (by simp [frzOk, frzOkL])
theorem spoilInts0_ (l : List Int) (hl : l.length ≤ 1000000) : MCalls Try.prog 21 [.m 0] [⟨3, 1, l.map oneI⟩] [⟨3, 1, (l.map spoilI).map oneI⟩] [] (.tp []) := by
  refine mcalls_S (rs := []) Try.func21 rfl rfl 12 [(0, .ref 1000000000 (l.map oneI).length)] [(1000000000, (⟨True, 3, 1, true, false, 1000000000, (l.map oneI).map (·.map .d)⟩ : ARow))] rfl (by simp) (by rfl) (by rfl) (by rfl) (by rfl) (by rfl) ?_
  simp only [avC_map, len_map]
  refine awp_seq fun K0 hK0 => ?_
  refine awp_plain F_mixed [some 2] rfl ?_
  simp only [List.nil_append, List.cons_append, true_and, and_true, zz0, true_implies, Nat.reduceLT, Nat.reduceLeDiff, zzI, look_nil, Nat.reduceBEq, implies_true, evS_assign, zz6, Nat.reduceEqDiff, ↓reduceIte]
  refine hK0 _ ?_; try clear hK0 K0
  refine awp_keepL [0, 2] ?_
  simp only [zz20, zzI, look_nil, Nat.reduceBEq]
  refine awp_block ?_
  refine awp_loop (fun m s => ∃ A pre post : List Int, l = pre ++ post ∧ A = pre.map spoilI ∧ m = post.length ∧ s = S 12 [(0, .ref 1000000000 (A ++ post).length), (2, .d (iv A.length))] [(1000000000, (⟨True, 3, 1, true, false, 1000000000, (A ++ post).map (avC oneI)⟩ : ARow))]) l.length _ (le_SK id [] rfl (l' := [(0, .ref 1000000000 (([] : List Int) ++ l).length), (2, .d (iv ([] : List Int).length))]) (m' := [(1000000000, (⟨True, 3, 1, true, false, 1000000000, (([] : List Int) ++ l).map (avC oneI)⟩ : ARow))]) ?_ ?_ ?_ ?_) ⟨[], [], l, rfl, rfl, rfl, rfl⟩ ?_
  · simp only [leV, look_cons, Nat.reduceBEq, cond_true, cond_false]; exact ⟨VLe.refl _, VLe.refl _, trivial⟩
  · exact ⟨fun _ => ⟨_, rfl, RowLe.same (by simp) (idsL_avC _ _)⟩, fun h => by simp at h, trivial⟩
  · simp [wfV, AV.ids, lookR]
  · exact ⟨fun e he r' hr' => by rw [idsL_avC _ _ e he] at hr'; simp at hr', trivial⟩
  rintro m s ⟨A, pre, post, hsp, hA, rfl, rfl⟩
  refine awp_seq fun K1 hK1 => ?_
  refine awp_seq fun K2 hK2 => ?_
  refine awp_plain F_mixed [some 3, some 4, some 5, some 6] rfl ?_
  simp only [List.nil_append, List.cons_append, true_and, and_true, zz0, true_implies, Nat.reduceLT, Nat.reduceLeDiff, zzI, look_nil, Nat.reduceBEq, implies_true, evS_move, evS_call, zz12, F_sl22, Option.isSome_some, zz21, gr_v, zz22, zz6, Nat.reduceEqDiff, ↓reduceIte]
  refine hK2 _ ?_; try clear hK2 K2
  refine awp_keepL [0, 2, 6] ?_
  simp only [zz20, zzI, look_nil, Nat.reduceBEq]
  refine awp_condS _ (by decide) (by simp only [look_cons, Nat.reduceBEq, cond_true, cond_false]; rfl) ?_ ?_
  · intro hb
    obtain ⟨x, post, rfl⟩ := more_of hb; clear hb
    have hw : IntKind.wrap .i64 ((A.length : Int) + 1) = ((A ++ [spoilI x]).length : Int) := by
      have e := congrArg List.length hsp
      simp only [List.length_append, List.length_cons] at e
      have e2 : A.length = pre.length := by rw [hA]; simp
      rw [wrapI (by omega) (by omega)]; simp
    refine awp_skip ?_
    simp only [zz6, Nat.reduceEqDiff, ↓reduceIte]
    refine hK1 _ ?_; try clear hK1 K1
    refine awp_keepL [0, 2] ?_
    simp only [zz20, zzI, look_nil, Nat.reduceBEq]
    refine awp_seq fun K1 hK1 => ?_
    refine awp_block ?_
    refine awp_plain F_mixed [some 9, some 10, some 11, none] rfl ?_
    simp only [List.nil_append, List.cons_append, true_and, and_true, zz0, true_implies, Nat.reduceLT, Nat.reduceLeDiff, zzI, look_nil, Nat.reduceBEq, implies_true, evS_move, evS_indexAddr, zz23, zz24, F_sl22, F_sz3, Option.map_some, zz16, Option.some.injEq, exists_eq_left', exists_eq_left, eq_self, reduceCtorEq, and_self, zz18, F_ok3, splice, List.append_nil, zzD, Nat.reduceAdd, Nat.zero_add, zzF, zzB, zzE, zz1, zzG, getD_mid, len_map, lt_mid, ge_mid, lt_midN, set_mid, avC, oneI, List.map_cons, zz6, Nat.reduceEqDiff, ↓reduceIte]
    refine hK1 _ ?_; try clear hK1 K1
    refine awp_keepL [0, 2] ?_
    simp only [zz20, zzI, look_nil, Nat.reduceBEq]
    refine awp_plain F_mixed [some 7, some 8, some 2] rfl ?_
    simp only [List.nil_append, List.cons_append, true_and, and_true, zz0, true_implies, Nat.reduceLT, Nat.reduceLeDiff, zzI, look_nil, Nat.reduceBEq, implies_true, evS_move, zz21, gr_v, zz26, evS_assign, zz6, Nat.reduceEqDiff, ↓reduceIte]
    refine ⟨post.length, _, by simp, le_SK id [] rfl (l' := [(0, .ref 1000000000 ((A ++ [spoilI x]) ++ post).length), (2, .d (iv (A ++ [spoilI x]).length))]) (m' := [(1000000000, (⟨True, 3, 1, true, false, 1000000000, ((A ++ [spoilI x]) ++ post).map (avC oneI)⟩ : ARow))]) ?_ ?_ ?_ ?_, A ++ [spoilI x], pre ++ [x], post, by simp [hsp], by simp [hA], rfl, rfl⟩
    · simp only [leV, look_cons, Nat.reduceBEq, cond_true, cond_false, hw]
      refine ⟨?_, VLe.refl _, trivial⟩
      rw [show (A ++ x :: post).length = (A ++ [spoilI x] ++ post).length from by simp]; exact VLe.refl _
    · exact ⟨fun _ => ⟨_, rfl, RowLe.same (by simp [avC, oneI, spoilI]) (by
        intro e he
        rcases List.mem_append.1 he with he | he
        · exact idsL_avC _ _ e he
        · rcases List.mem_cons.1 he with rfl | he
          · simp [AV.idsL, AV.ids]
          · exact idsL_avC _ _ e he)⟩, fun h => by simp at h, trivial⟩
    · simp [wfV, AV.ids, lookR]
    · exact ⟨fun e he r' hr' => by rw [idsL_avC _ _ e he] at hr'; simp at hr', trivial⟩
  · intro hb
    obtain rfl := none_of hb; clear hb
    simp only [List.append_nil] at hsp ⊢
    obtain rfl : l = pre := hsp
    subst hA
    refine awp_exit ?_
    simp only [zz6, Nat.reduceEqDiff, ↓reduceIte]
    try simp only [List.append_nil]
    refine doneM [] (by simp [resCs, resC, S, List.getD, look_cons, lookR, ]) ?_ (by simp [flatA, flatAs, flatD, ]) (by simp [AV.ids, AV.idsL, ]) (by decide) (by simp) ?_ ?_
    · simp only [List.map_cons, List.map_nil, resA, S_getD, S_mem, lookR_cons, lookR_nil, Nat.reduceLT, Nat.reduceLeDiff, look_cons, Nat.reduceBEq, cond_true, cond_false, resAll, List.getD_cons_zero, List.getD_cons_succ, List.drop_zero, List.drop_succ_cons, List.take_succ_cons, List.take_zero, ]; rfl
    · exact trivial
    · exact ⟨⟨_, rfl, trivial, rfl, rfl, (avC_map _ _).symm⟩, by simp [flatDs, flatD, oneI, spoilI], trivial⟩
theorem spoilInts_ (l : List Int) (hl : l.length ≤ 1000000) : MCalls Try.prog 21 [.m 0] [⟨3, 1, l.map fun n => [iv n]⟩] [⟨3, 1, (l.map spoilI).map fun n => [iv n]⟩] [] (.tp []) := spoilInts0_ l hl
set_option maxRecDepth 100000 in
set_option maxHeartbeats 4000000 in
theorem shareExact_ (t : Int) (l : List Int) : ACalls Try.prog 6 [iv t, ints l] [] (bv true) := by
  refine acalls_S (rs := [.tmp 4]) Try.func6 rfl rfl 81 [(0, .d (iv t)), (1, .d (ints l))] rfl (by simp) rfl ?_
  refine awp_seq fun K0 hK0 => ?_
  refine awp_plain F_mixed [some 4] rfl ?_
  simp only [List.nil_append, List.cons_append, true_and, and_true, zz0, true_implies, Nat.reduceLT, Nat.reduceLeDiff, zzI, look_nil, Nat.reduceBEq, implies_true, evS_assign, zz6, Nat.reduceEqDiff, ↓reduceIte]
  refine hK0 _ ?_; try clear hK0 K0
  refine awp_keepL [0, 1] ?_
  simp only [zz20, zzI, look_nil, Nat.reduceBEq]
  refine awp_seq fun K0 hK0 => ?_
  refine awp_seq fun K1 hK1 => ?_
  refine awp_plain F_mixed [some 13, some 14, some 15] rfl ?_
  simp only [List.nil_append, List.cons_append, true_and, and_true, zz0, true_implies, Nat.reduceLT, Nat.reduceLeDiff, zzI, look_nil, Nat.reduceBEq, implies_true, evS_move, evS_call, zz12, F_sl22, Option.isSome_some, zz21, gr_v, zz25, ints, len_map, zz6, Nat.reduceEqDiff, ↓reduceIte]
  refine hK1 _ ?_; try clear hK1 K1
  refine awp_keepL [0, 1, 15] ?_
  simp only [zz20, zzI, look_nil, Nat.reduceBEq]
  refine awp_condS _ (by decide) (by simp only [look_cons, Nat.reduceBEq, cond_true, cond_false]; rfl) ?_ ?_
  · intro hb
    clear hb
    refine awp_seq fun K2 hK2 => ?_
    refine awp_plain F_mixed [some 4] rfl ?_
    simp only [List.nil_append, List.cons_append, true_and, and_true, zz0, true_implies, Nat.reduceLT, Nat.reduceLeDiff, zzI, look_nil, Nat.reduceBEq, implies_true, evS_assign, zz6, Nat.reduceEqDiff, ↓reduceIte]
    refine hK2 _ ?_; try clear hK2 K2
    refine awp_keepL [4] ?_
    simp only [zz20, zzI, look_nil, Nat.reduceBEq]
    refine awp_ret ?_
    simp only [zz6, Nat.reduceEqDiff, ↓reduceIte]
    refine done0 (by simp only [resCs, resC]; trivial) ?_ (by simp [flatA, flatAs, flatD]) (by simp [AV.ids, AV.idsL])
    simp only [List.map_cons, List.map_nil, resA, S_getD, Nat.reduceLT, Nat.reduceLeDiff, look_cons, Nat.reduceBEq, cond_true, cond_false, resAll]
    
  · intro hb
    have hl2 : l.length ≤ 2000 := by have := of_decide_eq_false hb; omega
    clear hb
    have hvl := splitV_len t l
    have hgl := gV_len t l
    refine awp_skip ?_
    simp only [zz6, Nat.reduceEqDiff, ↓reduceIte]
    refine hK0 _ ?_; try clear hK0 K0
    refine awp_keepL [0, 1] ?_
    simp only [zz20, zzI, look_nil, Nat.reduceBEq]
    refine awp_seq fun K0 hK0 => ?_
    refine awp_plain F_mixed [some 16, some 17, some 5] rfl ?_
    simp only [List.nil_append, List.cons_append, true_and, and_true, zz0, true_implies, Nat.reduceLT, Nat.reduceLeDiff, zzI, look_nil, Nat.reduceBEq, implies_true, evS_move, evS_call, evC_value, evS_assign, ints, zz6, Nat.reduceEqDiff, ↓reduceIte]
    refine call_go F_go18 (fun hG => twinIntsF l (by omega)) (by simp [AV.ids, AV.idsL]) (by simp) ?_
    simp only [List.nil_append, List.cons_append, true_and, and_true, zz0, true_implies, Nat.reduceLT, Nat.reduceLeDiff, zzI, look_nil, Nat.reduceBEq, implies_true, evS_move, evS_call, evC_value, evS_assign, ints, zz6, Nat.reduceEqDiff, ↓reduceIte, atsL, oksG, freeN, AV.ren, AV.renL, addRows, ORow.row, Nat.reduceMul, Nat.reduceAdd, zz9, Option.bind_some, Option.map_some, forall_eq', D.sl.injEq, zz16, Option.some.injEq, exists_eq_left', exists_eq_left, exists_eq', exists_eq, zzD, zz2]
    refine hK0 _ ?_; try clear hK0 K0
    refine awp_keepL [0, 1, 5] ?_
    simp only [zz20, zzI, look_nil, Nat.reduceBEq]
    refine awp_seq fun K0 hK0 => ?_
    refine awp_plain F_mixed [some 19, some 20, some 21, some 18, some 22, some 23, some 6, some 7] rfl ?_
    simp only [List.nil_append, List.cons_append, true_and, and_true, zz0, true_implies, Nat.reduceLT, Nat.reduceLeDiff, zzI, look_nil, Nat.reduceBEq, implies_true, evS_move, evS_call, evC_value, zz14, zzD, Nat.reduceAdd, Nat.zero_add, zzF, evS_assign, ints, zz6, Nat.reduceEqDiff, ↓reduceIte]
    refine call_go F_go11 (fun hG => split_ t l (by omega)) (by simp [AV.ids, AV.idsL]) (by simp) ?_
    simp only [List.nil_append, List.cons_append, true_and, and_true, zz0, true_implies, Nat.reduceLT, Nat.reduceLeDiff, zzI, look_nil, Nat.reduceBEq, implies_true, evS_move, evS_call, evC_value, zz14, zzD, Nat.reduceAdd, Nat.zero_add, zzF, evS_assign, ints, zz6, Nat.reduceEqDiff, ↓reduceIte, atsL, oksG, freeN, AV.ren, AV.renL, addRows, ORow.row, Nat.reduceMul, Nat.reduceAdd, zz9, Option.bind_some, Option.map_some, forall_eq', D.sl.injEq, zz16, Option.some.injEq, exists_eq_left', exists_eq_left, exists_eq', exists_eq, List.length_cons, zz2]
    refine hK0 _ ?_; try clear hK0 K0
    refine awp_keepL [0, 1, 5, 6, 7] ?_
    simp only [zz20, zzI, look_nil, Nat.reduceBEq]
    refine awp_seq fun K0 hK0 => ?_
    refine awp_plain F_mixed [some 25, some 26, some 27, some 24, some 28, some 29, some 8, some 9] rfl ?_
    simp only [List.nil_append, List.cons_append, true_and, and_true, zz0, true_implies, Nat.reduceLT, Nat.reduceLeDiff, zzI, look_nil, Nat.reduceBEq, implies_true, evS_move, evS_call, evC_value, zz14, zzD, Nat.reduceAdd, Nat.zero_add, zzF, evS_assign, ints, zz6, Nat.reduceEqDiff, ↓reduceIte]
    refine call_go F_go20 (fun hG => rSplitF t l (by omega)) (by simp [AV.ids, AV.idsL]) (by simp) ?_
    simp only [List.nil_append, List.cons_append, true_and, and_true, zz0, true_implies, Nat.reduceLT, Nat.reduceLeDiff, zzI, look_nil, Nat.reduceBEq, implies_true, evS_move, evS_call, evC_value, zz14, zzD, Nat.reduceAdd, Nat.zero_add, zzF, evS_assign, ints, zz6, Nat.reduceEqDiff, ↓reduceIte, atsL, oksG, freeN, AV.ren, AV.renL, addRows, ORow.row, Nat.reduceMul, Nat.reduceAdd, zz9, Option.bind_some, Option.map_some, forall_eq', D.sl.injEq, zz16, Option.some.injEq, exists_eq_left', exists_eq_left, exists_eq', exists_eq, List.length_cons, zz2]
    refine hK0 _ ?_; try clear hK0 K0
    refine awp_keepL [0, 1, 5, 6, 7, 8, 9] ?_
    simp only [zz20, zzI, look_nil, Nat.reduceBEq]
    refine awp_seq fun K0 hK0 => ?_
    refine awp_plain F_mixed [some 30, some 31, some 32, some 33, some 34, some 35, some 36, some 37, some 10] rfl ?_
    simp only [List.nil_append, List.cons_append, true_and, and_true, zz0, true_implies, Nat.reduceLT, Nat.reduceLeDiff, zzI, look_nil, Nat.reduceBEq, implies_true, Nat.reduceSub, S_getD, zz5, and_imp, imp_and, imp_self, and_self, evS_move, evS_call, evC_value, zz21, gr_v, zz34, zz13, pickK_l, pickK_r, evS_assign, ints, len_map, zz6, Nat.reduceEqDiff, ↓reduceIte]
    refine call_go F_go19 (fun hG => kInts_ (splitV t l) (by omega)) (by simp [AV.ids, AV.idsL]) (by simp) ?_
    simp only [List.nil_append, List.cons_append, true_and, and_true, zz0, true_implies, Nat.reduceLT, Nat.reduceLeDiff, zzI, look_nil, Nat.reduceBEq, implies_true, Nat.reduceSub, S_getD, zz5, and_imp, imp_and, imp_self, and_self, evS_move, evS_call, evC_value, zz21, gr_v, zz34, zz13, pickK_l, pickK_r, evS_assign, ints, len_map, zz6, Nat.reduceEqDiff, ↓reduceIte, atsL, oksG, freeN, AV.ren, AV.renL, addRows, ORow.row, Nat.reduceMul, Nat.reduceAdd, zz9, Option.bind_some, Option.map_some, forall_eq', D.sl.injEq, zz16, Option.some.injEq, exists_eq_left', exists_eq_left, exists_eq', exists_eq, zzD, zz2]
    refine hK0 _ ?_; try clear hK0 K0
    refine awp_keepL [0, 1, 5, 6, 10] ?_
    simp only [zz20, zzI, look_nil, Nat.reduceBEq]
    refine awp_seq fun K0 hK0 => ?_
    refine awp_mut [some 38, some 39] rfl 1 rfl ?_
    simp only [List.nil_append, List.cons_append, true_and, and_true, zz0, true_implies, Nat.reduceLT, Nat.reduceLeDiff, zzI, look_nil, Nat.reduceBEq, implies_true, evS_move, evS_call, evC_value, len_map, zzB, zz6, Nat.reduceEqDiff, ↓reduceIte]
    refine mut_go [22000] F_go21 (spoilInts_ (splitV t l) (by omega)) (by simp [AV.ids, AV.idsL]) (by decide) (by first | exact ⟨by decide, by simp⟩ | rfl) ?_
    simp only [List.nil_append, List.cons_append, true_and, and_true, zz0, true_implies, Nat.reduceLT, Nat.reduceLeDiff, zzI, look_nil, Nat.reduceBEq, implies_true, evS_move, evS_call, evC_value, len_map, zzB, zz6, Nat.reduceEqDiff, ↓reduceIte, mArgs_nil, asE_cl, asF_cl, asD_ptr, asG_ptr, asD_ep, asG_ep, List.mem_singleton, forall_eq, asEc_cons, asEc_nil, mArgs_d, mArgs_m, mRows_nil, mRows_cons, mNewL, nxM, mBase, mName, oksL, List.getElem?_cons_zero, List.getElem?_cons_succ, zzF, asE_ag, asE_d, asE_ref, asEc_cons, asEc_nil, asF_d, asF_ref, asF_ag, asGs, AV.ids, AV.idsL, List.length_singleton, List.not_mem_nil, false_implies, forall_const, atsL, asD_self, asD_nil, asD_sl, asD_agg, asD_int, asD_bool, asD_func, asD_ag, asD_ref, asG_d, asG_ag, asG_ref, freeN, AV.ren, AV.renL, addRows, ORow.row, Nat.reduceMul, Nat.reduceAdd, zz9, Option.bind_some, Option.map_some, forall_eq', D.sl.injEq, zz16, Option.some.injEq, exists_eq_left', exists_eq_left, exists_eq', exists_eq, zzD, S_func, Sk_func]
    refine ⟨by simp [flatDs, flatD], ?_⟩
    refine hK0 _ ?_; try clear hK0 K0
    refine awp_keepL [0, 1, 5, 10] ?_
    simp only [zz20, zzI, look_nil, Nat.reduceBEq]
    refine awp_seq fun K0 hK0 => ?_
    refine awp_plain F_mixed [some 41, some 42, some 43, some 40, some 44, some 45, some 46, some 6, some 11, some 7] rfl ?_
    simp only [List.nil_append, List.cons_append, true_and, and_true, zz0, true_implies, Nat.reduceLT, Nat.reduceLeDiff, zzI, look_nil, Nat.reduceBEq, implies_true, evS_move, evS_call, evC_value, zz14, zzD, Nat.reduceAdd, Nat.zero_add, zzF, evS_assign, ints, zz6, Nat.reduceEqDiff, ↓reduceIte]
    refine call_go F_go22 (fun hG => greedy_ t l (by omega)) (by simp [AV.ids, AV.idsL]) (by simp) ?_
    simp only [List.nil_append, List.cons_append, true_and, and_true, zz0, true_implies, Nat.reduceLT, Nat.reduceLeDiff, zzI, look_nil, Nat.reduceBEq, implies_true, evS_move, evS_call, evC_value, zz14, zzD, Nat.reduceAdd, Nat.zero_add, zzF, evS_assign, ints, zz6, Nat.reduceEqDiff, ↓reduceIte, atsL, oksG, freeN, AV.ren, AV.renL, addRows, ORow.row, Nat.reduceMul, Nat.reduceAdd, zz9, Option.bind_some, Option.map_some, forall_eq', D.sl.injEq, zz16, Option.some.injEq, exists_eq_left', exists_eq_left, exists_eq', exists_eq, List.length_cons, zz2]
    refine hK0 _ ?_; try clear hK0 K0
    refine awp_keepL [0, 1, 5, 6, 7, 10, 11] ?_
    simp only [zz20, zzI, look_nil, Nat.reduceBEq]
    refine awp_seq fun K0 hK0 => ?_
    refine awp_plain F_mixed [some 48, some 49, some 50, some 47, some 51, some 52, some 53, some 8, some 12, some 9] rfl ?_
    simp only [List.nil_append, List.cons_append, true_and, and_true, zz0, true_implies, Nat.reduceLT, Nat.reduceLeDiff, zzI, look_nil, Nat.reduceBEq, implies_true, evS_move, evS_call, evC_value, zz14, zzD, Nat.reduceAdd, Nat.zero_add, zzF, evS_assign, ints, zz6, Nat.reduceEqDiff, ↓reduceIte]
    refine call_go F_go23 (fun hG => rGreedyF t l (by omega)) (by simp [AV.ids, AV.idsL]) (by simp) ?_
    simp only [List.nil_append, List.cons_append, true_and, and_true, zz0, true_implies, Nat.reduceLT, Nat.reduceLeDiff, zzI, look_nil, Nat.reduceBEq, implies_true, evS_move, evS_call, evC_value, zz14, zzD, Nat.reduceAdd, Nat.zero_add, zzF, evS_assign, ints, zz6, Nat.reduceEqDiff, ↓reduceIte, atsL, oksG, freeN, AV.ren, AV.renL, addRows, ORow.row, Nat.reduceMul, Nat.reduceAdd, zz9, Option.bind_some, Option.map_some, forall_eq', D.sl.injEq, zz16, Option.some.injEq, exists_eq_left', exists_eq_left, exists_eq', exists_eq, List.length_cons, zz2]
    refine hK0 _ ?_; try clear hK0 K0
    refine awp_keepL [1, 5, 6, 7, 8, 9, 10, 11, 12] ?_
    simp only [zz20, zzI, look_nil, Nat.reduceBEq]
    refine awp_seq fun K0 hK0 => ?_
    refine awp_plain F_mixed [some 54, some 55, some 56, some 57, some 58, some 59, some 60, some 61, some 62, some 63, some 64, some 65, some 66, some 67, some 68, some 69, some 10] rfl ?_
    simp only [List.nil_append, List.cons_append, true_and, and_true, zz0, true_implies, Nat.reduceLT, Nat.reduceLeDiff, zzI, look_nil, Nat.reduceBEq, implies_true, Nat.reduceSub, S_getD, zz5, and_imp, imp_and, imp_self, and_self, evS_move, evS_call, evC_value, zz13, pickK_l, pickK_r, zz21, gr_v, zz34, evS_assign, ints, len_map, zz6, Nat.reduceEqDiff, ↓reduceIte]
    refine call_go F_go19 (fun hG => kInts_ (gV t l) (by omega)) (by simp [AV.ids, AV.idsL]) (by simp) ?_
    simp only [List.nil_append, List.cons_append, true_and, and_true, zz0, true_implies, Nat.reduceLT, Nat.reduceLeDiff, zzI, look_nil, Nat.reduceBEq, implies_true, Nat.reduceSub, S_getD, zz5, and_imp, imp_and, imp_self, and_self, evS_move, evS_call, evC_value, zz13, pickK_l, pickK_r, zz21, gr_v, zz34, evS_assign, ints, len_map, zz6, Nat.reduceEqDiff, ↓reduceIte, atsL, oksG, freeN, AV.ren, AV.renL, addRows, ORow.row, Nat.reduceMul, Nat.reduceAdd, zz9, Option.bind_some, Option.map_some, forall_eq', D.sl.injEq, zz16, Option.some.injEq, exists_eq_left', exists_eq_left, exists_eq', exists_eq, zzD, zz2]
    refine hK0 _ ?_; try clear hK0 K0
    refine awp_keepL [1, 5, 6, 10] ?_
    simp only [zz20, zzI, look_nil, Nat.reduceBEq]
    refine awp_seq fun K0 hK0 => ?_
    refine awp_mut [some 70, some 71] rfl 1 rfl ?_
    simp only [List.nil_append, List.cons_append, true_and, and_true, zz0, true_implies, Nat.reduceLT, Nat.reduceLeDiff, zzI, look_nil, Nat.reduceBEq, implies_true, evS_move, evS_call, evC_value, len_map, zzB, zz6, Nat.reduceEqDiff, ↓reduceIte]
    refine mut_go [44000] F_go21 (spoilInts_ (gV t l) (by omega)) (by simp [AV.ids, AV.idsL]) (by decide) (by first | exact ⟨by decide, by simp⟩ | rfl) ?_
    simp only [List.nil_append, List.cons_append, true_and, and_true, zz0, true_implies, Nat.reduceLT, Nat.reduceLeDiff, zzI, look_nil, Nat.reduceBEq, implies_true, evS_move, evS_call, evC_value, len_map, zzB, zz6, Nat.reduceEqDiff, ↓reduceIte, mArgs_nil, asE_cl, asF_cl, asD_ptr, asG_ptr, asD_ep, asG_ep, List.mem_singleton, forall_eq, asEc_cons, asEc_nil, mArgs_d, mArgs_m, mRows_nil, mRows_cons, mNewL, nxM, mBase, mName, oksL, List.getElem?_cons_zero, List.getElem?_cons_succ, zzF, asE_ag, asE_d, asE_ref, asEc_cons, asEc_nil, asF_d, asF_ref, asF_ag, asGs, AV.ids, AV.idsL, List.length_singleton, List.not_mem_nil, false_implies, forall_const, atsL, asD_self, asD_nil, asD_sl, asD_agg, asD_int, asD_bool, asD_func, asD_ag, asD_ref, asG_d, asG_ag, asG_ref, freeN, AV.ren, AV.renL, addRows, ORow.row, Nat.reduceMul, Nat.reduceAdd, zz9, Option.bind_some, Option.map_some, forall_eq', D.sl.injEq, zz16, Option.some.injEq, exists_eq_left', exists_eq_left, exists_eq', exists_eq, zzD, S_func, Sk_func]
    refine ⟨by simp [flatDs, flatD], ?_⟩
    refine hK0 _ ?_; try clear hK0 K0
    refine awp_keepL [1, 5, 10] ?_
    simp only [zz20, zzI, look_nil, Nat.reduceBEq]
    refine awp_seq fun K0 hK0 => ?_
    refine awp_plain F_mixed [some 72, some 73, some 74, some 75, some 76, some 77, some 78, some 79, some 80, some 4] rfl ?_
    simp only [List.nil_append, List.cons_append, true_and, and_true, zz0, true_implies, Nat.reduceLT, Nat.reduceLeDiff, zzI, look_nil, Nat.reduceBEq, implies_true, Nat.reduceSub, S_getD, zz5, and_imp, imp_and, imp_self, and_self, evS_move, evS_call, evC_value, zz13, pickK_l, pickK_r, evS_assign, ints, len_map, zz6, Nat.reduceEqDiff, ↓reduceIte]
    refine call_go F_go19 (fun hG => kInts_ l (by omega)) (by simp [AV.ids, AV.idsL]) (by simp) ?_
    simp only [List.nil_append, List.cons_append, true_and, and_true, zz0, true_implies, Nat.reduceLT, Nat.reduceLeDiff, zzI, look_nil, Nat.reduceBEq, implies_true, Nat.reduceSub, S_getD, zz5, and_imp, imp_and, imp_self, and_self, evS_move, evS_call, evC_value, zz13, pickK_l, pickK_r, evS_assign, ints, len_map, zz6, Nat.reduceEqDiff, ↓reduceIte, atsL, oksG, freeN, AV.ren, AV.renL, addRows, ORow.row, Nat.reduceMul, Nat.reduceAdd, zz9, Option.bind_some, Option.map_some, forall_eq', D.sl.injEq, zz16, Option.some.injEq, exists_eq_left', exists_eq_left, exists_eq', exists_eq, zzD, zz2]
    refine call_go F_go14 (fun hG => wakes03_) (by simp [AV.ids, AV.idsL]) (by simp) ?_
    simp only [List.nil_append, List.cons_append, true_and, and_true, zz0, true_implies, Nat.reduceLT, Nat.reduceLeDiff, zzI, look_nil, Nat.reduceBEq, implies_true, Nat.reduceSub, S_getD, zz5, and_imp, imp_and, imp_self, and_self, evS_move, evS_call, evC_value, zz13, pickK_l, pickK_r, evS_assign, ints, len_map, zz6, Nat.reduceEqDiff, ↓reduceIte, atsL, oksG, freeN, AV.ren, AV.renL, addRows, ORow.row, Nat.reduceMul, Nat.reduceAdd, zz9, Option.bind_some, Option.map_some, forall_eq', D.sl.injEq, zz16, Option.some.injEq, exists_eq_left', exists_eq_left, exists_eq', exists_eq, zzD, zz2]
    refine hK0 _ ?_; try clear hK0 K0
    refine awp_keepL [4] ?_
    simp only [zz20, zzI, look_nil, Nat.reduceBEq]
    refine awp_ret ?_
    simp only [zz6, Nat.reduceEqDiff, ↓reduceIte]
    refine done0 (by simp only [resCs, resC]; trivial) ?_ (by simp [flatA, flatAs, flatD]) (by simp [AV.ids, AV.idsL])
    simp only [List.map_cons, List.map_nil, resA, S_getD, Nat.reduceLT, Nat.reduceLeDiff, look_cons, Nat.reduceBEq, cond_true, cond_false, resAll]
    try simp
end Go.Proofs.Ytfpicdhfoflcgaa
