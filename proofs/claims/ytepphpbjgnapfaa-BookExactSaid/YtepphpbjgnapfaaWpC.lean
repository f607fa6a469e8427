import Derived.Test.YtepphpbjgnapfaaWpB
namespace Go.Proofs.Ytepphpbjgnapfaa
open Go.RowKit
set_option linter.unusedVariables false
set_option linter.unusedSimpArgs false
theorem F_off25_2 : offT Try.prog 25 2 = some 2 := by kernel_rfl
theorem F_ok23 : tyOk Try.prog 23 = true := by kernel_rfl
theorem F_ag23 : aggT Try.prog 23 = false := by kernel_rfl
theorem F_sz23 : szT Try.prog 23 = 1 := by kernel_rfl
theorem F_ok44 : tyOk Try.prog 44 = true := by kernel_rfl
theorem F_ag44 : aggT Try.prog 44 = true := by kernel_rfl
theorem F_sz44 : szT Try.prog 44 = 2 := by kernel_rfl
theorem F_off51_2 : offT Try.prog 51 2 = some 3 := by kernel_rfl
theorem F_go42 : goFn Try.prog 42 := ⟨_, Try.func42, rfl, rfl⟩
theorem F_off25_1 : offT Try.prog 25 1 = some 1 := by kernel_rfl
theorem F_ok22 : tyOk Try.prog 22 = true := by kernel_rfl
theorem F_ag22 : aggT Try.prog 22 = false := by kernel_rfl
theorem F_sz22 : szT Try.prog 22 = 1 := by kernel_rfl
theorem F_sl22 : sliceT Try.prog 22 = some 27 := by kernel_rfl
theorem F_sz27 : szT Try.prog 27 = 7 := by kernel_rfl
theorem F_ok27 : tyOk Try.prog 27 = true := by kernel_rfl
theorem F_ag27 : aggT Try.prog 27 = true := by kernel_rfl
theorem F_zero27 : zeroT Try.prog 27 = some [(.int .i64 0), (.int .i64 0), (.int .i64 0), (.int .i64 0), (.int .i64 0), (.int .i64 0), (.bool false)] := by kernel_rfl
theorem F_off27_0 : offT Try.prog 27 0 = some 0 := by kernel_rfl
theorem F_off25_0 : offT Try.prog 25 0 = some 0 := by kernel_rfl
theorem F_go29 : goFn Try.prog 29 := ⟨_, Try.func29, rfl, rfl⟩
theorem F_go43 : goFn Try.prog 43 := ⟨_, Try.func43, rfl, rfl⟩
set_option maxRecDepth 100000 in
set_option maxHeartbeats 4000000 in
theorem bCheck_ (nx : Int) (ts : List TradeV) (ps : List PosV) (ht : ts.length ≤ 500000) (hp : ps.length ≤ 500000) : ACalls Try.prog 20 [.agg (bookC ⟨nx, ts, ps⟩)] [] (.d (iv (bookE ⟨nx, ts, ps⟩))) := by
  refine acalls_S (rs := [.tmp 2]) Try.func20 rfl rfl 124 [(0, .d (.agg (bookC ⟨nx, ts, ps⟩)))] rfl (by simp) rfl ?_
  refine awp_seq fun K0 hK0 => ?_
  refine awp_plain F_mixed [some 1, some 2] rfl ?_
  simp only [List.nil_append, List.cons_append, true_and, and_true, zz0, true_implies, Nat.reduceLT, Nat.reduceLeDiff, zzI, look_nil, Nat.reduceBEq, implies_true, zz35, newRow1, zz1, zzG, zzD, zz16, Option.some.injEq, exists_eq_left', exists_eq_left, Option.map_some, eq_self, reduceCtorEq, and_self, Nat.reduceAdd, Nat.zero_add, zzF, zzB, zzE, evS_assign, bookC, tradesB, poss, zz6, Nat.reduceEqDiff, ↓reduceIte]
  refine hK0 _ ?_; try clear hK0 K0
  refine awp_keepL [1] ?_
  simp only [zz20, zzI, look_nil, Nat.reduceBEq]
  refine awp_seq fun K0 hK0 => ?_
  refine awp_seq fun K1 hK1 => ?_
  refine awp_plain F_mixed [some 7, some 8, some 9, some 10] rfl ?_
  simp only [List.nil_append, List.cons_append, true_and, and_true, zz0, true_implies, Nat.reduceLT, Nat.reduceLeDiff, zzI, look_nil, Nat.reduceBEq, implies_true, zz19, zz23, F_off25_2, zzB, Nat.zero_add, Nat.reduceAdd, F_ok23, F_ag23, F_sz23, zz8, zzD, zzF, zzE, zz16, Option.some.injEq, exists_eq_left', exists_eq_left, Option.map_some, eq_self, reduceCtorEq, and_self, evS_call, zz12, F_sl23, Option.isSome_some, evS_move, len_map, zz6, Nat.reduceEqDiff, ↓reduceIte]
  refine hK1 _ ?_; try clear hK1 K1
  refine awp_keepL [1, 8, 9, 10] ?_
  simp only [zz20, zzI, look_nil, Nat.reduceBEq]
  refine awp_block ?_
  refine awp_loop (fun m s => ∃ pre post : List PosV, ps = pre ++ post ∧ chkR posOk pLt none ps = chkR posOk pLt pre.getLast? post ∧ m = post.length ∧ s = S 124 [(1, .ptr 1 0 0), (8, .d (.sl 4 (ps.map posC))), (9, .d (iv ps.length)), (10, .d (iv pre.length))] [(1, (⟨True, 25, 3, true, false, 1, [[.d (iv nx), .d (.sl 7 (ts.map tradeC)), .d (.sl 4 (ps.map posC))]]⟩ : ARow))]) ps.length _ (le_SK id [] rfl (l' := [(1, .ptr 1 0 0), (8, .d (.sl 4 (ps.map posC))), (9, .d (iv ps.length)), (10, .d (iv ([] : List PosV).length))]) (m' := [(1, (⟨True, 25, 3, true, false, 1, [[.d (iv nx), .d (.sl 7 (ts.map tradeC)), .d (.sl 4 (ps.map posC))]]⟩ : ARow))]) ?_ ?_ ?_ ?_) ⟨[], ps, rfl, rfl, rfl, rfl⟩ ?_
  · simp only [leV, look_cons, Nat.reduceBEq, cond_true, cond_false, len_map]; exact ⟨VLe.refl _, VLe.refl _, VLe.refl _, VLe.refl _, trivial⟩
  · exact ⟨fun _ => ⟨_, rfl, ⟨id, rfl, rfl, fun _ => rfl, id, .inl, VLess.refl _⟩⟩, fun h => by simp at h, trivial⟩
  · simp [wfV, AV.ids, AV.idsL, lookR]
  · simp [wfR, AV.idsL, AV.ids]
  rintro m s ⟨pre, post, rfl, hck, rfl, rfl⟩
  refine awp_seq fun K2 hK2 => ?_
  refine awp_plain F_mixed [some 11] rfl ?_
  simp only [List.nil_append, List.cons_append, true_and, and_true, zz0, true_implies, Nat.reduceLT, Nat.reduceLeDiff, zzI, look_nil, Nat.reduceBEq, implies_true, zz21, gr_v, zz22, zz6, Nat.reduceEqDiff, ↓reduceIte]
  refine hK2 _ ?_; try clear hK2 K2
  refine awp_keepL [1, 8, 9, 10, 11] ?_
  simp only [zz20, zzI, look_nil, Nat.reduceBEq]
  refine awp_seq fun K2 hK2 => ?_
  refine awp_condS _ (by decide) (by simp only [look_cons, Nat.reduceBEq, cond_true, cond_false]; rfl) ?_ ?_
  · intro hb
    obtain ⟨x, post, rfl⟩ := more_of hb; clear hb
    have hpp : pre.length < 4611686018427387904 := by simp at hp; omega
    have hpg := prev_get posC pre post x [] hpp
    refine awp_skip ?_
    simp only [zz6, Nat.reduceEqDiff, ↓reduceIte]
    refine hK2 _ ?_; try clear hK2 K2
    refine awp_keepL [1, 8, 9, 10] ?_
    simp only [zz20, zzI, look_nil, Nat.reduceBEq]
    refine awp_seq fun K2 hK2 => ?_
    refine awp_block ?_
    refine awp_seq fun K3 hK3 => ?_
    refine awp_plain F_mixed [some 12, some 13, some 14, some 4, some 3, none] rfl ?_
    simp only [List.nil_append, List.cons_append, true_and, and_true, zz0, true_implies, Nat.reduceLT, Nat.reduceLeDiff, zzI, look_nil, Nat.reduceBEq, implies_true, evS_move, evS_indexAddr, zz23, zz24, F_sl23, F_sz51, Option.map_some, zz16, Option.some.injEq, exists_eq_left', exists_eq_left, eq_self, reduceCtorEq, and_self, F_ok51, F_ag51, zz8, zzD, Nat.reduceAdd, Nat.zero_add, zzF, zzB, zzE, zz32, newRow1, F_zero51, zz10, evS_assign, zz18, splice, List.append_nil, zz1, zzG, posC, getD_mid, len_map, lt_mid, ge_mid, zz6, Nat.reduceEqDiff, ↓reduceIte]
    refine hK3 _ ?_; try clear hK3 K3
    refine awp_keepL [1, 3, 4, 8, 9, 10] ?_
    simp only [zz20, zzI, look_nil, Nat.reduceBEq]
    refine awp_seq fun K3 hK3 => ?_
    refine awp_draw F_mixed [some 15, some 16, some 17, some 18, some 19, some 20, some 21, some 22, some 23, some 24, some 25, some 26, some 27, some 28, some 29, some 30, some 31, some 32, some 33, some 34, some 35, some 36, some 37, some 38, some 39, some 40, some 41, some 42, some 43, some 44, some 45, some 46, some 47, some 48, some 49, some 50, some 51, some 52, some 53, some 54, some 55, some 56, some 57, some 58, some 59, some 60, some 61, some 62] rfl (by kernel_rfl) ?_
    simp only [List.nil_append, List.cons_append, true_and, and_true, zz0, true_implies, Nat.reduceLT, Nat.reduceLeDiff, zzI, look_nil, Nat.reduceBEq, implies_true, Nat.reduceSub, S_getD, zz5, and_imp, imp_and, imp_self, and_self, zz19, zz23, F_off51_0, zzB, Nat.zero_add, Nat.reduceAdd, F_ok44, F_ag44, F_sz44, zz8, zzD, zzF, zzE, zz16, Option.some.injEq, exists_eq_left', exists_eq_left, Option.map_some, eq_self, reduceCtorEq, evS_call, evC_value, zz29, gr_v, zz30, evS_move, F_off51_1, F_ok3, F_ag3, F_sz3, zz21, zz22, zz13, pickK_l, pickK_r, zz25, F_off51_2, F_sl68, F_zero3, zz3, newRow1, zz1, zzG, maxLen_le, Nat.reduceMul, zz34, F_off25_2, F_ok23, F_ag23, F_sz23, zz33, evS_indexAddr, zz24, F_sl23, F_sz51, ints, unDs_map, D.sl.injEq, D.agg.injEq, posC, hpg, getD_mid, len_map, lt_mid, ge_mid, zz6, Nat.reduceEqDiff, ↓reduceIte]
    refine call_go F_go40 (fun hG => keyOk_ x.who x.inst) (by simp [AV.ids, AV.idsL]) (by simp) ?_
    simp only [List.nil_append, List.cons_append, true_and, and_true, zz0, true_implies, Nat.reduceLT, Nat.reduceLeDiff, zzI, look_nil, Nat.reduceBEq, implies_true, Nat.reduceSub, S_getD, zz5, and_imp, imp_and, imp_self, and_self, zz19, zz23, F_off51_0, zzB, Nat.zero_add, Nat.reduceAdd, F_ok44, F_ag44, F_sz44, zz8, zzD, zzF, zzE, zz16, Option.some.injEq, exists_eq_left', exists_eq_left, Option.map_some, eq_self, reduceCtorEq, evS_call, evC_value, zz29, gr_v, zz30, evS_move, F_off51_1, F_ok3, F_ag3, F_sz3, zz21, zz22, zz13, pickK_l, pickK_r, zz25, F_off51_2, F_sl68, F_zero3, zz3, newRow1, zz1, zzG, maxLen_le, Nat.reduceMul, zz34, F_off25_2, F_ok23, F_ag23, F_sz23, zz33, evS_indexAddr, zz24, F_sl23, F_sz51, ints, unDs_map, D.sl.injEq, D.agg.injEq, posC, hpg, getD_mid, len_map, lt_mid, ge_mid, zz6, Nat.reduceEqDiff, ↓reduceIte, atsL, oksG, freeN, AV.ren, AV.renL, addRows, ORow.row, Nat.reduceMul, Nat.reduceAdd, zz9, Option.bind_some, Option.map_some, forall_eq', D.sl.injEq, S_mem, Option.some.injEq, exists_eq_left', exists_eq_left, exists_eq', exists_eq, List.length_cons, zz2]
    refine call_go F_go41 (fun hG => Right_ [x.cost] (by simp)) (by simp [AV.ids, AV.idsL]) (by simp) ?_
    simp only [List.nil_append, List.cons_append, true_and, and_true, zz0, true_implies, Nat.reduceLT, Nat.reduceLeDiff, zzI, look_nil, Nat.reduceBEq, implies_true, Nat.reduceSub, S_getD, zz5, and_imp, imp_and, imp_self, and_self, zz19, zz23, F_off51_0, zzB, Nat.zero_add, Nat.reduceAdd, F_ok44, F_ag44, F_sz44, zz8, zzD, zzF, zzE, zz16, Option.some.injEq, exists_eq_left', exists_eq_left, Option.map_some, eq_self, reduceCtorEq, evS_call, evC_value, zz29, gr_v, zz30, evS_move, F_off51_1, F_ok3, F_ag3, F_sz3, zz21, zz22, zz13, pickK_l, pickK_r, zz25, F_off51_2, F_sl68, F_zero3, zz3, newRow1, zz1, zzG, maxLen_le, Nat.reduceMul, zz34, F_off25_2, F_ok23, F_ag23, F_sz23, zz33, evS_indexAddr, zz24, F_sl23, F_sz51, ints, unDs_map, D.sl.injEq, D.agg.injEq, posC, hpg, getD_mid, len_map, lt_mid, ge_mid, zz6, Nat.reduceEqDiff, ↓reduceIte, atsL, oksG, freeN, AV.ren, AV.renL, addRows, ORow.row, Nat.reduceMul, Nat.reduceAdd, zz9, Option.bind_some, Option.map_some, forall_eq', D.sl.injEq, S_mem, Option.some.injEq, exists_eq_left', exists_eq_left, exists_eq', exists_eq, List.length_cons, zz2]
    refine ⟨⟨fun _ hp2 => prev_ok pre hpp hp2, fun _ _ => prev_lt pre post x hpp⟩, ?_⟩
    refine call_go F_go42 (fun hG => bless_ (lastOr x pre).who (lastOr x pre).inst x.who x.inst) (by simp [AV.ids, AV.idsL]) (by simp) ?_
    simp only [List.nil_append, List.cons_append, true_and, and_true, zz0, true_implies, Nat.reduceLT, Nat.reduceLeDiff, zzI, look_nil, Nat.reduceBEq, implies_true, Nat.reduceSub, S_getD, zz5, and_imp, imp_and, imp_self, and_self, zz19, zz23, F_off51_0, zzB, Nat.zero_add, Nat.reduceAdd, F_ok44, F_ag44, F_sz44, zz8, zzD, zzF, zzE, zz16, Option.some.injEq, exists_eq_left', exists_eq_left, Option.map_some, eq_self, reduceCtorEq, evS_call, evC_value, zz29, gr_v, zz30, evS_move, F_off51_1, F_ok3, F_ag3, F_sz3, zz21, zz22, zz13, pickK_l, pickK_r, zz25, F_off51_2, F_sl68, F_zero3, zz3, newRow1, zz1, zzG, maxLen_le, Nat.reduceMul, zz34, F_off25_2, F_ok23, F_ag23, F_sz23, zz33, evS_indexAddr, zz24, F_sl23, F_sz51, ints, unDs_map, D.sl.injEq, D.agg.injEq, posC, hpg, getD_mid, len_map, lt_mid, ge_mid, zz6, Nat.reduceEqDiff, ↓reduceIte, atsL, oksG, freeN, AV.ren, AV.renL, addRows, ORow.row, Nat.reduceMul, Nat.reduceAdd, zz9, Option.bind_some, Option.map_some, forall_eq', D.sl.injEq, S_mem, Option.some.injEq, exists_eq_left', exists_eq_left, exists_eq', exists_eq, List.length_cons, zz2]
    refine hK3 _ ?_; try clear hK3 K3
    refine awp_keepL [1, 8, 9, 10, 62] ?_
    simp only [zz20, zzI, look_nil, Nat.reduceBEq]
    refine awp_condS _ (by decide) (by simp only [look_cons, Nat.reduceBEq, cond_true, cond_false]; rfl) ?_ ?_
    · intro hb
      have hs : (!posOk x || (decide ((pre.length : Int) > 0) && !pLt (lastOr x pre) x)) = true := by simpa only [posOk, posBad, pLt, Bool.not_not] using hb
      clear hb
      refine awp_seq fun K4 hK4 => ?_
      refine awp_plain F_mixed [some 2] rfl ?_
      simp only [List.nil_append, List.cons_append, true_and, and_true, zz0, true_implies, Nat.reduceLT, Nat.reduceLeDiff, zzI, look_nil, Nat.reduceBEq, implies_true, evS_assign, zz6, Nat.reduceEqDiff, ↓reduceIte]
      refine hK4 _ ?_; try clear hK4 K4
      refine awp_keepL [2] ?_
      simp only [zz20, zzI, look_nil, Nat.reduceBEq]
      refine awp_ret ?_
      simp only [zz6, Nat.reduceEqDiff, ↓reduceIte]
      refine done0 (by simp only [resCs, resC]; trivial) ?_ (by simp [flatA, flatAs, flatD]) (by simp [AV.ids, AV.idsL])
      simp only [List.map_cons, List.map_nil, resA, S_getD, Nat.reduceLT, Nat.reduceLeDiff, look_cons, Nat.reduceBEq, cond_true, cond_false, resAll]
      have e : bookOk ⟨nx, ts, pre ++ x :: post⟩ = false := by simp only [bookOk]; rw [hck, chkR_step, hs]; rfl
      simp only [bookE, e, cond_false]
    · intro hb
      have hs : (!posOk x || (decide ((pre.length : Int) > 0) && !pLt (lastOr x pre) x)) = false := by simpa only [posOk, posBad, pLt, Bool.not_not] using hb
      clear hb
      refine awp_skip ?_
      simp only [zz6, Nat.reduceEqDiff, ↓reduceIte]
      refine hK2 _ ?_; try clear hK2 K2
      refine awp_keepL [1, 8, 9, 10] ?_
      simp only [zz20, zzI, look_nil, Nat.reduceBEq]
      refine awp_plain F_mixed [some 63, some 10] rfl ?_
      simp only [List.nil_append, List.cons_append, true_and, and_true, zz0, true_implies, Nat.reduceLT, Nat.reduceLeDiff, zzI, look_nil, Nat.reduceBEq, implies_true, zz21, gr_v, zz26, evS_move, zz6, Nat.reduceEqDiff, ↓reduceIte]
      refine ⟨post.length, _, by simp, le_SK id [] rfl (l' := [(1, .ptr 1 0 0), (8, .d (.sl 4 ((pre ++ x :: post).map posC))), (9, .d (iv (pre ++ x :: post).length)), (10, .d (iv (pre ++ [x]).length))]) (m' := [(1, (⟨True, 25, 3, true, false, 1, [[.d (iv nx), .d (.sl 7 (ts.map tradeC)), .d (.sl 4 ((pre ++ x :: post).map posC))]]⟩ : ARow))]) ?_ ?_ ?_ ?_, pre ++ [x], post, by simp, by rw [hck, chkR_step, hs]; simp, rfl, rfl⟩
      · simp only [leV, look_cons, Nat.reduceBEq, cond_true, cond_false, len_map, wrap_len pre x (by simp at hp; omega)]; exact ⟨VLe.refl _, VLe.refl _, VLe.refl _, VLe.refl _, trivial⟩
      · exact ⟨fun _ => ⟨_, rfl, ⟨id, rfl, rfl, fun _ => rfl, id, .inl, VLess.refl _⟩⟩, fun h => by simp at h, trivial⟩
      · simp [wfV, AV.ids, AV.idsL, lookR]
      · simp [wfR, AV.idsL, AV.ids]
  · intro hb
    obtain rfl := none_of hb; clear hb
    simp only [List.append_nil] at hck hp ⊢
    have hk0 := hck; clear hck
    obtain ⟨ps, eps⟩ : ∃ x, x = pre := ⟨_, rfl⟩
    subst eps
    refine awp_exit ?_
    simp only [zz6, Nat.reduceEqDiff, ↓reduceIte]
    refine hK0 _ ?_; try clear hK0 K0
    refine awp_keepL [1] ?_
    simp only [zz20, zzI, look_nil, Nat.reduceBEq]
    refine awp_seq fun K0 hK0 => ?_
    refine awp_seq fun K1 hK1 => ?_
    refine awp_plain F_mixed [some 64, some 65, some 66, some 67] rfl ?_
    simp only [List.nil_append, List.cons_append, true_and, and_true, zz0, true_implies, Nat.reduceLT, Nat.reduceLeDiff, zzI, look_nil, Nat.reduceBEq, implies_true, zz19, zz23, F_off25_1, zzB, Nat.zero_add, Nat.reduceAdd, F_ok22, F_ag22, F_sz22, zz8, zzD, zzF, zzE, zz16, Option.some.injEq, exists_eq_left', exists_eq_left, Option.map_some, eq_self, reduceCtorEq, and_self, evS_call, zz12, F_sl22, Option.isSome_some, evS_move, len_map, zz6, Nat.reduceEqDiff, ↓reduceIte]
    refine hK1 _ ?_; try clear hK1 K1
    refine awp_keepL [1, 65, 66, 67] ?_
    simp only [zz20, zzI, look_nil, Nat.reduceBEq]
    refine awp_block ?_
    refine awp_loop (fun m s => ∃ pre post : List TradeV, ts = pre ++ post ∧ chkR (trOk nx) tLt none ts = chkR (trOk nx) tLt pre.getLast? post ∧ m = post.length ∧ s = S 124 [(1, .ptr 1 0 0), (65, .d (.sl 7 (ts.map tradeC))), (66, .d (iv ts.length)), (67, .d (iv pre.length))] [(1, (⟨True, 25, 3, true, false, 1, [[.d (iv nx), .d (.sl 7 (ts.map tradeC)), .d (.sl 4 (ps.map posC))]]⟩ : ARow))]) ts.length _ (le_SK id [] rfl (l' := [(1, .ptr 1 0 0), (65, .d (.sl 7 (ts.map tradeC))), (66, .d (iv ts.length)), (67, .d (iv ([] : List TradeV).length))]) (m' := [(1, (⟨True, 25, 3, true, false, 1, [[.d (iv nx), .d (.sl 7 (ts.map tradeC)), .d (.sl 4 (ps.map posC))]]⟩ : ARow))]) ?_ ?_ ?_ ?_) ⟨[], ts, rfl, rfl, rfl, rfl⟩ ?_
    · simp only [leV, look_cons, Nat.reduceBEq, cond_true, cond_false, len_map]; exact ⟨VLe.refl _, VLe.refl _, VLe.refl _, VLe.refl _, trivial⟩
    · exact ⟨fun _ => ⟨_, rfl, ⟨id, rfl, rfl, fun _ => rfl, id, .inl, VLess.refl _⟩⟩, fun h => by simp at h, trivial⟩
    · simp [wfV, AV.ids, AV.idsL, lookR]
    · simp [wfR, AV.idsL, AV.ids]
    rintro m s ⟨pre, post, rfl, hck, rfl, rfl⟩
    refine awp_seq fun K2 hK2 => ?_
    refine awp_plain F_mixed [some 68] rfl ?_
    simp only [List.nil_append, List.cons_append, true_and, and_true, zz0, true_implies, Nat.reduceLT, Nat.reduceLeDiff, zzI, look_nil, Nat.reduceBEq, implies_true, zz21, gr_v, zz22, zz6, Nat.reduceEqDiff, ↓reduceIte]
    refine hK2 _ ?_; try clear hK2 K2
    refine awp_keepL [1, 65, 66, 67, 68] ?_
    simp only [zz20, zzI, look_nil, Nat.reduceBEq]
    refine awp_seq fun K2 hK2 => ?_
    refine awp_condS _ (by decide) (by simp only [look_cons, Nat.reduceBEq, cond_true, cond_false]; rfl) ?_ ?_
    · intro hb
      obtain ⟨x, post, rfl⟩ := more_of hb; clear hb
      have hpp : pre.length < 4611686018427387904 := by simp at ht; omega
      have hpg := prev_get tradeC pre post x [] hpp
      refine awp_skip ?_
      simp only [zz6, Nat.reduceEqDiff, ↓reduceIte]
      refine hK2 _ ?_; try clear hK2 K2
      refine awp_keepL [1, 65, 66, 67] ?_
      simp only [zz20, zzI, look_nil, Nat.reduceBEq]
      refine awp_seq fun K2 hK2 => ?_
      refine awp_block ?_
      refine awp_seq fun K3 hK3 => ?_
      refine awp_plain F_mixed [some 69, some 70, some 71, some 6, some 5, none] rfl ?_
      simp only [List.nil_append, List.cons_append, true_and, and_true, zz0, true_implies, Nat.reduceLT, Nat.reduceLeDiff, zzI, look_nil, Nat.reduceBEq, implies_true, evS_move, evS_indexAddr, zz23, zz24, F_sl22, F_sz27, Option.map_some, zz16, Option.some.injEq, exists_eq_left', exists_eq_left, eq_self, reduceCtorEq, and_self, F_ok27, F_ag27, zz8, zzD, Nat.reduceAdd, Nat.zero_add, zzF, zzB, zzE, zz32, newRow1, F_zero27, zz10, evS_assign, zz18, splice, List.append_nil, zz1, zzG, tradeC, getD_mid, len_map, lt_mid, ge_mid, zz6, Nat.reduceEqDiff, ↓reduceIte]
      refine hK3 _ ?_; try clear hK3 K3
      refine awp_keepL [1, 5, 6, 65, 66, 67] ?_
      simp only [zz20, zzI, look_nil, Nat.reduceBEq]
      refine awp_seq fun K3 hK3 => ?_
      refine awp_draw F_mixed [some 72, some 73, some 74, some 75, some 76, some 77, some 78, some 79, some 80, some 81, some 82, some 83, some 84, some 85, some 86, some 87, some 88, some 89, some 90, some 91, some 92, some 93, some 94, some 95, some 96, some 97, some 98, some 99, some 100, some 101, some 102] rfl (by kernel_rfl) ?_
      simp only [List.nil_append, List.cons_append, true_and, and_true, zz0, true_implies, Nat.reduceLT, Nat.reduceLeDiff, zzI, look_nil, Nat.reduceBEq, implies_true, Nat.reduceSub, S_getD, zz5, and_imp, imp_and, imp_self, and_self, F_ok27, F_ag27, F_sz27, zz8, zz23, zzD, Nat.reduceAdd, Nat.zero_add, zzF, zzB, zzE, zz16, Option.some.injEq, exists_eq_left', exists_eq_left, Option.map_some, eq_self, reduceCtorEq, evS_call, evC_value, zz29, gr_v, zz30, evS_move, zz19, F_off27_0, F_ok3, F_ag3, F_sz3, zz21, zz22, zz13, pickK_l, pickK_r, F_off25_0, zz25, F_off25_1, F_ok22, F_ag22, F_sz22, zz33, evS_indexAddr, zz24, F_sl22, zz31, tradeC, D.agg.injEq, hpg, getD_mid, len_map, lt_mid, ge_mid, zz6, Nat.reduceEqDiff, ↓reduceIte]
      refine call_go F_go29 (fun hG => rtOk_ x) (by simp [AV.ids, AV.idsL]) (by simp) ?_
      simp only [List.nil_append, List.cons_append, true_and, and_true, zz0, true_implies, Nat.reduceLT, Nat.reduceLeDiff, zzI, look_nil, Nat.reduceBEq, implies_true, Nat.reduceSub, S_getD, zz5, and_imp, imp_and, imp_self, and_self, F_ok27, F_ag27, F_sz27, zz8, zz23, zzD, Nat.reduceAdd, Nat.zero_add, zzF, zzB, zzE, zz16, Option.some.injEq, exists_eq_left', exists_eq_left, Option.map_some, eq_self, reduceCtorEq, evS_call, evC_value, zz29, gr_v, zz30, evS_move, zz19, F_off27_0, F_ok3, F_ag3, F_sz3, zz21, zz22, zz13, pickK_l, pickK_r, F_off25_0, zz25, F_off25_1, F_ok22, F_ag22, F_sz22, zz33, evS_indexAddr, zz24, F_sl22, zz31, tradeC, D.agg.injEq, hpg, getD_mid, len_map, lt_mid, ge_mid, zz6, Nat.reduceEqDiff, ↓reduceIte, atsL, oksG, freeN, AV.ren, AV.renL, addRows, ORow.row, Nat.reduceMul, Nat.reduceAdd, zz9, Option.bind_some, Option.map_some, forall_eq', D.sl.injEq, S_mem, Option.some.injEq, exists_eq_left', exists_eq_left, exists_eq', exists_eq, List.length_cons, zz2]
      refine ⟨⟨fun _ hp2 => prev_ok pre hpp hp2, fun _ _ => prev_lt pre post x hpp⟩, ?_⟩
      refine hK3 _ ?_; try clear hK3 K3
      refine awp_keepL [1, 65, 66, 67, 102] ?_
      simp only [zz20, zzI, look_nil, Nat.reduceBEq]
      refine awp_condS _ (by decide) (by simp only [look_cons, Nat.reduceBEq, cond_true, cond_false]; rfl) ?_ ?_
      · intro hb
        have hs : (!trOk nx x || (decide ((pre.length : Int) > 0) && !tLt (lastOr x pre) x)) = true := by simpa only [trOk, trBad, tLt, Bool.not_not] using hb
        clear hb
        refine awp_seq fun K4 hK4 => ?_
        refine awp_plain F_mixed [some 2] rfl ?_
        simp only [List.nil_append, List.cons_append, true_and, and_true, zz0, true_implies, Nat.reduceLT, Nat.reduceLeDiff, zzI, look_nil, Nat.reduceBEq, implies_true, evS_assign, zz6, Nat.reduceEqDiff, ↓reduceIte]
        refine hK4 _ ?_; try clear hK4 K4
        refine awp_keepL [2] ?_
        simp only [zz20, zzI, look_nil, Nat.reduceBEq]
        refine awp_ret ?_
        simp only [zz6, Nat.reduceEqDiff, ↓reduceIte]
        try simp only [List.append_nil]
        refine done0 (by simp only [resCs, resC]; trivial) ?_ (by simp [flatA, flatAs, flatD]) (by simp [AV.ids, AV.idsL])
        simp only [List.map_cons, List.map_nil, resA, S_getD, Nat.reduceLT, Nat.reduceLeDiff, look_cons, Nat.reduceBEq, cond_true, cond_false, resAll]
        have e : bookOk ⟨nx, pre ++ x :: post, ps⟩ = false := by simp only [bookOk]; rw [hk0, hck, chkR_step, hs]; rfl
        simp only [bookE, e, cond_false]
      · intro hb
        have hs : (!trOk nx x || (decide ((pre.length : Int) > 0) && !tLt (lastOr x pre) x)) = false := by simpa only [trOk, trBad, tLt, Bool.not_not] using hb
        clear hb
        refine awp_skip ?_
        simp only [zz6, Nat.reduceEqDiff, ↓reduceIte]
        refine hK2 _ ?_; try clear hK2 K2
        refine awp_keepL [1, 65, 66, 67] ?_
        simp only [zz20, zzI, look_nil, Nat.reduceBEq]
        refine awp_plain F_mixed [some 103, some 67] rfl ?_
        simp only [List.nil_append, List.cons_append, true_and, and_true, zz0, true_implies, Nat.reduceLT, Nat.reduceLeDiff, zzI, look_nil, Nat.reduceBEq, implies_true, zz21, gr_v, zz26, evS_move, zz6, Nat.reduceEqDiff, ↓reduceIte]
        refine ⟨post.length, _, by simp, le_SK id [] rfl (l' := [(1, .ptr 1 0 0), (65, .d (.sl 7 ((pre ++ x :: post).map tradeC))), (66, .d (iv (pre ++ x :: post).length)), (67, .d (iv (pre ++ [x]).length))]) (m' := [(1, (⟨True, 25, 3, true, false, 1, [[.d (iv nx), .d (.sl 7 ((pre ++ x :: post).map tradeC)), .d (.sl 4 (ps.map posC))]]⟩ : ARow))]) ?_ ?_ ?_ ?_, pre ++ [x], post, by simp, by rw [hck, chkR_step, hs]; simp, rfl, rfl⟩
        · simp only [leV, look_cons, Nat.reduceBEq, cond_true, cond_false, len_map, wrap_len pre x (by simp at ht; omega)]; exact ⟨VLe.refl _, VLe.refl _, VLe.refl _, VLe.refl _, trivial⟩
        · exact ⟨fun _ => ⟨_, rfl, ⟨id, rfl, rfl, fun _ => rfl, id, .inl, VLess.refl _⟩⟩, fun h => by simp at h, trivial⟩
        · simp [wfV, AV.ids, AV.idsL, lookR]
        · simp [wfR, AV.idsL, AV.ids]
    · intro hb
      obtain rfl := none_of hb; clear hb
      simp only [List.append_nil] at hck ht ⊢
      have hk1 := hck; clear hck
      obtain ⟨ts, ets⟩ : ∃ x, x = pre := ⟨_, rfl⟩
      subst ets
      refine awp_exit ?_
      simp only [zz6, Nat.reduceEqDiff, ↓reduceIte]
      refine hK0 _ ?_; try clear hK0 K0
      refine awp_keepL [1] ?_
      simp only [zz20, zzI, look_nil, Nat.reduceBEq]
      refine awp_seq fun K0 hK0 => ?_
      refine awp_seq fun K1 hK1 => ?_
      refine awp_plain F_mixed [some 104, some 105, some 106, some 107, some 108, some 109, some 110, some 111, some 112, some 113, some 114, some 115, some 116, some 117, some 118, some 119, some 120, some 121, some 122, some 123] rfl ?_
      simp only [List.nil_append, List.cons_append, true_and, and_true, zz0, true_implies, Nat.reduceLT, Nat.reduceLeDiff, zzI, look_nil, Nat.reduceBEq, implies_true, Nat.reduceSub, S_getD, zz5, and_imp, imp_and, imp_self, and_self, zz19, zz23, F_off25_2, zzB, Nat.zero_add, Nat.reduceAdd, F_ok23, F_ag23, F_sz23, zz8, zzD, zzF, zzE, zz16, Option.some.injEq, exists_eq_left', exists_eq_left, Option.map_some, eq_self, reduceCtorEq, evS_call, evC_value, zz29, gr_v, zz30, evS_move, F_off25_1, F_ok22, F_ag22, F_sz22, zz12, F_sl22, Option.isSome_some, zz21, zz25, zz13, pickK_l, pickK_r, F_off25_0, F_ok3, F_ag3, F_sz3, zz22, poss, len_map, zz6, Nat.reduceEqDiff, ↓reduceIte]
      refine call_go F_go43 (fun hG => level_ ps hp) (by simp [AV.ids, AV.idsL]) (by simp) ?_
      simp only [List.nil_append, List.cons_append, true_and, and_true, zz0, true_implies, Nat.reduceLT, Nat.reduceLeDiff, zzI, look_nil, Nat.reduceBEq, implies_true, Nat.reduceSub, S_getD, zz5, and_imp, imp_and, imp_self, and_self, zz19, zz23, F_off25_2, zzB, Nat.zero_add, Nat.reduceAdd, F_ok23, F_ag23, F_sz23, zz8, zzD, zzF, zzE, zz16, Option.some.injEq, exists_eq_left', exists_eq_left, Option.map_some, eq_self, reduceCtorEq, evS_call, evC_value, zz29, gr_v, zz30, evS_move, F_off25_1, F_ok22, F_ag22, F_sz22, zz12, F_sl22, Option.isSome_some, zz21, zz25, zz13, pickK_l, pickK_r, F_off25_0, F_ok3, F_ag3, F_sz3, zz22, poss, len_map, zz6, Nat.reduceEqDiff, ↓reduceIte, atsL, oksG, freeN, AV.ren, AV.renL, addRows, ORow.row, Nat.reduceMul, Nat.reduceAdd, zz9, Option.bind_some, Option.map_some, forall_eq', D.sl.injEq, S_mem, Option.some.injEq, exists_eq_left', exists_eq_left, exists_eq', exists_eq, List.length_cons, zz2]
      refine hK1 _ ?_; try clear hK1 K1
      refine awp_keepL [123] ?_
      simp only [zz20, zzI, look_nil, Nat.reduceBEq]
      refine awp_condS _ (by decide) (by simp only [look_cons, Nat.reduceBEq, cond_true, cond_false]; rfl) ?_ ?_
      · intro hb
        have hs : bookTail ⟨nx, ts, ps⟩ = true := hb
        clear hb
        refine awp_seq fun K2 hK2 => ?_
        refine awp_plain F_mixed [some 2] rfl ?_
        simp only [List.nil_append, List.cons_append, true_and, and_true, zz0, true_implies, Nat.reduceLT, Nat.reduceLeDiff, zzI, look_nil, Nat.reduceBEq, implies_true, evS_assign, zz6, Nat.reduceEqDiff, ↓reduceIte]
        refine hK2 _ ?_; try clear hK2 K2
        refine awp_keepL [2] ?_
        simp only [zz20, zzI, look_nil, Nat.reduceBEq]
        refine awp_ret ?_
        simp only [zz6, Nat.reduceEqDiff, ↓reduceIte]
        try simp only [List.append_nil]
        refine done0 (by simp only [resCs, resC]; trivial) ?_ (by simp [flatA, flatAs, flatD]) (by simp [AV.ids, AV.idsL])
        simp only [List.map_cons, List.map_nil, resA, S_getD, Nat.reduceLT, Nat.reduceLeDiff, look_cons, Nat.reduceBEq, cond_true, cond_false, resAll]
        have e : bookOk ⟨nx, ts, ps⟩ = false := by simp only [bookOk, hs, Bool.not_true, Bool.and_false]
        simp only [bookE, e, cond_false]
      · intro hb
        have hs : bookTail ⟨nx, ts, ps⟩ = false := hb
        clear hb
        refine awp_skip ?_
        simp only [zz6, Nat.reduceEqDiff, ↓reduceIte]
        refine hK0 _ ?_; try clear hK0 K0
        refine awp_keepL [] ?_
        simp only [zz20, zzI, look_nil, Nat.reduceBEq]
        refine awp_seq fun K0 hK0 => ?_
        refine awp_plain F_mixed [some 2] rfl ?_
        simp only [List.nil_append, List.cons_append, true_and, and_true, zz0, true_implies, Nat.reduceLT, Nat.reduceLeDiff, zzI, look_nil, Nat.reduceBEq, implies_true, evS_assign, zz6, Nat.reduceEqDiff, ↓reduceIte]
        refine hK0 _ ?_; try clear hK0 K0
        refine awp_keepL [2] ?_
        simp only [zz20, zzI, look_nil, Nat.reduceBEq]
        refine awp_ret ?_
        simp only [zz6, Nat.reduceEqDiff, ↓reduceIte]
        try simp only [List.append_nil]
        refine done0 (by simp only [resCs, resC]; trivial) ?_ (by simp [flatA, flatAs, flatD]) (by simp [AV.ids, AV.idsL])
        simp only [List.map_cons, List.map_nil, resA, S_getD, Nat.reduceLT, Nat.reduceLeDiff, look_cons, Nat.reduceBEq, cond_true, cond_false, resAll]
        have e : bookOk ⟨nx, ts, ps⟩ = true := by simp only [bookOk]; rw [hk0, hk1, hs]; rfl
        simp only [bookE, e, cond_true]
end Go.Proofs.Ytepphpbjgnapfaa
