import Derived.Test.YtepphpbjgnapfaaWpA
namespace Go.Proofs.Ytepphpbjgnapfaa
open Go.RowKit
set_option linter.unusedVariables false
set_option linter.unusedSimpArgs false
theorem F_off44_0 : offT Try.prog 44 0 = some 0 := by kernel_rfl
theorem F_off44_1 : offT Try.prog 44 1 = some 1 := by kernel_rfl
theorem F_off27_4 : offT Try.prog 27 4 = some 4 := by kernel_rfl
theorem F_off27_5 : offT Try.prog 27 5 = some 5 := by kernel_rfl
theorem F_off27_1 : offT Try.prog 27 1 = some 1 := by kernel_rfl
theorem F_off27_2 : offT Try.prog 27 2 = some 2 := by kernel_rfl
theorem F_off27_3 : offT Try.prog 27 3 = some 3 := by kernel_rfl
theorem F_zero44 : zeroT Try.prog 44 = some [(.int .i64 0), (.int .i64 0)] := by kernel_rfl
theorem F_bld44 : bldT Try.prog 44 = true := by kernel_rfl
theorem F_fld44_0 : fldT Try.prog 44 0 = some (0, 1) := by kernel_rfl
theorem F_fld44_1 : fldT Try.prog 44 1 = some (1, 1) := by kernel_rfl
theorem F_go40 : goFn Try.prog 40 := ⟨_, Try.func40, rfl, rfl⟩
theorem F_sl23 : sliceT Try.prog 23 = some 51 := by kernel_rfl
theorem F_sz51 : szT Try.prog 51 = 4 := by kernel_rfl
theorem F_ok51 : tyOk Try.prog 51 = true := by kernel_rfl
theorem F_ag51 : aggT Try.prog 51 = true := by kernel_rfl
theorem F_zero51 : zeroT Try.prog 51 = some [(.int .i64 0), (.int .i64 0), (.int .i64 0), (.int .i64 0)] := by kernel_rfl
theorem F_off51_0 : offT Try.prog 51 0 = some 0 := by kernel_rfl
theorem F_off51_1 : offT Try.prog 51 1 = some 2 := by kernel_rfl
theorem F_by3 : byT Try.prog 3 = 8 := by kernel_rfl
theorem F_go55 : goFn Try.prog 55 := ⟨_, Try.func55, rfl, rfl⟩
theorem keyOk_ (w n : Int) : ACalls Try.prog 40 [.agg [iv w, iv n]] [] (bv (keyOk w n)) := by
  refine acalls_S (rs := [.tmp 2]) Try.func40 rfl rfl 21 [(0, .d (.agg [iv w, iv n]))] rfl (by simp) rfl ?_
  refine awp_seq fun K0 hK0 => ?_
  refine awp_plain F_mixed [some 1, some 2] rfl ?_
  simp only [List.nil_append, List.cons_append, true_and, and_true, zz0, true_implies, Nat.reduceLT, Nat.reduceLeDiff, zzI, look_nil, Nat.reduceBEq, implies_true, zz35, newRow1, zz1, zzG, zzD, zz16, Option.some.injEq, exists_eq_left', exists_eq_left, Option.map_some, eq_self, reduceCtorEq, and_self, Nat.reduceAdd, Nat.zero_add, zzF, zzB, zzE, evS_assign, zz6, Nat.reduceEqDiff, ↓reduceIte]
  refine hK0 _ ?_; try clear hK0 K0
  refine awp_keepL [1] ?_
  simp only [zz20, zzI, look_nil, Nat.reduceBEq]
  refine awp_seq fun K0 hK0 => ?_
  refine awp_plain F_mixed [some 3, some 4, some 5, some 6, some 7, some 8, some 9, some 10, some 11, some 12, some 13, some 14, some 15, some 16, some 17, some 18, some 19, some 20, some 2] rfl ?_
  simp only [List.nil_append, List.cons_append, true_and, and_true, zz0, true_implies, Nat.reduceLT, Nat.reduceLeDiff, zzI, look_nil, Nat.reduceBEq, implies_true, Nat.reduceSub, S_getD, zz5, and_imp, imp_and, imp_self, and_self, zz19, zz23, F_off44_0, zzB, Nat.zero_add, Nat.reduceAdd, F_ok3, F_ag3, F_sz3, zz8, zzD, zzF, zzE, zz16, Option.some.injEq, exists_eq_left', exists_eq_left, Option.map_some, eq_self, reduceCtorEq, zz21, gr_v, zz31, evS_move, b_leq, pure_leq, zz13, pickK_l, pickK_r, F_off44_1, evS_assign, zz6, Nat.reduceEqDiff, ↓reduceIte]
  refine hK0 _ ?_; try clear hK0 K0
  refine awp_keepL [2] ?_
  simp only [zz20, zzI, look_nil, Nat.reduceBEq]
  refine awp_ret ?_
  simp only [zz6, Nat.reduceEqDiff, ↓reduceIte]
  refine done0 (by simp only [resCs, resC]; trivial) ?_ (by simp [flatA, flatAs, flatD]) (by simp [AV.ids, AV.idsL])
  simp only [List.map_cons, List.map_nil, resA, S_getD, Nat.reduceLT, Nat.reduceLeDiff, look_cons, Nat.reduceBEq, cond_true, cond_false, resAll]
  simp only [keyOk]
theorem bless_ (a b c d : Int) : ACalls Try.prog 42 [.agg [iv a, iv b], .agg [iv c, iv d]] [] (bv (keyLt a b c d)) := by
  refine acalls_S (rs := [.tmp 4]) Try.func42 rfl rfl 24 [(0, .d (.agg [iv a, iv b])), (1, .d (.agg [iv c, iv d]))] rfl (by simp) rfl ?_
  refine awp_seq fun K0 hK0 => ?_
  refine awp_plain F_mixed [some 2, some 3, some 4] rfl ?_
  simp only [List.nil_append, List.cons_append, true_and, and_true, zz0, true_implies, Nat.reduceLT, Nat.reduceLeDiff, zzI, look_nil, Nat.reduceBEq, implies_true, zz35, newRow1, zz1, zzG, zzD, zz16, Option.some.injEq, exists_eq_left', exists_eq_left, Option.map_some, eq_self, reduceCtorEq, and_self, Nat.reduceAdd, Nat.zero_add, zzF, zzB, zzE, evS_assign, zz6, Nat.reduceEqDiff, ↓reduceIte]
  refine hK0 _ ?_; try clear hK0 K0
  refine awp_keepL [2, 3] ?_
  simp only [zz20, zzI, look_nil, Nat.reduceBEq]
  refine awp_seq fun K0 hK0 => ?_
  refine awp_plain F_mixed [some 5, some 6, some 7, some 8, some 9, some 10, some 11, some 12, some 13, some 14, some 15, some 16, some 17, some 18, some 19, some 20, some 21, some 22, some 23, some 4] rfl ?_
  simp only [List.nil_append, List.cons_append, true_and, and_true, zz0, true_implies, Nat.reduceLT, Nat.reduceLeDiff, zzI, look_nil, Nat.reduceBEq, implies_true, Nat.reduceSub, S_getD, zz5, and_imp, imp_and, imp_self, and_self, zz19, zz23, F_off44_0, zzB, Nat.zero_add, Nat.reduceAdd, F_ok3, F_ag3, F_sz3, zz8, zzD, zzF, zzE, zz16, Option.some.injEq, exists_eq_left', exists_eq_left, Option.map_some, eq_self, reduceCtorEq, zz21, gr_v, zz22, evS_move, zz34, F_off44_1, zz13, pickK_l, pickK_r, evS_assign, zz6, Nat.reduceEqDiff, ↓reduceIte]
  refine hK0 _ ?_; try clear hK0 K0
  refine awp_keepL [4] ?_
  simp only [zz20, zzI, look_nil, Nat.reduceBEq]
  refine awp_ret ?_
  simp only [zz6, Nat.reduceEqDiff, ↓reduceIte]
  refine done0 (by simp only [resCs, resC]; trivial) ?_ (by simp [flatA, flatAs, flatD]) (by simp [AV.ids, AV.idsL])
  simp only [List.map_cons, List.map_nil, resA, S_getD, Nat.reduceLT, Nat.reduceLeDiff, look_cons, Nat.reduceBEq, cond_true, cond_false, resAll]
  simp only [keyLt]
theorem rtOk_ (t : TradeV) : ACalls Try.prog 29 [.agg (tradeC t)] [] (bv (rtOk t)) := by
  refine acalls_S (rs := [.tmp 2]) Try.func29 rfl rfl 44 [(0, .d (.agg (tradeC t)))] rfl (by simp) rfl ?_
  refine awp_seq fun K0 hK0 => ?_
  refine awp_plain F_mixed [some 1, some 2] rfl ?_
  simp only [List.nil_append, List.cons_append, true_and, and_true, zz0, true_implies, Nat.reduceLT, Nat.reduceLeDiff, zzI, look_nil, Nat.reduceBEq, implies_true, zz35, newRow1, zz1, zzG, zzD, zz16, Option.some.injEq, exists_eq_left', exists_eq_left, Option.map_some, eq_self, reduceCtorEq, and_self, Nat.reduceAdd, Nat.zero_add, zzF, zzB, zzE, evS_assign, tradeC, zz6, Nat.reduceEqDiff, ↓reduceIte]
  refine hK0 _ ?_; try clear hK0 K0
  refine awp_keepL [1] ?_
  simp only [zz20, zzI, look_nil, Nat.reduceBEq]
  refine awp_seq fun K0 hK0 => ?_
  refine awp_plain F_mixed [some 3, some 4, some 5, some 6, some 7, some 8, some 9, some 10, some 11, some 12, some 13, some 14, some 15, some 16, some 17, some 18, some 19, some 20, some 21, some 22, some 23, some 24, some 25, some 26, some 27, some 28, some 29, some 30, some 31, some 32, some 33, some 34, some 35, some 36, some 37, some 38, some 39, some 40, some 41, some 42, some 43, some 2] rfl ?_
  simp only [List.nil_append, List.cons_append, true_and, and_true, zz0, true_implies, Nat.reduceLT, Nat.reduceLeDiff, zzI, look_nil, Nat.reduceBEq, implies_true, Nat.reduceSub, S_getD, zz5, and_imp, imp_and, imp_self, and_self, zz19, zz23, F_off27_4, zzB, Nat.zero_add, Nat.reduceAdd, F_ok3, F_ag3, F_sz3, zz8, zzD, zzF, zzE, zz16, Option.some.injEq, exists_eq_left', exists_eq_left, Option.map_some, eq_self, reduceCtorEq, zz21, gr_v, zz31, evS_move, b_leq, pure_leq, zz13, pickK_l, pickK_r, F_off27_5, F_off27_1, F_off27_2, zz28, F_off27_3, F_zero44, F_bld44, zz7, splice, Option.getD_some, List.append_nil, zz1, zzG, zz10, F_fld44_0, F_fld44_1, evS_call, evC_value, evS_assign, D.agg.injEq, zz6, Nat.reduceEqDiff, ↓reduceIte]
  refine call_go F_go40 (fun hG => keyOk_ t.buyer t.inst) (by simp [AV.ids, AV.idsL]) (by simp) ?_
  simp only [List.nil_append, List.cons_append, true_and, and_true, zz0, true_implies, Nat.reduceLT, Nat.reduceLeDiff, zzI, look_nil, Nat.reduceBEq, implies_true, Nat.reduceSub, S_getD, zz5, and_imp, imp_and, imp_self, and_self, zz19, zz23, F_off27_4, zzB, Nat.zero_add, Nat.reduceAdd, F_ok3, F_ag3, F_sz3, zz8, zzD, zzF, zzE, zz16, Option.some.injEq, exists_eq_left', exists_eq_left, Option.map_some, eq_self, reduceCtorEq, zz21, gr_v, zz31, evS_move, b_leq, pure_leq, zz13, pickK_l, pickK_r, F_off27_5, F_off27_1, F_off27_2, zz28, F_off27_3, F_zero44, F_bld44, zz7, splice, Option.getD_some, List.append_nil, zz1, zzG, zz10, F_fld44_0, F_fld44_1, evS_call, evC_value, evS_assign, D.agg.injEq, zz6, Nat.reduceEqDiff, ↓reduceIte, atsL, oksG, freeN, AV.ren, AV.renL, addRows, ORow.row, Nat.reduceMul, Nat.reduceAdd, zz9, Option.bind_some, Option.map_some, forall_eq', D.sl.injEq, S_mem, Option.some.injEq, exists_eq_left', exists_eq_left, exists_eq', exists_eq, List.length_cons, zz2]
  refine call_go F_go40 (fun hG => keyOk_ t.seller t.inst) (by simp [AV.ids, AV.idsL]) (by simp) ?_
  simp only [List.nil_append, List.cons_append, true_and, and_true, zz0, true_implies, Nat.reduceLT, Nat.reduceLeDiff, zzI, look_nil, Nat.reduceBEq, implies_true, Nat.reduceSub, S_getD, zz5, and_imp, imp_and, imp_self, and_self, zz19, zz23, F_off27_4, zzB, Nat.zero_add, Nat.reduceAdd, F_ok3, F_ag3, F_sz3, zz8, zzD, zzF, zzE, zz16, Option.some.injEq, exists_eq_left', exists_eq_left, Option.map_some, eq_self, reduceCtorEq, zz21, gr_v, zz31, evS_move, b_leq, pure_leq, zz13, pickK_l, pickK_r, F_off27_5, F_off27_1, F_off27_2, zz28, F_off27_3, F_zero44, F_bld44, zz7, splice, Option.getD_some, List.append_nil, zz1, zzG, zz10, F_fld44_0, F_fld44_1, evS_call, evC_value, evS_assign, D.agg.injEq, zz6, Nat.reduceEqDiff, ↓reduceIte, atsL, oksG, freeN, AV.ren, AV.renL, addRows, ORow.row, Nat.reduceMul, Nat.reduceAdd, zz9, Option.bind_some, Option.map_some, forall_eq', D.sl.injEq, S_mem, Option.some.injEq, exists_eq_left', exists_eq_left, exists_eq', exists_eq, List.length_cons, zz2]
  refine hK0 _ ?_; try clear hK0 K0
  refine awp_keepL [2] ?_
  simp only [zz20, zzI, look_nil, Nat.reduceBEq]
  refine awp_ret ?_
  simp only [zz6, Nat.reduceEqDiff, ↓reduceIte]
  refine done0 (by simp only [resCs, resC]; trivial) ?_ (by simp [flatA, flatAs, flatD]) (by simp [AV.ids, AV.idsL])
  simp only [List.map_cons, List.map_nil, resA, S_getD, Nat.reduceLT, Nat.reduceLeDiff, look_cons, Nat.reduceBEq, cond_true, cond_false, resAll]
  simp only [rtOk]
theorem level_ (l : List PosV) (hl : l.length ≤ 500000) : ACalls Try.prog 43 [poss l] [] (bv (levelOk l)) := by
  refine acalls_S (rs := [.tmp 2]) Try.func43 rfl rfl 41 [(0, .d (poss l))] rfl (by simp) rfl ?_
  refine awp_seq fun K0 hK0 => ?_
  refine awp_plain F_mixed [some 2] rfl ?_
  simp only [List.nil_append, List.cons_append, true_and, and_true, zz0, true_implies, Nat.reduceLT, Nat.reduceLeDiff, zzI, look_nil, Nat.reduceBEq, implies_true, evS_assign, zz6, Nat.reduceEqDiff, ↓reduceIte]
  refine hK0 _ ?_; try clear hK0 K0
  refine awp_keepL [0] ?_
  simp only [zz20, zzI, look_nil, Nat.reduceBEq]
  refine awp_seq fun K0 hK0 => ?_
  refine awp_seq fun K1 hK1 => ?_
  refine awp_plain F_mixed [some 3] rfl ?_
  simp only [List.nil_append, List.cons_append, true_and, and_true, zz0, true_implies, Nat.reduceLT, Nat.reduceLeDiff, zzI, look_nil, Nat.reduceBEq, implies_true, evS_assign, zz6, Nat.reduceEqDiff, ↓reduceIte]
  refine hK1 _ ?_; try clear hK1 K1
  refine awp_keepL [0, 3] ?_
  simp only [zz20, zzI, look_nil, Nat.reduceBEq]
  refine awp_block ?_
  refine awp_loop (fun m s => ∃ k : Nat, k ≤ 8 ∧ levelTo l k = true ∧ m = 8 - k ∧ s = S 41 [(0, .d (poss l)), (3, .d (iv ((k : Nat) + 1 : Int)))] []) 8 _ (le_S0 (l' := [(0, .d (poss l)), (3, .d (iv ((0 : Nat) + 1 : Int)))]) ?_ ?_) ⟨0, by decide, rfl, rfl, rfl⟩ ?_
  · simp only [leL, look_cons, Nat.reduceBEq, cond_true, cond_false]; trivial
  · simp [wfV, AV.ids]
  rintro m s ⟨k, hk8, hlv, rfl, rfl⟩
  refine awp_seq fun K2 hK2 => ?_
  refine awp_seq fun K3 hK3 => ?_
  refine awp_plain F_mixed [some 9, some 10] rfl ?_
  simp only [List.nil_append, List.cons_append, true_and, and_true, zz0, true_implies, Nat.reduceLT, Nat.reduceLeDiff, zzI, look_nil, Nat.reduceBEq, implies_true, evS_move, zz21, gr_v, b_leq, pure_leq, zz6, Nat.reduceEqDiff, ↓reduceIte]
  refine hK3 _ ?_; try clear hK3 K3
  refine awp_keepL [0, 3, 10] ?_
  simp only [zz20, zzI, look_nil, Nat.reduceBEq]
  refine awp_condS _ (by decide) (by simp only [look_cons, Nat.reduceBEq, cond_true, cond_false]; rfl) ?_ ?_
  · intro hb
    have hk : k < 8 := by simp at hb; omega
    clear hb
    have hw : IntKind.wrap .i64 (((k : Nat) : Int) + 1 + 1) = (((k + 1 : Nat) : Int) + 1) := by rw [wrapI (by omega) (by omega)]; omega
    refine awp_skip ?_
    simp only [zz6, Nat.reduceEqDiff, ↓reduceIte]
    refine hK2 _ ?_; try clear hK2 K2
    refine awp_keepL [0, 3] ?_
    simp only [zz20, zzI, look_nil, Nat.reduceBEq]
    refine awp_seq fun K2 hK2 => ?_
    refine awp_block ?_
    refine awp_seq fun K3 hK3 => ?_
    refine awp_plain F_mixed [some 4] rfl ?_
    simp only [List.nil_append, List.cons_append, true_and, and_true, zz0, true_implies, Nat.reduceLT, Nat.reduceLeDiff, zzI, look_nil, Nat.reduceBEq, implies_true, evS_assign, zz6, Nat.reduceEqDiff, ↓reduceIte]
    refine hK3 _ ?_; try clear hK3 K3
    refine awp_keepL [0, 3, 4] ?_
    simp only [zz20, zzI, look_nil, Nat.reduceBEq]
    refine awp_seq fun K3 hK3 => ?_
    refine awp_seq fun K4 hK4 => ?_
    refine awp_plain F_mixed [some 13, some 14, some 15] rfl ?_
    simp only [List.nil_append, List.cons_append, true_and, and_true, zz0, true_implies, Nat.reduceLT, Nat.reduceLeDiff, zzI, look_nil, Nat.reduceBEq, implies_true, evS_move, evS_call, zz12, F_sl23, Option.isSome_some, poss, len_map, zz6, Nat.reduceEqDiff, ↓reduceIte]
    refine hK4 _ ?_; try clear hK4 K4
    refine awp_keepL [0, 3, 4, 13, 14, 15] ?_
    simp only [zz20, zzI, look_nil, Nat.reduceBEq]
    refine awp_block ?_
    refine awp_loop (fun m s => ∃ pre post : List PosV, l = pre ++ post ∧ m = post.length ∧ s = S 41 [(0, .d (poss (pre ++ post))), (3, .d (iv ((k : Nat) + 1 : Int))), (4, .ref 4 (levelQ pre (k + 1)).length), (13, .d (poss (pre ++ post))), (14, .d (iv (pre ++ post).length)), (15, .d (iv pre.length))] [(4, grow 3 1 4 ((levelQ pre (k + 1)).map fun n => [iv n]))]) l.length _ (le_SK id [4] rfl (l' := [(0, .d (poss (([] : List PosV) ++ l))), (3, .d (iv ((k : Nat) + 1 : Int))), (4, .ref 4 (levelQ ([] : List PosV) (k + 1)).length), (13, .d (poss (([] : List PosV) ++ l))), (14, .d (iv (([] : List PosV) ++ l).length)), (15, .d (iv ([] : List PosV).length))]) (m' := [(4, grow 3 1 4 ((levelQ ([] : List PosV) (k + 1)).map fun n => [iv n]))]) ?_ ?_ ?_ ?_) ⟨[], l, rfl, rfl, rfl⟩ ?_
    · simp only [leV, look_cons, Nat.reduceBEq, cond_true, cond_false, poss, len_map, List.nil_append]; exact ⟨VLe.still rfl, VLe.still rfl, VLe.nil_ (by decide), VLe.still rfl, VLe.still rfl, VLe.still rfl, trivial⟩
    · exact ⟨fun h => by simp at h, fun _ => rfl, trivial⟩
    · simp [wfV, AV.ids, lookR]
    · simp [wfR, grow, levelQ]
    rintro m s ⟨pre, post, hsp, rfl, rfl⟩
    have hql := levelQ_len pre (k + 1)
    refine awp_seq fun K5 hK5 => ?_
    refine awp_plain F_mixed [some 16] rfl ?_
    simp only [List.nil_append, List.cons_append, true_and, and_true, zz0, true_implies, Nat.reduceLT, Nat.reduceLeDiff, zzI, look_nil, Nat.reduceBEq, implies_true, zz21, gr_v, zz22, zz6, Nat.reduceEqDiff, ↓reduceIte]
    refine hK5 _ ?_; try clear hK5 K5
    refine awp_keepL [0, 3, 4, 13, 14, 15, 16] ?_
    simp only [zz20, zzI, look_nil, Nat.reduceBEq]
    refine awp_seq fun K5 hK5 => ?_
    refine awp_condS _ (by decide) (by simp only [look_cons, Nat.reduceBEq, cond_true, cond_false]; rfl) ?_ ?_
    · intro hb
      obtain ⟨x, post, rfl⟩ := more_of hb; clear hb
      refine awp_skip ?_
      simp only [zz6, Nat.reduceEqDiff, ↓reduceIte]
      refine hK5 _ ?_; try clear hK5 K5
      refine awp_keepL [0, 3, 4, 13, 14, 15] ?_
      simp only [zz20, zzI, look_nil, Nat.reduceBEq]
      refine awp_seq fun K5 hK5 => ?_
      refine awp_block ?_
      refine awp_seq fun K6 hK6 => ?_
      refine awp_plain F_mixed [some 17, some 18, some 6, none] rfl ?_
      simp only [List.nil_append, List.cons_append, true_and, and_true, zz0, true_implies, Nat.reduceLT, Nat.reduceLeDiff, zzI, look_nil, Nat.reduceBEq, implies_true, evS_indexAddr, zz23, zz24, F_sl23, F_sz51, Option.map_some, zz16, Option.some.injEq, exists_eq_left', exists_eq_left, eq_self, reduceCtorEq, and_self, F_ok51, F_ag51, zz8, zzD, Nat.reduceAdd, Nat.zero_add, zzF, zzB, zzE, zz32, newRow1, F_zero51, zz10, zz18, splice, List.append_nil, zz1, zzG, poss, posC, getD_mid, len_map, lt_mid, ge_mid, zz6, Nat.reduceEqDiff, ↓reduceIte]
      refine hK6 _ ?_; try clear hK6 K6
      refine awp_keepL [0, 3, 4, 6, 13, 14, 15] ?_
      simp only [zz20, zzI, look_nil, Nat.reduceBEq]
      refine awp_seq fun K6 hK6 => ?_
      refine awp_plain F_mixed [some 19, some 20, some 21, some 22, some 23] rfl ?_
      simp only [List.nil_append, List.cons_append, true_and, and_true, zz0, true_implies, Nat.reduceLT, Nat.reduceLeDiff, zzI, look_nil, Nat.reduceBEq, implies_true, zz19, zz23, F_off51_0, zzB, Nat.zero_add, Nat.reduceAdd, F_off44_1, F_ok3, F_ag3, F_sz3, zz8, zzD, zzF, zzE, zz16, Option.some.injEq, exists_eq_left', exists_eq_left, Option.map_some, eq_self, reduceCtorEq, and_self, evS_move, zz21, gr_v, zz34, zz6, Nat.reduceEqDiff, ↓reduceIte]
      refine hK6 _ ?_; try clear hK6 K6
      refine awp_keepL [0, 3, 4, 6, 13, 14, 15, 23] ?_
      simp only [zz20, zzI, look_nil, Nat.reduceBEq]
      refine awp_condS _ (by decide) (by simp only [look_cons, Nat.reduceBEq, cond_true, cond_false]; rfl) ?_ ?_
      · intro hb
        have hs : (x.inst == ((k : Nat) + 1 : Int)) = true := hb
        clear hb
        refine awp_plain F_mixed [some 24, some 25, some 26, some 27, some 28, some 4] rfl ?_
        simp only [List.nil_append, List.cons_append, true_and, and_true, zz0, true_implies, Nat.reduceLT, Nat.reduceLeDiff, zzI, look_nil, Nat.reduceBEq, implies_true, evS_move, zz19, zz23, F_off51_1, zzB, Nat.zero_add, Nat.reduceAdd, F_ok3, F_ag3, F_sz3, zz8, zzD, zzF, zzE, zz16, Option.some.injEq, exists_eq_left', exists_eq_left, Option.map_some, eq_self, reduceCtorEq, and_self, F_sl68, F_zero3, zz3, newRow1, zz1, zzG, maxLen_le, Nat.reduceMul, evS_call, F_by3, zz4, zz9, Option.bind_some, evS_assign, poss, posC, getD_mid, len_map, lt_mid, ge_mid, grow, unDs_map, zz6, Nat.reduceEqDiff, ↓reduceIte]
        have hm : (levelQ pre (k + 1)).length + 1 ≤ 1000000 := by have e := congrArg List.length hsp; simp only [List.length_append, List.length_cons] at e; omega
        first | refine ⟨le_maxLen hm, by omega, ?_⟩ | refine ⟨by simp, le_maxLen hm, by omega, ?_⟩
        clear hm
        refine hK5 _ ?_; try clear hK5 K5
        refine awp_keepL [0, 3, 4, 13, 14, 15] ?_
        simp only [zz20, zzI, look_nil, Nat.reduceBEq]
        refine awp_plain F_mixed [some 29, some 15] rfl ?_
        simp only [List.nil_append, List.cons_append, true_and, and_true, zz0, true_implies, Nat.reduceLT, Nat.reduceLeDiff, zzI, look_nil, Nat.reduceBEq, implies_true, zz21, gr_v, zz26, evS_move, zz6, Nat.reduceEqDiff, ↓reduceIte]
        refine ⟨post.length, _, by simp, le_SK (fun r => bif r == 4 then 28 else r) [] rfl (l' := [(0, .d (poss ((pre ++ [x]) ++ post))), (3, .d (iv ((k : Nat) + 1 : Int))), (4, .ref 4 (levelQ (pre ++ [x]) (k + 1)).length), (13, .d (poss ((pre ++ [x]) ++ post))), (14, .d (iv ((pre ++ [x]) ++ post).length)), (15, .d (iv (pre ++ [x]).length))]) (m' := [(4, grow 3 1 4 ((levelQ (pre ++ [x]) (k + 1)).map fun n => [iv n]))]) ?_ ?_ ?_ ?_, pre ++ [x], post, by simp [hsp], rfl, rfl⟩
        · simp only [leV, look_cons, Nat.reduceBEq, cond_true, cond_false, poss, len_map, List.append_assoc, List.singleton_append, wrap_len pre x (by have e := congrArg List.length hsp; simp only [List.length_append, List.length_cons, List.length_map] at e; omega)]
          refine ⟨VLe.still rfl, VLe.still rfl, ?_, VLe.still rfl, VLe.still rfl, VLe.still rfl, trivial⟩
          rw [levelQ_yes hs]
          rw [show (AV.ref 28 _ : AV) = .ref ((fun r => bif r == 4 then 28 else r) 4) (levelQ pre (k + 1) ++ [x.qty]).length from by simp]; try exact VLe.ref_ (f := (fun r => bif r == 4 then 28 else r)) (r := 4) (by simp)
        · exact ⟨fun _ => ⟨_, rfl, RowLe.data_ (by rw [levelQ_yes hs] <;> simp)⟩, fun h => by simp at h, trivial⟩
        · simp [wfV, AV.ids, lookR, grow]
        · exact ⟨wf_data _ _, trivial⟩
      · intro hb
        have hs : (x.inst == ((k : Nat) + 1 : Int)) = false := hb
        clear hb
        refine awp_skip ?_
        simp only [zz6, Nat.reduceEqDiff, ↓reduceIte]
        refine hK5 _ ?_; try clear hK5 K5
        refine awp_keepL [0, 3, 4, 13, 14, 15] ?_
        simp only [zz20, zzI, look_nil, Nat.reduceBEq]
        refine awp_plain F_mixed [some 29, some 15] rfl ?_
        simp only [List.nil_append, List.cons_append, true_and, and_true, zz0, true_implies, Nat.reduceLT, Nat.reduceLeDiff, zzI, look_nil, Nat.reduceBEq, implies_true, zz21, gr_v, zz26, evS_move, zz6, Nat.reduceEqDiff, ↓reduceIte]
        refine ⟨post.length, _, by simp, le_SK (fun r => bif r == 4 then 4 else r) [] rfl (l' := [(0, .d (poss ((pre ++ [x]) ++ post))), (3, .d (iv ((k : Nat) + 1 : Int))), (4, .ref 4 (levelQ (pre ++ [x]) (k + 1)).length), (13, .d (poss ((pre ++ [x]) ++ post))), (14, .d (iv ((pre ++ [x]) ++ post).length)), (15, .d (iv (pre ++ [x]).length))]) (m' := [(4, grow 3 1 4 ((levelQ (pre ++ [x]) (k + 1)).map fun n => [iv n]))]) ?_ ?_ ?_ ?_, pre ++ [x], post, by simp [hsp], rfl, rfl⟩
        · simp only [leV, look_cons, Nat.reduceBEq, cond_true, cond_false, poss, len_map, List.append_assoc, List.singleton_append, wrap_len pre x (by have e := congrArg List.length hsp; simp only [List.length_append, List.length_cons, List.length_map] at e; omega)]
          refine ⟨VLe.still rfl, VLe.still rfl, ?_, VLe.still rfl, VLe.still rfl, VLe.still rfl, trivial⟩
          rw [levelQ_no hs]
          rw [show (AV.ref 4 _ : AV) = .ref ((fun r => bif r == 4 then 4 else r) 4) (levelQ pre (k + 1)).length from by simp]; try exact VLe.ref_ (f := (fun r => bif r == 4 then 4 else r)) (r := 4) (by simp)
        · exact ⟨fun _ => ⟨_, rfl, RowLe.data_ (by rw [levelQ_no hs] <;> simp)⟩, fun h => by simp at h, trivial⟩
        · simp [wfV, AV.ids, lookR, grow]
        · exact ⟨wf_data _ _, trivial⟩
    · intro hb
      obtain rfl := none_of hb; clear hb
      simp only [List.append_nil] at hsp ⊢
      obtain rfl : l = pre := hsp
      refine awp_exit ?_
      simp only [zz6, Nat.reduceEqDiff, ↓reduceIte]
      refine hK3 _ ?_; try clear hK3 K3
      refine awp_keepL [0, 3, 4] ?_
      simp only [zz20, zzI, look_nil, Nat.reduceBEq]
      refine awp_seq fun K3 hK3 => ?_
      refine awp_plain F_mixed [some 31, some 32, some 30, some 33, some 34, some 7, some 8] rfl ?_
      simp only [List.nil_append, List.cons_append, true_and, and_true, zz0, true_implies, Nat.reduceLT, Nat.reduceLeDiff, zzI, look_nil, Nat.reduceBEq, implies_true, evS_move, evS_call, evC_value, zz14, zzD, Nat.reduceAdd, Nat.zero_add, zzF, evS_assign, ints, grow, len_map, zz6, Nat.reduceEqDiff, ↓reduceIte]
      refine call_go F_go55 (fun hG => Sum_ (levelQ l (k + 1)) (by omega)) (by simp [AV.ids, AV.idsL]) (by simp) ?_
      simp only [List.nil_append, List.cons_append, true_and, and_true, zz0, true_implies, Nat.reduceLT, Nat.reduceLeDiff, zzI, look_nil, Nat.reduceBEq, implies_true, evS_move, evS_call, evC_value, zz14, zzD, Nat.reduceAdd, Nat.zero_add, zzF, evS_assign, ints, grow, len_map, zz6, Nat.reduceEqDiff, ↓reduceIte, atsL, oksG, freeN, AV.ren, AV.renL, addRows, ORow.row, Nat.reduceMul, Nat.reduceAdd, zz9, Option.bind_some, Option.map_some, forall_eq', D.sl.injEq, zz16, Option.some.injEq, exists_eq_left', exists_eq_left, exists_eq', exists_eq, List.length_cons, zz2]
      try refine ⟨by simp, ?_⟩
      refine hK3 _ ?_; try clear hK3 K3
      refine awp_keepL [0, 3, 7, 8] ?_
      simp only [zz20, zzI, look_nil, Nat.reduceBEq]
      refine awp_seq fun K3 hK3 => ?_
      refine awp_plain F_mixed [some 35, some 36, some 37, some 38, some 39, some 40] rfl ?_
      simp only [List.nil_append, List.cons_append, true_and, and_true, zz0, true_implies, Nat.reduceLT, Nat.reduceLeDiff, zzI, look_nil, Nat.reduceBEq, implies_true, Nat.reduceSub, S_getD, zz5, and_imp, imp_and, imp_self, and_self, evS_move, zz21, gr_v, zz28, zz13, pickK_l, pickK_r, zz6, Nat.reduceEqDiff, ↓reduceIte]
      refine hK3 _ ?_; try clear hK3 K3
      refine awp_keepL [0, 3, 40] ?_
      simp only [zz20, zzI, look_nil, Nat.reduceBEq]
      refine awp_condS _ (by decide) (by simp only [look_cons, Nat.reduceBEq, cond_true, cond_false]; rfl) ?_ ?_
      · intro hb
        have hli : levelI l (k + 1) = false := lev_f hb
        clear hb
        refine awp_seq fun K4 hK4 => ?_
        refine awp_plain F_mixed [some 2] rfl ?_
        simp only [List.nil_append, List.cons_append, true_and, and_true, zz0, true_implies, Nat.reduceLT, Nat.reduceLeDiff, zzI, look_nil, Nat.reduceBEq, implies_true, evS_assign, zz6, Nat.reduceEqDiff, ↓reduceIte]
        refine hK4 _ ?_; try clear hK4 K4
        refine awp_keepL [2] ?_
        simp only [zz20, zzI, look_nil, Nat.reduceBEq]
        refine awp_ret ?_
        simp only [zz6, Nat.reduceEqDiff, ↓reduceIte]
        refine done0 (by simp only [resCs, resC]; trivial) ?_ (by simp [flatA, flatAs, flatD]) (by simp [AV.ids, AV.idsL])
        simp only [List.map_cons, List.map_nil, resA, S_getD, Nat.reduceLT, Nat.reduceLeDiff, look_cons, Nat.reduceBEq, cond_true, cond_false, resAll]
        rw [levelTo_false hk hli]
      · intro hb
        have hli : levelI l (k + 1) = true := lev_t hb
        clear hb
        refine awp_skip ?_
        simp only [zz6, Nat.reduceEqDiff, ↓reduceIte]
        refine hK2 _ ?_; try clear hK2 K2
        refine awp_keepL [0, 3] ?_
        simp only [zz20, zzI, look_nil, Nat.reduceBEq]
        refine awp_plain F_mixed [some 11, some 12, some 3] rfl ?_
        simp only [List.nil_append, List.cons_append, true_and, and_true, zz0, true_implies, Nat.reduceLT, Nat.reduceLeDiff, zzI, look_nil, Nat.reduceBEq, implies_true, evS_move, zz21, gr_v, zz26, evS_assign, zz6, Nat.reduceEqDiff, ↓reduceIte]
        refine ⟨8 - (k + 1), _, by omega, le_S0 (l' := [(0, .d (poss l)), (3, .d (iv (((k + 1) : Nat) + 1 : Int)))]) ?_ ?_, k + 1, by omega, by rw [levelTo_succ, hlv, hli]; rfl, rfl, rfl⟩
        · simp only [leL, look_cons, Nat.reduceBEq, cond_true, cond_false, hw]; trivial
        · simp [wfV, AV.ids]
  · intro hb
    have hk : k = 8 := by simp at hb; omega
    clear hb
    subst hk
    refine awp_exit ?_
    simp only [zz6, Nat.reduceEqDiff, ↓reduceIte]
    refine hK0 _ ?_; try clear hK0 K0
    refine awp_keepL [] ?_
    simp only [zz20, zzI, look_nil, Nat.reduceBEq]
    refine awp_seq fun K0 hK0 => ?_
    refine awp_plain F_mixed [some 2] rfl ?_
    simp only [List.nil_append, List.cons_append, true_and, and_true, zz0, true_implies, Nat.reduceLT, Nat.reduceLeDiff, zzI, look_nil, Nat.reduceBEq, implies_true, evS_assign, zz6, Nat.reduceEqDiff, ↓reduceIte]
    refine hK0 _ ?_; try clear hK0 K0
    refine awp_keepL [2] ?_
    simp only [zz20, zzI, look_nil, Nat.reduceBEq]
    refine awp_ret ?_
    simp only [zz6, Nat.reduceEqDiff, ↓reduceIte]
    refine done0 (by simp only [resCs, resC]; trivial) ?_ (by simp [flatA, flatAs, flatD]) (by simp [AV.ids, AV.idsL])
    simp only [List.map_cons, List.map_nil, resA, S_getD, Nat.reduceLT, Nat.reduceLeDiff, look_cons, Nat.reduceBEq, cond_true, cond_false, resAll]
    rw [show levelOk l = true from hlv]
end Go.Proofs.Ytepphpbjgnapfaa
