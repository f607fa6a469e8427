import Derived.Test.YtepphpbjgnapfaaWpL
namespace Go.Proofs.Ytepphpbjgnapfaa
open Go.RowKit
set_option linter.unusedVariables false
set_option linter.unusedSimpArgs false
theorem F_go21 : goFn Try.prog 21 := ⟨_, Try.func21, rfl, rfl⟩
theorem F_go17 : goFn Try.prog 17 := ⟨_, Try.func17, rfl, rfl⟩
theorem F_go24 : goFn Try.prog 24 := ⟨_, Try.func24, rfl, rfl⟩
theorem F_fld51_1 : fldT Try.prog 51 1 = some (2, 1) := by kernel_rfl
theorem F_fld51_2 : fldT Try.prog 51 2 = some (3, 1) := by kernel_rfl
set_option maxRecDepth 100000 in
set_option maxHeartbeats 4000000 in
theorem rAdd_ (nx : Int) (ts : List TradeV) (ps g : List PosV) (ht : ts.length ≤ 200000) (hp : ps.length ≤ 200000) (hg : g.length ≤ 200000) : ACalls Try.prog 26 [.agg (bookC ⟨nx, ts, ps⟩), poss g] [⟨27, 7, (addV ⟨nx, ts, ps⟩ g).trades.map tradeC⟩, ⟨51, 4, (addV ⟨nx, ts, ps⟩ g).poss.map posC⟩] (.tp [.ag [.d (iv (addV ⟨nx, ts, ps⟩ g).next), .ref 0 (addV ⟨nx, ts, ps⟩ g).trades.length, .ref 1 (addV ⟨nx, ts, ps⟩ g).poss.length], .d (iv (addE ⟨nx, ts, ps⟩ g))]) := by
  refine acalls_S (rs := [.cell 4 25, .tmp 5]) Try.func26 rfl rfl 199 [(0, .d (.agg (bookC ⟨nx, ts, ps⟩))), (1, .d (poss g))] rfl (by simp) rfl ?_
  refine awp_seq fun K0 hK0 => ?_
  refine awp_plain F_mixed [some 2, some 4, some 5] rfl ?_
  simp only [List.nil_append, List.cons_append, true_and, and_true, zz0, true_implies, Nat.reduceLT, Nat.reduceLeDiff, zzI, look_nil, Nat.reduceBEq, implies_true, zz35, newRow1, zz1, zzG, zzD, zz16, Option.some.injEq, exists_eq_left', exists_eq_left, Option.map_some, eq_self, reduceCtorEq, and_self, Nat.reduceAdd, Nat.zero_add, zzF, zzB, zzE, zz32, F_zero25, zz10, evS_assign, bookC, tradesB, poss, zz6, Nat.reduceEqDiff, ↓reduceIte]
  refine hK0 _ ?_; try clear hK0 K0
  refine awp_keepL [1, 2, 4] ?_
  simp only [zz20, zzI, look_nil, Nat.reduceBEq]
  refine awp_seq fun K0 hK0 => ?_
  refine awp_seq fun K1 hK1 => ?_
  refine awp_plain F_mixed [some 23, some 24, some 25] rfl ?_
  simp only [List.nil_append, List.cons_append, true_and, and_true, zz0, true_implies, Nat.reduceLT, Nat.reduceLeDiff, zzI, look_nil, Nat.reduceBEq, implies_true, F_ok25, F_ag25, F_sz25, zz8, zz23, zzD, Nat.reduceAdd, Nat.zero_add, zzF, zzB, zzE, zz16, Option.some.injEq, exists_eq_left', exists_eq_left, Option.map_some, eq_self, reduceCtorEq, and_self, evS_call, evC_value, zz29, gr_v, zz30, bookC, tradesB, poss, D.agg.injEq, zz6, Nat.reduceEqDiff, ↓reduceIte]
  refine call_go F_go21 (fun hG => rBook_ nx ts ps (by omega) (by omega)) (by simp [AV.ids, AV.idsL]) (by simp) ?_
  simp only [List.nil_append, List.cons_append, true_and, and_true, zz0, true_implies, Nat.reduceLT, Nat.reduceLeDiff, zzI, look_nil, Nat.reduceBEq, implies_true, F_ok25, F_ag25, F_sz25, zz8, zz23, zzD, Nat.reduceAdd, Nat.zero_add, zzF, zzB, zzE, zz16, Option.some.injEq, exists_eq_left', exists_eq_left, Option.map_some, eq_self, reduceCtorEq, and_self, evS_call, evC_value, zz29, gr_v, zz30, bookC, tradesB, poss, D.agg.injEq, zz6, Nat.reduceEqDiff, ↓reduceIte, atsL, oksG, freeN, AV.ren, AV.renL, addRows, ORow.row, Nat.reduceMul, Nat.reduceAdd, zz9, Option.bind_some, Option.map_some, forall_eq', D.sl.injEq, S_mem, Option.some.injEq, exists_eq_left', exists_eq_left, exists_eq', exists_eq, List.length_cons, zz2]
  refine hK1 _ ?_; try clear hK1 K1
  refine awp_keepL [1, 2, 4, 25] ?_
  simp only [zz20, zzI, look_nil, Nat.reduceBEq]
  refine awp_condS _ (by decide) (by simp only [look_cons, Nat.reduceBEq, cond_true, cond_false]; rfl) ?_ ?_
  · intro hb
    have ho : bookOk ⟨nx, ts, ps⟩ = false := by simpa using hb
    clear hb
    refine awp_seq fun K2 hK2 => ?_
    refine awp_plain F_mixed [some 26, none, some 5] rfl ?_
    simp only [List.nil_append, List.cons_append, true_and, and_true, zz0, true_implies, Nat.reduceLT, Nat.reduceLeDiff, zzI, look_nil, Nat.reduceBEq, implies_true, F_zero25, F_bld25, zz7, splice, Option.getD_some, List.append_nil, zz1, zzG, zzD, zz16, Option.some.injEq, exists_eq_left', exists_eq_left, Option.map_some, eq_self, reduceCtorEq, and_self, Nat.reduceAdd, Nat.zero_add, zzF, zzB, zzE, zz10, zz18, F_ok25, F_sz25, evS_assign, zz6, Nat.reduceEqDiff, ↓reduceIte]
    refine hK2 _ ?_; try clear hK2 K2
    refine awp_keepL [4, 5] ?_
    simp only [zz20, zzI, look_nil, Nat.reduceBEq]
    have e : addE ⟨nx, ts, ps⟩ g = 14 := by rw [addE_def, ho]; try rfl
    have ev : addV ⟨nx, ts, ps⟩ g = ⟨0, [], []⟩ := add_no (by rw [e]; decide)
    refine awp_le (le_SK id [0, 1] rfl (l' := [(4, .ptr 4 0 0), (5, .d (iv 14))]) (m' := [(4, (⟨True, 25, 3, true, false, 4, [[.d (.v (.int .i64 0)), .ref 0 0, .ref 1 0]]⟩ : ARow)), (0, (⟨True, 27, 7, true, true, 0, []⟩ : ARow)), (1, (⟨True, 51, 4, true, true, 1, []⟩ : ARow))]) ?_ ?_ ?_ ?_) ?_
    · simp only [leV, look_cons, Nat.reduceBEq, cond_true, cond_false]; exact ⟨VLe.ptr_ (f := id) (by decide), VLe.still rfl, trivial⟩
    · exact ⟨fun _ => ⟨_, rfl, RowLe.cells (VLess.one_ (VLes.cons_ (VLe.still rfl) (VLes.cons_ (VLe.nil_ (by decide)) (VLes.cons_ (VLe.nil_ (by decide)) VLes.nil_))))⟩, fun h => by simp at h, fun h => by simp at h, fun _ => rfl, fun h => by simp at h, fun _ => rfl, trivial⟩
    · simp [wfV, AV.ids, lookR]
    · simp [wfR, AV.idsL, AV.ids, lookR]
    refine awp_ret ?_
    simp only [zz6, Nat.reduceEqDiff, ↓reduceIte]
    rw [ev, e]
    refine doneN [0, 1] (by simp [resCs, resC, S, List.getD, look_cons, lookR, F_ag25, F_sz25, F_ok25]) ?_ (by simp [flatA, flatAs, flatD, ]) (by simp [AV.ids, AV.idsL, ]) (by decide) ?_
    · simp only [List.map_cons, List.map_nil, resA, S_getD, S_mem, lookR_cons, lookR_nil, Nat.reduceLT, Nat.reduceLeDiff, look_cons, Nat.reduceBEq, cond_true, cond_false, resAll, List.getD_cons_zero, List.getD_cons_succ, List.drop_zero, List.drop_succ_cons, List.take_succ_cons, List.take_zero, F_ag25, F_sz25, F_ok25]; rfl
    · exact ⟨⟨_, rfl, trivial, rfl, rfl, rfl, rfl⟩, by simp [flatDs, flatD, tradeC], ⟨_, rfl, trivial, rfl, rfl, rfl, rfl⟩, by simp [flatDs, flatD, posC], trivial⟩
  · intro hb
    have ho : bookOk ⟨nx, ts, ps⟩ = true := by simpa using hb
    clear hb
    have hG := (bookOk_iff _).1 ho
    refine awp_skip ?_
    simp only [zz6, Nat.reduceEqDiff, ↓reduceIte]
    refine hK0 _ ?_; try clear hK0 K0
    refine awp_keepL [1, 2, 4] ?_
    simp only [zz20, zzI, look_nil, Nat.reduceBEq]
    refine awp_seq fun K0 hK0 => ?_
    refine awp_seq fun K1 hK1 => ?_
    refine awp_plain F_mixed [some 6] rfl ?_
    simp only [List.nil_append, List.cons_append, true_and, and_true, zz0, true_implies, Nat.reduceLT, Nat.reduceLeDiff, zzI, look_nil, Nat.reduceBEq, implies_true, evS_assign, zz6, Nat.reduceEqDiff, ↓reduceIte]
    refine hK1 _ ?_; try clear hK1 K1
    refine awp_keepL [1, 2, 4, 6] ?_
    simp only [zz20, zzI, look_nil, Nat.reduceBEq]
    refine awp_block ?_
    refine awp_loop (fun m s => ∃ (pre : List PosV) (post : List PosV), (g = pre ++ post) ∧ (pre.any badLeg = false) ∧ m = post.length ∧ s = S 199 [(1, .d (poss g)), (2, .ptr 2 0 0), (4, .ptr 4 0 0), (6, .d (iv pre.length))] [(2, (⟨True, 25, 3, true, false, 2, [[.d (iv nx), .d (.sl 7 (ts.map tradeC)), .d (.sl 4 (ps.map posC))]]⟩ : ARow)), (4, (⟨True, 25, 3, true, false, 4, [[.d (.v (.int .i64 0)), .d (.v (.slice none 0 0)), .d (.v (.slice none 0 0))]]⟩ : ARow))]) (g.length) _ (le_SK id [] rfl (l' := [(1, .d (poss g)), (2, .ptr 2 0 0), (4, .ptr 4 0 0), (6, .d (iv [].length))]) (m' := [(2, (⟨True, 25, 3, true, false, 2, [[.d (iv nx), .d (.sl 7 (ts.map tradeC)), .d (.sl 4 (ps.map posC))]]⟩ : ARow)), (4, (⟨True, 25, 3, true, false, 4, [[.d (.v (.int .i64 0)), .d (.v (.slice none 0 0)), .d (.v (.slice none 0 0))]]⟩ : ARow))]) ?_ ?_ ?_ ?_) ⟨[], g, rfl, rfl, rfl, rfl⟩ ?_
    · simp only [leV, look_cons, Nat.reduceBEq, cond_true, cond_false]; exact ⟨(by first | exact VLe.still rfl | exact VLe.nil_ (by decide) | exact VLe.nild_ | exact VLe.refl _ | exact VLe.ptrE (by simp) (by rfl) | exact VLe.refE (by simp) (by rfl) (by first | rfl | (simp; done) | (simp; omega)) | exact VLe.dE (by first | rfl | simp)), (by first | exact VLe.still rfl | exact VLe.nil_ (by decide) | exact VLe.nild_ | exact VLe.refl _ | exact VLe.ptrE (by simp) (by rfl) | exact VLe.refE (by simp) (by rfl) (by first | rfl | (simp; done) | (simp; omega)) | exact VLe.dE (by first | rfl | simp)), (by first | exact VLe.still rfl | exact VLe.nil_ (by decide) | exact VLe.nild_ | exact VLe.refl _ | exact VLe.ptrE (by simp) (by rfl) | exact VLe.refE (by simp) (by rfl) (by first | rfl | (simp; done) | (simp; omega)) | exact VLe.dE (by first | rfl | simp)), (by first | exact VLe.still rfl | exact VLe.nil_ (by decide) | exact VLe.nild_ | exact VLe.refl _ | exact VLe.ptrE (by simp) (by rfl) | exact VLe.refE (by simp) (by rfl) (by first | rfl | (simp; done) | (simp; omega)) | exact VLe.dE (by first | rfl | simp)), trivial⟩
    · exact ⟨fun _ => ⟨_, rfl, (by first | exact RowLe.data_ (by first | rfl | simp) | exact RowLe.uq2 (by first | rfl | simp) (by simp) ids_data | exact RowLe.still (by simp [AV.idsL, AV.ids]) | exact RowLe.same (by simp) (by simp [AV.idsL, AV.ids]))⟩, fun h => by simp at h, fun _ => ⟨_, rfl, (by first | exact RowLe.data_ (by first | rfl | simp) | exact RowLe.uq2 (by first | rfl | simp) (by simp) ids_data | exact RowLe.still (by simp [AV.idsL, AV.ids]) | exact RowLe.same (by simp) (by simp [AV.idsL, AV.ids]))⟩, fun h => by simp at h, trivial⟩
    · simp [wfV, AV.ids, AV.idsL, lookR, grow]
    · exact ⟨by simp [AV.idsL, AV.ids, lookR], by simp [AV.idsL, AV.ids, lookR], trivial⟩
    rintro m s ⟨pre, post, hsp, hany, rfl, rfl⟩
    have hspl := congrArg List.length hsp
    simp only [List.length_append] at hspl
    refine awp_seq fun K2 hK2 => ?_
    refine awp_seq fun K3 hK3 => ?_
    refine awp_plain F_mixed [some 27, some 28, some 29, some 30] rfl ?_
    simp only [List.nil_append, List.cons_append, true_and, and_true, zz0, true_implies, Nat.reduceLT, Nat.reduceLeDiff, zzI, look_nil, Nat.reduceBEq, implies_true, evS_move, evS_call, zz12, F_sl23, Option.isSome_some, zz21, gr_v, zz22, poss, len_map, zz6, Nat.reduceEqDiff, ↓reduceIte]
    refine hK3 _ ?_; try clear hK3 K3
    refine awp_keepL [1, 2, 4, 6, 30] ?_
    simp only [zz20, zzI, look_nil, Nat.reduceBEq]
    refine awp_condS _ (by decide) (by simp only [look_cons, Nat.reduceBEq, cond_true, cond_false]; rfl) ?_ ?_
    · intro hb
      obtain ⟨x, post2, rfl⟩ : ∃ x t, post = x :: t := by
        cases post with
        | nil => have := of_decide_eq_true hb; simp at hspl; omega
        | cons x t => exact ⟨x, t, rfl⟩
      clear hb
      simp only [List.length_cons] at hspl
      have gx : (g.map posC).getD pre.length [] = [iv x.who, iv x.inst, iv x.qty, iv x.cost] := by
        rw [hsp, List.map_append]; exact gd_mid' (A := pre.map posC) _ _ (by simp)
      have bx := ltI (show pre.length < g.length by omega)
      have hwx : IntKind.wrap .i64 ((pre.length : Int) + 1) = ((pre ++ [x]).length : Int) := by rw [wrapI (by omega) (by omega)]; simp
      refine awp_skip ?_
      simp only [zz6, Nat.reduceEqDiff, ↓reduceIte]
      refine hK2 _ ?_; try clear hK2 K2
      refine awp_keepL [1, 2, 4, 6] ?_
      simp only [zz20, zzI, look_nil, Nat.reduceBEq]
      refine awp_seq fun K2 hK2 => ?_
      refine awp_block ?_
      refine awp_seq fun K3 hK3 => ?_
      refine awp_plain F_mixed [some 33, some 34, some 35, some 36, some 37, some 38, some 39, some 40, some 41, some 42, some 43, some 44, some 45, some 46, some 47, some 48, some 49, some 50, some 51, some 52, some 53, some 54, some 55, some 56, some 57] rfl ?_
      simp only [List.nil_append, List.cons_append, true_and, and_true, zz0, true_implies, Nat.reduceLT, Nat.reduceLeDiff, zzI, look_nil, Nat.reduceBEq, implies_true, Nat.reduceSub, S_getD, zz5, and_imp, imp_and, imp_self, and_self, evS_move, evS_indexAddr, zz23, zz24, F_sl23, F_sz51, Option.map_some, zz16, Option.some.injEq, exists_eq_left', exists_eq_left, eq_self, reduceCtorEq, zz19, F_off51_0, zzB, Nat.zero_add, Nat.reduceAdd, F_ok44, F_ag44, F_sz44, zz8, zzD, zzF, zzE, evS_call, evC_value, zz29, gr_v, zz30, F_off51_1, F_ok3, F_ag3, F_sz3, zz13, pickK_l, pickK_r, F_off51_2, poss, posC, gx, bx, hwx, len_map, ge0, Int.toNat_natCast, D.agg.injEq, zz6, Nat.reduceEqDiff, ↓reduceIte]
      refine call_go F_go45 (fun hG => rKey_ x.who x.inst) (by simp [AV.ids, AV.idsL]) (by simp) ?_
      simp only [List.nil_append, List.cons_append, true_and, and_true, zz0, true_implies, Nat.reduceLT, Nat.reduceLeDiff, zzI, look_nil, Nat.reduceBEq, implies_true, Nat.reduceSub, S_getD, zz5, and_imp, imp_and, imp_self, and_self, evS_move, evS_indexAddr, zz23, zz24, F_sl23, F_sz51, Option.map_some, zz16, Option.some.injEq, exists_eq_left', exists_eq_left, eq_self, reduceCtorEq, zz19, F_off51_0, zzB, Nat.zero_add, Nat.reduceAdd, F_ok44, F_ag44, F_sz44, zz8, zzD, zzF, zzE, evS_call, evC_value, zz29, gr_v, zz30, F_off51_1, F_ok3, F_ag3, F_sz3, zz13, pickK_l, pickK_r, F_off51_2, poss, posC, gx, bx, hwx, len_map, ge0, Int.toNat_natCast, D.agg.injEq, zz6, Nat.reduceEqDiff, ↓reduceIte, atsL, oksG, freeN, AV.ren, AV.renL, addRows, ORow.row, Nat.reduceMul, Nat.reduceAdd, zz9, Option.bind_some, Option.map_some, forall_eq', D.sl.injEq, S_mem, Option.some.injEq, exists_eq_left', exists_eq_left, exists_eq', exists_eq, List.length_cons, zz2]
      refine call_go F_go38 (fun hG => rRight_ x.qty) (by simp [AV.ids, AV.idsL]) (by simp) ?_
      simp only [List.nil_append, List.cons_append, true_and, and_true, zz0, true_implies, Nat.reduceLT, Nat.reduceLeDiff, zzI, look_nil, Nat.reduceBEq, implies_true, Nat.reduceSub, S_getD, zz5, and_imp, imp_and, imp_self, and_self, evS_move, evS_indexAddr, zz23, zz24, F_sl23, F_sz51, Option.map_some, zz16, Option.some.injEq, exists_eq_left', exists_eq_left, eq_self, reduceCtorEq, zz19, F_off51_0, zzB, Nat.zero_add, Nat.reduceAdd, F_ok44, F_ag44, F_sz44, zz8, zzD, zzF, zzE, evS_call, evC_value, zz29, gr_v, zz30, F_off51_1, F_ok3, F_ag3, F_sz3, zz13, pickK_l, pickK_r, F_off51_2, poss, posC, gx, bx, hwx, len_map, ge0, Int.toNat_natCast, D.agg.injEq, zz6, Nat.reduceEqDiff, ↓reduceIte, atsL, oksG, freeN, AV.ren, AV.renL, addRows, ORow.row, Nat.reduceMul, Nat.reduceAdd, zz9, Option.bind_some, Option.map_some, forall_eq', D.sl.injEq, S_mem, Option.some.injEq, exists_eq_left', exists_eq_left, exists_eq', exists_eq, List.length_cons, zz2]
      refine call_go F_go38 (fun hG => rRight_ x.cost) (by simp [AV.ids, AV.idsL]) (by simp) ?_
      simp only [List.nil_append, List.cons_append, true_and, and_true, zz0, true_implies, Nat.reduceLT, Nat.reduceLeDiff, zzI, look_nil, Nat.reduceBEq, implies_true, Nat.reduceSub, S_getD, zz5, and_imp, imp_and, imp_self, and_self, evS_move, evS_indexAddr, zz23, zz24, F_sl23, F_sz51, Option.map_some, zz16, Option.some.injEq, exists_eq_left', exists_eq_left, eq_self, reduceCtorEq, zz19, F_off51_0, zzB, Nat.zero_add, Nat.reduceAdd, F_ok44, F_ag44, F_sz44, zz8, zzD, zzF, zzE, evS_call, evC_value, zz29, gr_v, zz30, F_off51_1, F_ok3, F_ag3, F_sz3, zz13, pickK_l, pickK_r, F_off51_2, poss, posC, gx, bx, hwx, len_map, ge0, Int.toNat_natCast, D.agg.injEq, zz6, Nat.reduceEqDiff, ↓reduceIte, atsL, oksG, freeN, AV.ren, AV.renL, addRows, ORow.row, Nat.reduceMul, Nat.reduceAdd, zz9, Option.bind_some, Option.map_some, forall_eq', D.sl.injEq, S_mem, Option.some.injEq, exists_eq_left', exists_eq_left, exists_eq', exists_eq, List.length_cons, zz2]
      refine hK3 _ ?_; try clear hK3 K3
      refine awp_keepL [1, 2, 4, 6, 57] ?_
      simp only [zz20, zzI, look_nil, Nat.reduceBEq]
      refine awp_condS _ (by decide) (by simp only [look_cons, Nat.reduceBEq, cond_true, cond_false]; rfl) ?_ ?_
      · intro hb
        have hx : badLeg x = true := by rw [badLeg_ref]; exact hb
        clear hb
        have hal : g.any badLeg = true := by rw [hsp]; simp only [List.any_append, List.any_cons, hx, Bool.true_or, Bool.or_true]
        refine awp_seq fun K4 hK4 => ?_
        refine awp_plain F_mixed [some 58, none, some 5] rfl ?_
        simp only [List.nil_append, List.cons_append, true_and, and_true, zz0, true_implies, Nat.reduceLT, Nat.reduceLeDiff, zzI, look_nil, Nat.reduceBEq, implies_true, F_zero25, F_bld25, zz7, splice, Option.getD_some, List.append_nil, zz1, zzG, zzD, zz16, Option.some.injEq, exists_eq_left', exists_eq_left, Option.map_some, eq_self, reduceCtorEq, and_self, Nat.reduceAdd, Nat.zero_add, zzF, zzB, zzE, zz10, zz18, F_ok25, F_sz25, evS_assign, zz6, Nat.reduceEqDiff, ↓reduceIte]
        refine hK4 _ ?_; try clear hK4 K4
        refine awp_keepL [4, 5] ?_
        simp only [zz20, zzI, look_nil, Nat.reduceBEq]
        have e : addE ⟨nx, ts, ps⟩ g = 3 := by rw [addE_def, ho, hal]; try rfl
        have ev : addV ⟨nx, ts, ps⟩ g = ⟨0, [], []⟩ := add_no (by rw [e]; decide)
        refine awp_le (le_SK id [0, 1] rfl (l' := [(4, .ptr 4 0 0), (5, .d (iv 3))]) (m' := [(4, (⟨True, 25, 3, true, false, 4, [[.d (.v (.int .i64 0)), .ref 0 0, .ref 1 0]]⟩ : ARow)), (0, (⟨True, 27, 7, true, true, 0, []⟩ : ARow)), (1, (⟨True, 51, 4, true, true, 1, []⟩ : ARow))]) ?_ ?_ ?_ ?_) ?_
        · simp only [leV, look_cons, Nat.reduceBEq, cond_true, cond_false]; exact ⟨VLe.ptr_ (f := id) (by decide), VLe.still rfl, trivial⟩
        · exact ⟨fun _ => ⟨_, rfl, RowLe.cells (VLess.one_ (VLes.cons_ (VLe.still rfl) (VLes.cons_ (VLe.nil_ (by decide)) (VLes.cons_ (VLe.nil_ (by decide)) VLes.nil_))))⟩, fun h => by simp at h, fun h => by simp at h, fun _ => rfl, fun h => by simp at h, fun _ => rfl, trivial⟩
        · simp [wfV, AV.ids, lookR]
        · simp [wfR, AV.idsL, AV.ids, lookR]
        refine awp_ret ?_
        simp only [zz6, Nat.reduceEqDiff, ↓reduceIte]
        rw [ev, e]
        refine doneN [0, 1] (by simp [resCs, resC, S, List.getD, look_cons, lookR, F_ag25, F_sz25, F_ok25]) ?_ (by simp [flatA, flatAs, flatD, ]) (by simp [AV.ids, AV.idsL, ]) (by decide) ?_
        · simp only [List.map_cons, List.map_nil, resA, S_getD, S_mem, lookR_cons, lookR_nil, Nat.reduceLT, Nat.reduceLeDiff, look_cons, Nat.reduceBEq, cond_true, cond_false, resAll, List.getD_cons_zero, List.getD_cons_succ, List.drop_zero, List.drop_succ_cons, List.take_succ_cons, List.take_zero, F_ag25, F_sz25, F_ok25]; rfl
        · exact ⟨⟨_, rfl, trivial, rfl, rfl, rfl, rfl⟩, by simp [flatDs, flatD, tradeC], ⟨_, rfl, trivial, rfl, rfl, rfl, rfl⟩, by simp [flatDs, flatD, posC], trivial⟩
      · intro hb
        have hx : badLeg x = false := by rw [badLeg_ref]; exact hb
        clear hb
        refine awp_skip ?_
        simp only [zz6, Nat.reduceEqDiff, ↓reduceIte]
        refine hK2 _ ?_; try clear hK2 K2
        refine awp_keepL [1, 2, 4, 6] ?_
        simp only [zz20, zzI, look_nil, Nat.reduceBEq]
        refine awp_plain F_mixed [some 31, some 32, some 6] rfl ?_
        simp only [List.nil_append, List.cons_append, true_and, and_true, zz0, true_implies, Nat.reduceLT, Nat.reduceLeDiff, zzI, look_nil, Nat.reduceBEq, implies_true, evS_move, zz21, gr_v, zz26, evS_assign, hwx, zz6, Nat.reduceEqDiff, ↓reduceIte]
        refine ⟨post2.length, _, by simp, le_SK id [] rfl (l' := [(1, .d (poss g)), (2, .ptr 2 0 0), (4, .ptr 4 0 0), (6, .d (iv (pre ++ [x]).length))]) (m' := [(2, (⟨True, 25, 3, true, false, 2, [[.d (iv nx), .d (.sl 7 (ts.map tradeC)), .d (.sl 4 (ps.map posC))]]⟩ : ARow)), (4, (⟨True, 25, 3, true, false, 4, [[.d (.v (.int .i64 0)), .d (.v (.slice none 0 0)), .d (.v (.slice none 0 0))]]⟩ : ARow))]) ?_ ?_ ?_ ?_, (pre ++ [x]), post2, by simp [hsp], by simp only [List.any_append, hany, List.any_cons, hx, List.any_nil, Bool.or_false], rfl, rfl⟩
        · simp only [leV, look_cons, Nat.reduceBEq, cond_true, cond_false, hwx]; exact ⟨(by first | exact VLe.still rfl | exact VLe.nil_ (by decide) | exact VLe.nild_ | exact VLe.refl _ | exact VLe.ptrE (by simp) (by rfl) | exact VLe.refE (by simp) (by rfl) (by first | rfl | (simp; done) | (simp; omega)) | exact VLe.dE (by first | rfl | simp)), (by first | exact VLe.still rfl | exact VLe.nil_ (by decide) | exact VLe.nild_ | exact VLe.refl _ | exact VLe.ptrE (by simp) (by rfl) | exact VLe.refE (by simp) (by rfl) (by first | rfl | (simp; done) | (simp; omega)) | exact VLe.dE (by first | rfl | simp)), (by first | exact VLe.still rfl | exact VLe.nil_ (by decide) | exact VLe.nild_ | exact VLe.refl _ | exact VLe.ptrE (by simp) (by rfl) | exact VLe.refE (by simp) (by rfl) (by first | rfl | (simp; done) | (simp; omega)) | exact VLe.dE (by first | rfl | simp)), (by first | exact VLe.still rfl | exact VLe.nil_ (by decide) | exact VLe.nild_ | exact VLe.refl _ | exact VLe.ptrE (by simp) (by rfl) | exact VLe.refE (by simp) (by rfl) (by first | rfl | (simp; done) | (simp; omega)) | exact VLe.dE (by first | rfl | simp)), trivial⟩
        · exact ⟨fun _ => ⟨_, rfl, (by first | exact RowLe.data_ (by first | rfl | simp) | exact RowLe.uq2 (by first | rfl | simp) (by simp) ids_data | exact RowLe.still (by simp [AV.idsL, AV.ids]) | exact RowLe.same (by simp) (by simp [AV.idsL, AV.ids]))⟩, fun h => by simp at h, fun _ => ⟨_, rfl, (by first | exact RowLe.data_ (by first | rfl | simp) | exact RowLe.uq2 (by first | rfl | simp) (by simp) ids_data | exact RowLe.still (by simp [AV.idsL, AV.ids]) | exact RowLe.same (by simp) (by simp [AV.idsL, AV.ids]))⟩, fun h => by simp at h, trivial⟩
        · simp [wfV, AV.ids, AV.idsL, lookR, grow]
        · exact ⟨by simp [AV.idsL, AV.ids, lookR], by simp [AV.idsL, AV.ids, lookR], trivial⟩
    · intro hb
      obtain rfl : post = [] := by
        cases post with
        | nil => rfl
        | cons x t => have := of_decide_eq_false hb; simp at hspl; omega
      clear hb
      simp only [List.append_nil] at hsp
      subst hsp
      have hR : RtL g := RtL_any.1 hany
      have hA := hG.rt.app hR
      simp only at hA
      refine awp_exit ?_
      simp only [zz6, Nat.reduceEqDiff, ↓reduceIte]
      refine hK0 _ ?_; try clear hK0 K0
      refine awp_keepL [1, 2, 4] ?_
      simp only [zz20, zzI, look_nil, Nat.reduceBEq]
      refine awp_seq fun K0 hK0 => ?_
      refine awp_seq fun K1 hK1 => ?_
      refine awp_plain F_mixed [some 7] rfl ?_
      simp only [List.nil_append, List.cons_append, true_and, and_true, zz0, true_implies, Nat.reduceLT, Nat.reduceLeDiff, zzI, look_nil, Nat.reduceBEq, implies_true, evS_assign, zz6, Nat.reduceEqDiff, ↓reduceIte]
      refine hK1 _ ?_; try clear hK1 K1
      refine awp_keepL [1, 2, 4, 7] ?_
      simp only [zz20, zzI, look_nil, Nat.reduceBEq]
      refine awp_block ?_
      refine awp_loop (fun m s => ∃ (k : Nat), (k ≤ 8) ∧ (levelTo g k = true) ∧ m = 8 - k ∧ s = S 199 [(1, .d (poss g)), (2, .ptr 2 0 0), (4, .ptr 4 0 0), (7, .d (iv (((k : Nat) : Int) + 1)))] [(2, (⟨True, 25, 3, true, false, 2, [[.d (iv nx), .d (.sl 7 (ts.map tradeC)), .d (.sl 4 (ps.map posC))]]⟩ : ARow)), (4, (⟨True, 25, 3, true, false, 4, [[.d (.v (.int .i64 0)), .d (.v (.slice none 0 0)), .d (.v (.slice none 0 0))]]⟩ : ARow))]) (8) _ (le_SK id [] rfl (l' := [(1, .d (poss g)), (2, .ptr 2 0 0), (4, .ptr 4 0 0), (7, .d (iv (((0 : Nat) : Int) + 1)))]) (m' := [(2, (⟨True, 25, 3, true, false, 2, [[.d (iv nx), .d (.sl 7 (ts.map tradeC)), .d (.sl 4 (ps.map posC))]]⟩ : ARow)), (4, (⟨True, 25, 3, true, false, 4, [[.d (.v (.int .i64 0)), .d (.v (.slice none 0 0)), .d (.v (.slice none 0 0))]]⟩ : ARow))]) ?_ ?_ ?_ ?_) ⟨0, by omega, rfl, rfl, rfl⟩ ?_
      · simp only [leV, look_cons, Nat.reduceBEq, cond_true, cond_false]; exact ⟨(by first | exact VLe.still rfl | exact VLe.nil_ (by decide) | exact VLe.nild_ | exact VLe.refl _ | exact VLe.ptrE (by simp) (by rfl) | exact VLe.refE (by simp) (by rfl) (by first | rfl | (simp; done) | (simp; omega)) | exact VLe.dE (by first | rfl | simp)), (by first | exact VLe.still rfl | exact VLe.nil_ (by decide) | exact VLe.nild_ | exact VLe.refl _ | exact VLe.ptrE (by simp) (by rfl) | exact VLe.refE (by simp) (by rfl) (by first | rfl | (simp; done) | (simp; omega)) | exact VLe.dE (by first | rfl | simp)), (by first | exact VLe.still rfl | exact VLe.nil_ (by decide) | exact VLe.nild_ | exact VLe.refl _ | exact VLe.ptrE (by simp) (by rfl) | exact VLe.refE (by simp) (by rfl) (by first | rfl | (simp; done) | (simp; omega)) | exact VLe.dE (by first | rfl | simp)), (by first | exact VLe.still rfl | exact VLe.nil_ (by decide) | exact VLe.nild_ | exact VLe.refl _ | exact VLe.ptrE (by simp) (by rfl) | exact VLe.refE (by simp) (by rfl) (by first | rfl | (simp; done) | (simp; omega)) | exact VLe.dE (by first | rfl | simp)), trivial⟩
      · exact ⟨fun _ => ⟨_, rfl, (by first | exact RowLe.data_ (by first | rfl | simp) | exact RowLe.uq2 (by first | rfl | simp) (by simp) ids_data | exact RowLe.still (by simp [AV.idsL, AV.ids]) | exact RowLe.same (by simp) (by simp [AV.idsL, AV.ids]))⟩, fun h => by simp at h, fun _ => ⟨_, rfl, (by first | exact RowLe.data_ (by first | rfl | simp) | exact RowLe.uq2 (by first | rfl | simp) (by simp) ids_data | exact RowLe.still (by simp [AV.idsL, AV.ids]) | exact RowLe.same (by simp) (by simp [AV.idsL, AV.ids]))⟩, fun h => by simp at h, trivial⟩
      · simp [wfV, AV.ids, AV.idsL, lookR, grow]
      · exact ⟨by simp [AV.idsL, AV.ids, lookR], by simp [AV.idsL, AV.ids, lookR], trivial⟩
      rintro m s ⟨k, hk8, hlv, rfl, rfl⟩
      refine awp_seq fun K2 hK2 => ?_
      refine awp_seq fun K3 hK3 => ?_
      refine awp_plain F_mixed [some 59, some 60] rfl ?_
      simp only [List.nil_append, List.cons_append, true_and, and_true, zz0, true_implies, Nat.reduceLT, Nat.reduceLeDiff, zzI, look_nil, Nat.reduceBEq, implies_true, evS_move, zz21, gr_v, b_leq, pure_leq, zz6, Nat.reduceEqDiff, ↓reduceIte]
      refine hK3 _ ?_; try clear hK3 K3
      refine awp_keepL [1, 2, 4, 7, 60] ?_
      simp only [zz20, zzI, look_nil, Nat.reduceBEq]
      refine awp_condS _ (by decide) (by simp only [look_cons, Nat.reduceBEq, cond_true, cond_false]; rfl) ?_ ?_
      · intro hb
        have hk : k < 8 := by have := of_decide_eq_true hb; omega
        clear hb
        have hw : IntKind.wrap .i64 (((k : Nat) : Int) + 1 + 1) = (((k + 1 : Nat) : Int) + 1) := by rw [wrapI (by omega) (by omega)]; omega
        refine awp_skip ?_
        simp only [zz6, Nat.reduceEqDiff, ↓reduceIte]
        refine hK2 _ ?_; try clear hK2 K2
        refine awp_keepL [1, 2, 4, 7] ?_
        simp only [zz20, zzI, look_nil, Nat.reduceBEq]
        refine awp_seq fun K2 hK2 => ?_
        refine awp_block ?_
        refine awp_seq fun K3 hK3 => ?_
        refine awp_plain F_mixed [some 8] rfl ?_
        simp only [List.nil_append, List.cons_append, true_and, and_true, zz0, true_implies, Nat.reduceLT, Nat.reduceLeDiff, zzI, look_nil, Nat.reduceBEq, implies_true, evS_assign, zz6, Nat.reduceEqDiff, ↓reduceIte]
        refine hK3 _ ?_; try clear hK3 K3
        refine awp_keepL [1, 2, 4, 7, 8] ?_
        simp only [zz20, zzI, look_nil, Nat.reduceBEq]
        refine awp_seq fun K3 hK3 => ?_
        refine awp_seq fun K4 hK4 => ?_
        refine awp_plain F_mixed [some 9] rfl ?_
        simp only [List.nil_append, List.cons_append, true_and, and_true, zz0, true_implies, Nat.reduceLT, Nat.reduceLeDiff, zzI, look_nil, Nat.reduceBEq, implies_true, evS_assign, zz6, Nat.reduceEqDiff, ↓reduceIte]
        refine hK4 _ ?_; try clear hK4 K4
        refine awp_keepL [1, 2, 4, 7, 8, 9] ?_
        simp only [zz20, zzI, look_nil, Nat.reduceBEq]
        refine awp_block ?_
        refine awp_loop (fun m s => ∃ (pre : List PosV) (post : List PosV), (g = pre ++ post) ∧ m = post.length ∧ s = S 199 [(1, .d (poss g)), (2, .ptr 2 0 0), (4, .ptr 4 0 0), (7, .d (iv ((k : Int) + 1))), (8, .ref 8 (levelQ pre (k + 1)).length), (9, .d (iv pre.length))] [(2, (⟨True, 25, 3, true, false, 2, [[.d (iv nx), .d (.sl 7 (ts.map tradeC)), .d (.sl 4 (ps.map posC))]]⟩ : ARow)), (4, (⟨True, 25, 3, true, false, 4, [[.d (.v (.int .i64 0)), .d (.v (.slice none 0 0)), .d (.v (.slice none 0 0))]]⟩ : ARow)), (8, grow 3 1 8 ((levelQ pre (k + 1)).map fun n => [iv n]))]) (g.length) _ (le_SK id [8] rfl (l' := [(1, .d (poss g)), (2, .ptr 2 0 0), (4, .ptr 4 0 0), (7, .d (iv ((k : Int) + 1))), (8, .ref 8 (levelQ [] (k + 1)).length), (9, .d (iv [].length))]) (m' := [(2, (⟨True, 25, 3, true, false, 2, [[.d (iv nx), .d (.sl 7 (ts.map tradeC)), .d (.sl 4 (ps.map posC))]]⟩ : ARow)), (4, (⟨True, 25, 3, true, false, 4, [[.d (.v (.int .i64 0)), .d (.v (.slice none 0 0)), .d (.v (.slice none 0 0))]]⟩ : ARow)), (8, grow 3 1 8 ((levelQ [] (k + 1)).map fun n => [iv n]))]) ?_ ?_ ?_ ?_) ⟨[], g, rfl, rfl, rfl⟩ ?_
        · simp only [leV, look_cons, Nat.reduceBEq, cond_true, cond_false]; exact ⟨(by first | exact VLe.still rfl | exact VLe.nil_ (by decide) | exact VLe.nild_ | exact VLe.refl _ | exact VLe.ptrE (by simp) (by rfl) | exact VLe.refE (by simp) (by rfl) (by first | rfl | (simp; done) | (simp; omega)) | exact VLe.dE (by first | rfl | simp)), (by first | exact VLe.still rfl | exact VLe.nil_ (by decide) | exact VLe.nild_ | exact VLe.refl _ | exact VLe.ptrE (by simp) (by rfl) | exact VLe.refE (by simp) (by rfl) (by first | rfl | (simp; done) | (simp; omega)) | exact VLe.dE (by first | rfl | simp)), (by first | exact VLe.still rfl | exact VLe.nil_ (by decide) | exact VLe.nild_ | exact VLe.refl _ | exact VLe.ptrE (by simp) (by rfl) | exact VLe.refE (by simp) (by rfl) (by first | rfl | (simp; done) | (simp; omega)) | exact VLe.dE (by first | rfl | simp)), (by first | exact VLe.still rfl | exact VLe.nil_ (by decide) | exact VLe.nild_ | exact VLe.refl _ | exact VLe.ptrE (by simp) (by rfl) | exact VLe.refE (by simp) (by rfl) (by first | rfl | (simp; done) | (simp; omega)) | exact VLe.dE (by first | rfl | simp)), (by first | exact VLe.still rfl | exact VLe.nil_ (by decide) | exact VLe.nild_ | exact VLe.refl _ | exact VLe.ptrE (by simp) (by rfl) | exact VLe.refE (by simp) (by rfl) (by first | rfl | (simp; done) | (simp; omega)) | exact VLe.dE (by first | rfl | simp)), (by first | exact VLe.still rfl | exact VLe.nil_ (by decide) | exact VLe.nild_ | exact VLe.refl _ | exact VLe.ptrE (by simp) (by rfl) | exact VLe.refE (by simp) (by rfl) (by first | rfl | (simp; done) | (simp; omega)) | exact VLe.dE (by first | rfl | simp)), trivial⟩
        · exact ⟨fun _ => ⟨_, rfl, (by first | exact RowLe.data_ (by first | rfl | simp) | exact RowLe.uq2 (by first | rfl | simp) (by simp) ids_data | exact RowLe.still (by simp [AV.idsL, AV.ids]) | exact RowLe.same (by simp) (by simp [AV.idsL, AV.ids]))⟩, fun h => by simp at h, fun _ => ⟨_, rfl, (by first | exact RowLe.data_ (by first | rfl | simp) | exact RowLe.uq2 (by first | rfl | simp) (by simp) ids_data | exact RowLe.still (by simp [AV.idsL, AV.ids]) | exact RowLe.same (by simp) (by simp [AV.idsL, AV.ids]))⟩, fun h => by simp at h, fun h => by simp at h, fun _ => rfl, trivial⟩
        · simp [wfV, AV.ids, AV.idsL, lookR, grow]
        · exact ⟨by simp [AV.idsL, AV.ids, lookR], by simp [AV.idsL, AV.ids, lookR], wf_data _ _, trivial⟩
        rintro m s ⟨pre, post, hsp, rfl, rfl⟩
        have hspl := congrArg List.length hsp
        simp only [List.length_append] at hspl
        have hql := levelQ_len pre (k + 1)
        refine awp_seq fun K5 hK5 => ?_
        refine awp_seq fun K6 hK6 => ?_
        refine awp_plain F_mixed [some 63, some 64, some 65, some 66] rfl ?_
        simp only [List.nil_append, List.cons_append, true_and, and_true, zz0, true_implies, Nat.reduceLT, Nat.reduceLeDiff, zzI, look_nil, Nat.reduceBEq, implies_true, evS_move, evS_call, zz12, F_sl23, Option.isSome_some, zz21, gr_v, zz22, poss, len_map, zz6, Nat.reduceEqDiff, ↓reduceIte]
        refine hK6 _ ?_; try clear hK6 K6
        refine awp_keepL [1, 2, 4, 7, 8, 9, 66] ?_
        simp only [zz20, zzI, look_nil, Nat.reduceBEq]
        refine awp_condS _ (by decide) (by simp only [look_cons, Nat.reduceBEq, cond_true, cond_false]; rfl) ?_ ?_
        · intro hb
          obtain ⟨x, post2, rfl⟩ : ∃ x t, post = x :: t := by
            cases post with
            | nil => have := of_decide_eq_true hb; simp at hspl; omega
            | cons x t => exact ⟨x, t, rfl⟩
          clear hb
          simp only [List.length_cons] at hspl
          have gx : (g.map posC).getD pre.length [] = [iv x.who, iv x.inst, iv x.qty, iv x.cost] := by
            rw [hsp, List.map_append]; exact gd_mid' (A := pre.map posC) _ _ (by simp)
          have bx := ltI (show pre.length < g.length by omega)
          have hwx : IntKind.wrap .i64 ((pre.length : Int) + 1) = ((pre ++ [x]).length : Int) := by rw [wrapI (by omega) (by omega)]; simp
          refine awp_skip ?_
          simp only [zz6, Nat.reduceEqDiff, ↓reduceIte]
          refine hK5 _ ?_; try clear hK5 K5
          refine awp_keepL [1, 2, 4, 7, 8, 9] ?_
          simp only [zz20, zzI, look_nil, Nat.reduceBEq]
          refine awp_seq fun K5 hK5 => ?_
          refine awp_block ?_
          refine awp_seq fun K6 hK6 => ?_
          refine awp_plain F_mixed [some 69, some 70, some 71, some 72, some 73, some 74, some 75, some 76] rfl ?_
          simp only [List.nil_append, List.cons_append, true_and, and_true, zz0, true_implies, Nat.reduceLT, Nat.reduceLeDiff, zzI, look_nil, Nat.reduceBEq, implies_true, evS_move, evS_indexAddr, zz23, zz24, F_sl23, F_sz51, Option.map_some, zz16, Option.some.injEq, exists_eq_left', exists_eq_left, eq_self, reduceCtorEq, and_self, zz19, F_off51_0, zzB, Nat.zero_add, Nat.reduceAdd, F_off44_1, F_ok3, F_ag3, F_sz3, zz8, zzD, zzF, zzE, zz21, gr_v, zz34, poss, posC, gx, bx, hwx, len_map, ge0, Int.toNat_natCast, D.agg.injEq, zz6, Nat.reduceEqDiff, ↓reduceIte]
          refine hK6 _ ?_; try clear hK6 K6
          refine awp_keepL [1, 2, 4, 7, 8, 9, 76] ?_
          simp only [zz20, zzI, look_nil, Nat.reduceBEq]
          refine awp_condS _ (by decide) (by simp only [look_cons, Nat.reduceBEq, cond_true, cond_false]; rfl) ?_ ?_
          · intro hb
            have hs : (x.inst == ((k : Int) + 1)) = true := hb
            clear hb
            have hsl := levelQ_yes hs pre
            refine awp_plain F_mixed [some 77, some 78, some 79, some 80, some 81, some 82, some 83, some 84, some 8] rfl ?_
            simp only [List.nil_append, List.cons_append, true_and, and_true, zz0, true_implies, Nat.reduceLT, Nat.reduceLeDiff, zzI, look_nil, Nat.reduceBEq, implies_true, evS_move, evS_indexAddr, zz23, zz24, F_sl23, F_sz51, Option.map_some, zz16, Option.some.injEq, exists_eq_left', exists_eq_left, eq_self, reduceCtorEq, and_self, zz19, F_off51_1, zzB, Nat.zero_add, Nat.reduceAdd, F_ok3, F_ag3, F_sz3, zz8, zzD, zzF, zzE, F_sl68, F_zero3, zz3, newRow1, zz1, zzG, maxLen_le, Nat.reduceMul, evS_call, F_by3, zz4, zz9, Option.bind_some, evS_assign, poss, posC, grow, unDs_map, gx, bx, hwx, len_map, ge0, Int.toNat_natCast, D.agg.injEq, zz6, Nat.reduceEqDiff, ↓reduceIte]
            have hm : (levelQ pre (k + 1)).length + 1 ≤ 1000000 := by first | omega | (simp; omega)
            first | refine ⟨le_maxLen hm, by omega, ?_⟩ | refine ⟨by simp, le_maxLen hm, by omega, ?_⟩
            clear hm
            refine hK5 _ ?_; try clear hK5 K5
            refine awp_keepL [1, 2, 4, 7, 8, 9] ?_
            simp only [zz20, zzI, look_nil, Nat.reduceBEq]
            refine awp_plain F_mixed [some 67, some 68, some 9] rfl ?_
            simp only [List.nil_append, List.cons_append, true_and, and_true, zz0, true_implies, Nat.reduceLT, Nat.reduceLeDiff, zzI, look_nil, Nat.reduceBEq, implies_true, evS_move, zz21, gr_v, zz26, evS_assign, hwx, zz6, Nat.reduceEqDiff, ↓reduceIte]
            refine ⟨post2.length, _, by simp, le_SK (fun r => bif r == 8 then 84 else r) [] rfl (l' := [(1, .d (poss g)), (2, .ptr 2 0 0), (4, .ptr 4 0 0), (7, .d (iv ((k : Int) + 1))), (8, .ref 8 (levelQ (pre ++ [x]) (k + 1)).length), (9, .d (iv (pre ++ [x]).length))]) (m' := [(2, (⟨True, 25, 3, true, false, 2, [[.d (iv nx), .d (.sl 7 (ts.map tradeC)), .d (.sl 4 (ps.map posC))]]⟩ : ARow)), (4, (⟨True, 25, 3, true, false, 4, [[.d (.v (.int .i64 0)), .d (.v (.slice none 0 0)), .d (.v (.slice none 0 0))]]⟩ : ARow)), (8, grow 3 1 8 ((levelQ (pre ++ [x]) (k + 1)).map fun n => [iv n]))]) ?_ ?_ ?_ ?_, (pre ++ [x]), post2, by simp [hsp], rfl, rfl⟩
            · simp only [leV, look_cons, Nat.reduceBEq, cond_true, cond_false, hwx, hsl]; exact ⟨(by first | exact VLe.still rfl | exact VLe.nil_ (by decide) | exact VLe.nild_ | exact VLe.refl _ | exact VLe.ptrE (by simp) (by rfl) | exact VLe.refE (by simp) (by rfl) (by first | rfl | (simp; done) | (simp; omega)) | exact VLe.dE (by first | rfl | simp)), (by first | exact VLe.still rfl | exact VLe.nil_ (by decide) | exact VLe.nild_ | exact VLe.refl _ | exact VLe.ptrE (by simp) (by rfl) | exact VLe.refE (by simp) (by rfl) (by first | rfl | (simp; done) | (simp; omega)) | exact VLe.dE (by first | rfl | simp)), (by first | exact VLe.still rfl | exact VLe.nil_ (by decide) | exact VLe.nild_ | exact VLe.refl _ | exact VLe.ptrE (by simp) (by rfl) | exact VLe.refE (by simp) (by rfl) (by first | rfl | (simp; done) | (simp; omega)) | exact VLe.dE (by first | rfl | simp)), (by first | exact VLe.still rfl | exact VLe.nil_ (by decide) | exact VLe.nild_ | exact VLe.refl _ | exact VLe.ptrE (by simp) (by rfl) | exact VLe.refE (by simp) (by rfl) (by first | rfl | (simp; done) | (simp; omega)) | exact VLe.dE (by first | rfl | simp)), (by first | exact VLe.still rfl | exact VLe.nil_ (by decide) | exact VLe.nild_ | exact VLe.refl _ | exact VLe.ptrE (by simp) (by rfl) | exact VLe.refE (by simp) (by rfl) (by first | rfl | (simp; done) | (simp; omega)) | exact VLe.dE (by first | rfl | simp)), (by first | exact VLe.still rfl | exact VLe.nil_ (by decide) | exact VLe.nild_ | exact VLe.refl _ | exact VLe.ptrE (by simp) (by rfl) | exact VLe.refE (by simp) (by rfl) (by first | rfl | (simp; done) | (simp; omega)) | exact VLe.dE (by first | rfl | simp)), trivial⟩
            · exact ⟨fun _ => ⟨_, rfl, (by first | exact RowLe.data_ (by first | rfl | simp) | exact RowLe.uq2 (by first | rfl | simp) (by simp) ids_data | exact RowLe.still (by simp [AV.idsL, AV.ids]) | exact RowLe.same (by simp) (by simp [AV.idsL, AV.ids]))⟩, fun h => by simp at h, fun _ => ⟨_, rfl, (by first | exact RowLe.data_ (by first | rfl | simp) | exact RowLe.uq2 (by first | rfl | simp) (by simp) ids_data | exact RowLe.still (by simp [AV.idsL, AV.ids]) | exact RowLe.same (by simp) (by simp [AV.idsL, AV.ids]))⟩, fun h => by simp at h, fun _ => ⟨_, rfl, RowLe.data_ (by rw [hsl]; simp)⟩, fun h => by simp at h, trivial⟩
            · simp [wfV, AV.ids, AV.idsL, lookR, grow]
            · exact ⟨by simp [AV.idsL, AV.ids, lookR], by simp [AV.idsL, AV.ids, lookR], wf_data _ _, trivial⟩
          · intro hb
            have hs : (x.inst == ((k : Int) + 1)) = false := hb
            clear hb
            have hsl := levelQ_no hs pre
            refine awp_skip ?_
            simp only [zz6, Nat.reduceEqDiff, ↓reduceIte]
            refine hK5 _ ?_; try clear hK5 K5
            refine awp_keepL [1, 2, 4, 7, 8, 9] ?_
            simp only [zz20, zzI, look_nil, Nat.reduceBEq]
            refine awp_plain F_mixed [some 67, some 68, some 9] rfl ?_
            simp only [List.nil_append, List.cons_append, true_and, and_true, zz0, true_implies, Nat.reduceLT, Nat.reduceLeDiff, zzI, look_nil, Nat.reduceBEq, implies_true, evS_move, zz21, gr_v, zz26, evS_assign, hwx, zz6, Nat.reduceEqDiff, ↓reduceIte]
            refine ⟨post2.length, _, by simp, le_SK id [] rfl (l' := [(1, .d (poss g)), (2, .ptr 2 0 0), (4, .ptr 4 0 0), (7, .d (iv ((k : Int) + 1))), (8, .ref 8 (levelQ (pre ++ [x]) (k + 1)).length), (9, .d (iv (pre ++ [x]).length))]) (m' := [(2, (⟨True, 25, 3, true, false, 2, [[.d (iv nx), .d (.sl 7 (ts.map tradeC)), .d (.sl 4 (ps.map posC))]]⟩ : ARow)), (4, (⟨True, 25, 3, true, false, 4, [[.d (.v (.int .i64 0)), .d (.v (.slice none 0 0)), .d (.v (.slice none 0 0))]]⟩ : ARow)), (8, grow 3 1 8 ((levelQ (pre ++ [x]) (k + 1)).map fun n => [iv n]))]) ?_ ?_ ?_ ?_, (pre ++ [x]), post2, by simp [hsp], rfl, rfl⟩
            · simp only [leV, look_cons, Nat.reduceBEq, cond_true, cond_false, hwx, hsl]; exact ⟨(by first | exact VLe.still rfl | exact VLe.nil_ (by decide) | exact VLe.nild_ | exact VLe.refl _ | exact VLe.ptrE (by simp) (by rfl) | exact VLe.refE (by simp) (by rfl) (by first | rfl | (simp; done) | (simp; omega)) | exact VLe.dE (by first | rfl | simp)), (by first | exact VLe.still rfl | exact VLe.nil_ (by decide) | exact VLe.nild_ | exact VLe.refl _ | exact VLe.ptrE (by simp) (by rfl) | exact VLe.refE (by simp) (by rfl) (by first | rfl | (simp; done) | (simp; omega)) | exact VLe.dE (by first | rfl | simp)), (by first | exact VLe.still rfl | exact VLe.nil_ (by decide) | exact VLe.nild_ | exact VLe.refl _ | exact VLe.ptrE (by simp) (by rfl) | exact VLe.refE (by simp) (by rfl) (by first | rfl | (simp; done) | (simp; omega)) | exact VLe.dE (by first | rfl | simp)), (by first | exact VLe.still rfl | exact VLe.nil_ (by decide) | exact VLe.nild_ | exact VLe.refl _ | exact VLe.ptrE (by simp) (by rfl) | exact VLe.refE (by simp) (by rfl) (by first | rfl | (simp; done) | (simp; omega)) | exact VLe.dE (by first | rfl | simp)), (by first | exact VLe.still rfl | exact VLe.nil_ (by decide) | exact VLe.nild_ | exact VLe.refl _ | exact VLe.ptrE (by simp) (by rfl) | exact VLe.refE (by simp) (by rfl) (by first | rfl | (simp; done) | (simp; omega)) | exact VLe.dE (by first | rfl | simp)), (by first | exact VLe.still rfl | exact VLe.nil_ (by decide) | exact VLe.nild_ | exact VLe.refl _ | exact VLe.ptrE (by simp) (by rfl) | exact VLe.refE (by simp) (by rfl) (by first | rfl | (simp; done) | (simp; omega)) | exact VLe.dE (by first | rfl | simp)), trivial⟩
            · exact ⟨fun _ => ⟨_, rfl, (by first | exact RowLe.data_ (by first | rfl | simp) | exact RowLe.uq2 (by first | rfl | simp) (by simp) ids_data | exact RowLe.still (by simp [AV.idsL, AV.ids]) | exact RowLe.same (by simp) (by simp [AV.idsL, AV.ids]))⟩, fun h => by simp at h, fun _ => ⟨_, rfl, (by first | exact RowLe.data_ (by first | rfl | simp) | exact RowLe.uq2 (by first | rfl | simp) (by simp) ids_data | exact RowLe.still (by simp [AV.idsL, AV.ids]) | exact RowLe.same (by simp) (by simp [AV.idsL, AV.ids]))⟩, fun h => by simp at h, fun _ => ⟨_, rfl, RowLe.data_ (by rw [hsl])⟩, fun h => by simp at h, trivial⟩
            · simp [wfV, AV.ids, AV.idsL, lookR, grow]
            · exact ⟨by simp [AV.idsL, AV.ids, lookR], by simp [AV.idsL, AV.ids, lookR], wf_data _ _, trivial⟩
        · intro hb
          obtain rfl : post = [] := by
            cases post with
            | nil => rfl
            | cons x t => have := of_decide_eq_false hb; simp at hspl; omega
          clear hb
          simp only [List.append_nil] at hsp
          subst hsp
          refine awp_exit ?_
          simp only [zz6, Nat.reduceEqDiff, ↓reduceIte]
          refine hK3 _ ?_; try clear hK3 K3
          refine awp_keepL [1, 2, 4, 7, 8] ?_
          simp only [zz20, zzI, look_nil, Nat.reduceBEq]
          refine awp_seq fun K3 hK3 => ?_
          refine awp_plain F_mixed [some 86, some 87, some 85, some 88, some 89, some 10, some 11] rfl ?_
          simp only [List.nil_append, List.cons_append, true_and, and_true, zz0, true_implies, Nat.reduceLT, Nat.reduceLeDiff, zzI, look_nil, Nat.reduceBEq, implies_true, evS_move, evS_call, evC_value, zz14, zzD, Nat.reduceAdd, Nat.zero_add, zzF, evS_assign, ints, grow, len_map, zz6, Nat.reduceEqDiff, ↓reduceIte]
          refine call_go F_go39 (fun hG => Add_ (levelQ g (k + 1)) (by omega) (levQ_bndR hR _)) (by simp [AV.ids, AV.idsL]) (by simp) ?_
          simp only [List.nil_append, List.cons_append, true_and, and_true, zz0, true_implies, Nat.reduceLT, Nat.reduceLeDiff, zzI, look_nil, Nat.reduceBEq, implies_true, evS_move, evS_call, evC_value, zz14, zzD, Nat.reduceAdd, Nat.zero_add, zzF, evS_assign, ints, grow, len_map, zz6, Nat.reduceEqDiff, ↓reduceIte, atsL, oksG, freeN, AV.ren, AV.renL, addRows, ORow.row, Nat.reduceMul, Nat.reduceAdd, zz9, Option.bind_some, Option.map_some, forall_eq', D.sl.injEq, zz16, Option.some.injEq, exists_eq_left', exists_eq_left, exists_eq', exists_eq, List.length_cons, zz2]
          try refine ⟨by simp, ?_⟩
          refine hK3 _ ?_; try clear hK3 K3
          refine awp_keepL [1, 2, 4, 7, 10, 11] ?_
          simp only [zz20, zzI, look_nil, Nat.reduceBEq]
          refine awp_seq fun K3 hK3 => ?_
          refine awp_plain F_mixed [some 90, some 91, some 92, some 93, some 94, some 95] rfl ?_
          simp only [List.nil_append, List.cons_append, true_and, and_true, zz0, true_implies, Nat.reduceLT, Nat.reduceLeDiff, zzI, look_nil, Nat.reduceBEq, implies_true, Nat.reduceSub, S_getD, zz5, and_imp, imp_and, imp_self, and_self, evS_move, zz29, gr_v, zz30, zz21, zz28, zz13, pickK_l, pickK_r, zz6, Nat.reduceEqDiff, ↓reduceIte]
          refine hK3 _ ?_; try clear hK3 K3
          refine awp_keepL [1, 2, 4, 7, 95] ?_
          simp only [zz20, zzI, look_nil, Nat.reduceBEq]
          refine awp_condS _ (by decide) (by simp only [look_cons, Nat.reduceBEq, cond_true, cond_false]; rfl) ?_ ?_
          · intro hb
            have hli : levelI g (k + 1) = false := by
              have e := lev_refR hR ((k : Int) + 1)
              rw [show _ = true from hb] at e
              simpa using e.symm
            clear hb
            have hlv2 : levelOk g = false := levelTo_false hk hli
            refine awp_seq fun K4 hK4 => ?_
            refine awp_plain F_mixed [some 96, none, some 5] rfl ?_
            simp only [List.nil_append, List.cons_append, true_and, and_true, zz0, true_implies, Nat.reduceLT, Nat.reduceLeDiff, zzI, look_nil, Nat.reduceBEq, implies_true, F_zero25, F_bld25, zz7, splice, Option.getD_some, List.append_nil, zz1, zzG, zzD, zz16, Option.some.injEq, exists_eq_left', exists_eq_left, Option.map_some, eq_self, reduceCtorEq, and_self, Nat.reduceAdd, Nat.zero_add, zzF, zzB, zzE, zz10, zz18, F_ok25, F_sz25, evS_assign, zz6, Nat.reduceEqDiff, ↓reduceIte]
            refine hK4 _ ?_; try clear hK4 K4
            refine awp_keepL [4, 5] ?_
            simp only [zz20, zzI, look_nil, Nat.reduceBEq]
            have e : addE ⟨nx, ts, ps⟩ g = 12 := by rw [addE_def, ho, hany, hlv2]; try rfl
            have ev : addV ⟨nx, ts, ps⟩ g = ⟨0, [], []⟩ := add_no (by rw [e]; decide)
            refine awp_le (le_SK id [0, 1] rfl (l' := [(4, .ptr 4 0 0), (5, .d (iv 12))]) (m' := [(4, (⟨True, 25, 3, true, false, 4, [[.d (.v (.int .i64 0)), .ref 0 0, .ref 1 0]]⟩ : ARow)), (0, (⟨True, 27, 7, true, true, 0, []⟩ : ARow)), (1, (⟨True, 51, 4, true, true, 1, []⟩ : ARow))]) ?_ ?_ ?_ ?_) ?_
            · simp only [leV, look_cons, Nat.reduceBEq, cond_true, cond_false]; exact ⟨VLe.ptr_ (f := id) (by decide), VLe.still rfl, trivial⟩
            · exact ⟨fun _ => ⟨_, rfl, RowLe.cells (VLess.one_ (VLes.cons_ (VLe.still rfl) (VLes.cons_ (VLe.nil_ (by decide)) (VLes.cons_ (VLe.nil_ (by decide)) VLes.nil_))))⟩, fun h => by simp at h, fun h => by simp at h, fun _ => rfl, fun h => by simp at h, fun _ => rfl, trivial⟩
            · simp [wfV, AV.ids, lookR]
            · simp [wfR, AV.idsL, AV.ids, lookR]
            refine awp_ret ?_
            simp only [zz6, Nat.reduceEqDiff, ↓reduceIte]
            rw [ev, e]
            refine doneN [0, 1] (by simp [resCs, resC, S, List.getD, look_cons, lookR, F_ag25, F_sz25, F_ok25]) ?_ (by simp [flatA, flatAs, flatD, ]) (by simp [AV.ids, AV.idsL, ]) (by decide) ?_
            · simp only [List.map_cons, List.map_nil, resA, S_getD, S_mem, lookR_cons, lookR_nil, Nat.reduceLT, Nat.reduceLeDiff, look_cons, Nat.reduceBEq, cond_true, cond_false, resAll, List.getD_cons_zero, List.getD_cons_succ, List.drop_zero, List.drop_succ_cons, List.take_succ_cons, List.take_zero, F_ag25, F_sz25, F_ok25]; rfl
            · exact ⟨⟨_, rfl, trivial, rfl, rfl, rfl, rfl⟩, by simp [flatDs, flatD, tradeC], ⟨_, rfl, trivial, rfl, rfl, rfl, rfl⟩, by simp [flatDs, flatD, posC], trivial⟩
          · intro hb
            have hli : levelI g (k + 1) = true := by
              have e := lev_refR hR ((k : Int) + 1)
              rw [show _ = false from hb] at e
              simpa using e.symm
            clear hb
            refine awp_skip ?_
            simp only [zz6, Nat.reduceEqDiff, ↓reduceIte]
            refine hK2 _ ?_; try clear hK2 K2
            refine awp_keepL [1, 2, 4, 7] ?_
            simp only [zz20, zzI, look_nil, Nat.reduceBEq]
            refine awp_plain F_mixed [some 61, some 62, some 7] rfl ?_
            simp only [List.nil_append, List.cons_append, true_and, and_true, zz0, true_implies, Nat.reduceLT, Nat.reduceLeDiff, zzI, look_nil, Nat.reduceBEq, implies_true, evS_move, zz21, gr_v, zz26, evS_assign, zz6, Nat.reduceEqDiff, ↓reduceIte]
            refine ⟨8 - (k + 1), _, by omega, le_SK id [] rfl (l' := [(1, .d (poss g)), (2, .ptr 2 0 0), (4, .ptr 4 0 0), (7, .d (iv ((((k + 1) : Nat) : Int) + 1)))]) (m' := [(2, (⟨True, 25, 3, true, false, 2, [[.d (iv nx), .d (.sl 7 (ts.map tradeC)), .d (.sl 4 (ps.map posC))]]⟩ : ARow)), (4, (⟨True, 25, 3, true, false, 4, [[.d (.v (.int .i64 0)), .d (.v (.slice none 0 0)), .d (.v (.slice none 0 0))]]⟩ : ARow))]) ?_ ?_ ?_ ?_, (k + 1), by omega, by rw [levelTo_succ, hlv, hli]; rfl, rfl, rfl⟩
            · simp only [leV, look_cons, Nat.reduceBEq, cond_true, cond_false, hw]; exact ⟨(by first | exact VLe.still rfl | exact VLe.nil_ (by decide) | exact VLe.nild_ | exact VLe.refl _ | exact VLe.ptrE (by simp) (by rfl) | exact VLe.refE (by simp) (by rfl) (by first | rfl | (simp; done) | (simp; omega)) | exact VLe.dE (by first | rfl | simp)), (by first | exact VLe.still rfl | exact VLe.nil_ (by decide) | exact VLe.nild_ | exact VLe.refl _ | exact VLe.ptrE (by simp) (by rfl) | exact VLe.refE (by simp) (by rfl) (by first | rfl | (simp; done) | (simp; omega)) | exact VLe.dE (by first | rfl | simp)), (by first | exact VLe.still rfl | exact VLe.nil_ (by decide) | exact VLe.nild_ | exact VLe.refl _ | exact VLe.ptrE (by simp) (by rfl) | exact VLe.refE (by simp) (by rfl) (by first | rfl | (simp; done) | (simp; omega)) | exact VLe.dE (by first | rfl | simp)), (by first | exact VLe.still rfl | exact VLe.nil_ (by decide) | exact VLe.nild_ | exact VLe.refl _ | exact VLe.ptrE (by simp) (by rfl) | exact VLe.refE (by simp) (by rfl) (by first | rfl | (simp; done) | (simp; omega)) | exact VLe.dE (by first | rfl | simp)), trivial⟩
            · exact ⟨fun _ => ⟨_, rfl, (by first | exact RowLe.data_ (by first | rfl | simp) | exact RowLe.uq2 (by first | rfl | simp) (by simp) ids_data | exact RowLe.still (by simp [AV.idsL, AV.ids]) | exact RowLe.same (by simp) (by simp [AV.idsL, AV.ids]))⟩, fun h => by simp at h, fun _ => ⟨_, rfl, (by first | exact RowLe.data_ (by first | rfl | simp) | exact RowLe.uq2 (by first | rfl | simp) (by simp) ids_data | exact RowLe.still (by simp [AV.idsL, AV.ids]) | exact RowLe.same (by simp) (by simp [AV.idsL, AV.ids]))⟩, fun h => by simp at h, trivial⟩
            · simp [wfV, AV.ids, AV.idsL, lookR, grow]
            · exact ⟨by simp [AV.idsL, AV.ids, lookR], by simp [AV.idsL, AV.ids, lookR], trivial⟩
      · intro hb
        obtain rfl : k = 8 := by have := of_decide_eq_false hb; omega
        clear hb
        have hlv2 : levelOk g = true := hlv
        refine awp_exit ?_
        simp only [zz6, Nat.reduceEqDiff, ↓reduceIte]
        refine hK0 _ ?_; try clear hK0 K0
        refine awp_keepL [1, 2, 4] ?_
        simp only [zz20, zzI, look_nil, Nat.reduceBEq]
        refine awp_seq fun K0 hK0 => ?_
        refine awp_plain F_mixed [some 97, some 98, some 12, none] rfl ?_
        simp only [List.nil_append, List.cons_append, true_and, and_true, zz0, true_implies, Nat.reduceLT, Nat.reduceLeDiff, zzI, look_nil, Nat.reduceBEq, implies_true, F_ok25, F_ag25, F_sz25, zz8, zz23, zzD, Nat.reduceAdd, Nat.zero_add, zzF, zzB, zzE, zz16, Option.some.injEq, exists_eq_left', exists_eq_left, Option.map_some, eq_self, reduceCtorEq, and_self, evS_call, evC_value, zz32, newRow1, F_zero25, zz10, zz18, splice, List.append_nil, zz1, zzG, bookC, tradesB, poss, D.agg.injEq, zz6, Nat.reduceEqDiff, ↓reduceIte]
        refine call_go F_go17 (fun hG => twinBk_ nx ts ps (by omega) (by omega)) (by simp [AV.ids, AV.idsL]) (by simp) ?_
        simp only [List.nil_append, List.cons_append, true_and, and_true, zz0, true_implies, Nat.reduceLT, Nat.reduceLeDiff, zzI, look_nil, Nat.reduceBEq, implies_true, F_ok25, F_ag25, F_sz25, zz8, zz23, zzD, Nat.reduceAdd, Nat.zero_add, zzF, zzB, zzE, zz16, Option.some.injEq, exists_eq_left', exists_eq_left, Option.map_some, eq_self, reduceCtorEq, and_self, evS_call, evC_value, zz32, newRow1, F_zero25, zz10, zz18, splice, List.append_nil, zz1, zzG, bookC, tradesB, poss, D.agg.injEq, zz6, Nat.reduceEqDiff, ↓reduceIte, atsL, oksG, freeN, AV.ren, AV.renL, addRows, ORow.row, Nat.reduceMul, Nat.reduceAdd, zz9, Option.bind_some, Option.map_some, forall_eq', D.sl.injEq, S_mem, Option.some.injEq, exists_eq_left', exists_eq_left, exists_eq', exists_eq, List.length_cons, zz2]
        refine hK0 _ ?_; try clear hK0 K0
        refine awp_keepL [1, 2, 4, 12] ?_
        simp only [zz20, zzI, look_nil, Nat.reduceBEq]
        refine awp_seq fun K0 hK0 => ?_
        refine awp_plain F_mixed [some 99, none] rfl ?_
        simp only [List.nil_append, List.cons_append, true_and, and_true, zz0, true_implies, Nat.reduceLT, Nat.reduceLeDiff, zzI, look_nil, Nat.reduceBEq, implies_true, zz19, zz23, F_off25_2, zzB, Nat.zero_add, Nat.reduceAdd, zz18, F_ok23, F_sz23, splice, List.append_nil, zzD, zzF, zzE, zz16, Option.some.injEq, exists_eq_left', exists_eq_left, Option.map_some, eq_self, reduceCtorEq, and_self, zz1, zzG, zz6, Nat.reduceEqDiff, ↓reduceIte]
        refine hK0 _ ?_; try clear hK0 K0
        refine awp_keepL [1, 2, 4, 12] ?_
        simp only [zz20, zzI, look_nil, Nat.reduceBEq]
        refine awp_seq fun K0 hK0 => ?_
        refine awp_seq fun K1 hK1 => ?_
        refine awp_plain F_mixed [some 13] rfl ?_
        simp only [List.nil_append, List.cons_append, true_and, and_true, zz0, true_implies, Nat.reduceLT, Nat.reduceLeDiff, zzI, look_nil, Nat.reduceBEq, implies_true, evS_assign, zz6, Nat.reduceEqDiff, ↓reduceIte]
        refine hK1 _ ?_; try clear hK1 K1
        refine awp_keepL [1, 2, 4, 12, 13] ?_
        simp only [zz20, zzI, look_nil, Nat.reduceBEq]
        refine awp_block ?_
        refine awp_loop (fun m s => ∃ (w : Nat), (w ≤ 16) ∧ ((kW w).any (jBad (ps ++ g)) = false) ∧ m = 16 - w ∧ s = S 199 [(1, .d (poss g)), (2, .ptr 2 0 0), (4, .ptr 4 0 0), (12, .ptr 12 0 0), (13, .d (iv ((w : Nat) + 1 : Int)))] [(2, (⟨True, 25, 3, true, false, 2, [[.d (iv nx), .d (.sl 7 (ts.map tradeC)), .d (.sl 4 (ps.map posC))]]⟩ : ARow)), (4, (⟨True, 25, 3, true, false, 4, [[.d (.v (.int .i64 0)), .d (.v (.slice none 0 0)), .d (.v (.slice none 0 0))]]⟩ : ARow)), (12, (⟨True, 25, 3, true, false, 12, [[.d (iv nx), .ref 99000 ts.length, .ref 500 (jOut (ps ++ g) (kW w)).length]]⟩ : ARow)), (99000, (⟨True, 27, 7, true, true, 99000, (ts.map tradeC).map (·.map .d)⟩ : ARow)), (500, grow 51 4 500 ((jOut (ps ++ g) (kW w)).map posC))]) (16) _ (le_SK id [500] rfl (l' := [(1, .d (poss g)), (2, .ptr 2 0 0), (4, .ptr 4 0 0), (12, .ptr 12 0 0), (13, .d (iv ((0 : Nat) + 1 : Int)))]) (m' := [(2, (⟨True, 25, 3, true, false, 2, [[.d (iv nx), .d (.sl 7 (ts.map tradeC)), .d (.sl 4 (ps.map posC))]]⟩ : ARow)), (4, (⟨True, 25, 3, true, false, 4, [[.d (.v (.int .i64 0)), .d (.v (.slice none 0 0)), .d (.v (.slice none 0 0))]]⟩ : ARow)), (12, (⟨True, 25, 3, true, false, 12, [[.d (iv nx), .ref 99000 ts.length, .ref 500 (jOut (ps ++ g) (kW 0)).length]]⟩ : ARow)), (99000, (⟨True, 27, 7, true, true, 99000, (ts.map tradeC).map (·.map .d)⟩ : ARow)), (500, grow 51 4 500 ((jOut (ps ++ g) (kW 0)).map posC))]) ?_ ?_ ?_ ?_) ⟨0, by omega, rfl, rfl, rfl⟩ ?_
        · simp only [leV, look_cons, Nat.reduceBEq, cond_true, cond_false]; exact ⟨(by first | exact VLe.still rfl | exact VLe.nil_ (by decide) | exact VLe.nild_ | exact VLe.refl _ | exact VLe.ptrE (by simp) (by rfl) | exact VLe.refE (by simp) (by rfl) (by first | rfl | (simp; done) | (simp; omega)) | exact VLe.dE (by first | rfl | simp)), (by first | exact VLe.still rfl | exact VLe.nil_ (by decide) | exact VLe.nild_ | exact VLe.refl _ | exact VLe.ptrE (by simp) (by rfl) | exact VLe.refE (by simp) (by rfl) (by first | rfl | (simp; done) | (simp; omega)) | exact VLe.dE (by first | rfl | simp)), (by first | exact VLe.still rfl | exact VLe.nil_ (by decide) | exact VLe.nild_ | exact VLe.refl _ | exact VLe.ptrE (by simp) (by rfl) | exact VLe.refE (by simp) (by rfl) (by first | rfl | (simp; done) | (simp; omega)) | exact VLe.dE (by first | rfl | simp)), (by first | exact VLe.still rfl | exact VLe.nil_ (by decide) | exact VLe.nild_ | exact VLe.refl _ | exact VLe.ptrE (by simp) (by rfl) | exact VLe.refE (by simp) (by rfl) (by first | rfl | (simp; done) | (simp; omega)) | exact VLe.dE (by first | rfl | simp)), VLe.dE rfl, trivial⟩
        · exact ⟨fun _ => ⟨_, rfl, (by first | exact RowLe.data_ (by first | rfl | simp) | exact RowLe.uq2 (by first | rfl | simp) (by simp) ids_data | exact RowLe.still (by simp [AV.idsL, AV.ids]) | exact RowLe.same (by simp) (by simp [AV.idsL, AV.ids]))⟩, fun h => by simp at h, fun _ => ⟨_, rfl, (by first | exact RowLe.data_ (by first | rfl | simp) | exact RowLe.uq2 (by first | rfl | simp) (by simp) ids_data | exact RowLe.still (by simp [AV.idsL, AV.ids]) | exact RowLe.same (by simp) (by simp [AV.idsL, AV.ids]))⟩, fun h => by simp at h, fun _ => ⟨_, rfl, RowLe.cells (VLess.one_ (VLes.cons_ (VLe.dE rfl) (VLes.cons_ (VLe.refE (by simp) rfl (by simp)) (VLes.cons_ (VLe.nil_ (by decide)) (VLes.nil_)))))⟩, fun h => by simp at h, fun _ => ⟨_, rfl, (by first | exact RowLe.data_ (by first | rfl | simp) | exact RowLe.uq2 (by first | rfl | simp) (by simp) ids_data | exact RowLe.still (by simp [AV.idsL, AV.ids]) | exact RowLe.same (by simp) (by simp [AV.idsL, AV.ids]))⟩, fun h => by simp at h, fun h => by simp at h, fun _ => rfl, trivial⟩
        · simp [wfV, AV.ids, AV.idsL, lookR, grow]
        · exact ⟨by simp [AV.idsL, AV.ids, lookR], by simp [AV.idsL, AV.ids, lookR], by simp [AV.idsL, AV.ids, lookR], wf_data _ _, wf_data _ _, trivial⟩
        rintro m s ⟨w, hw16, hbw, rfl, rfl⟩
        refine awp_seq fun K2 hK2 => ?_
        refine awp_seq fun K3 hK3 => ?_
        refine awp_plain F_mixed [some 100, some 101] rfl ?_
        simp only [List.nil_append, List.cons_append, true_and, and_true, zz0, true_implies, Nat.reduceLT, Nat.reduceLeDiff, zzI, look_nil, Nat.reduceBEq, implies_true, evS_move, zz21, gr_v, b_leq, pure_leq, zz6, Nat.reduceEqDiff, ↓reduceIte]
        refine hK3 _ ?_; try clear hK3 K3
        refine awp_keepL [1, 2, 4, 12, 13, 101] ?_
        simp only [zz20, zzI, look_nil, Nat.reduceBEq]
        refine awp_condS _ (by decide) (by simp only [look_cons, Nat.reduceBEq, cond_true, cond_false]; rfl) ?_ ?_
        · intro hb
          have hw : w < 16 := by have := of_decide_eq_true hb; omega
          clear hb
          have hww : IntKind.wrap .i64 ((w : Int) + 1 + 1) = (((w + 1 : Nat) : Int) + 1) := by rw [wrapI (by omega) (by omega)]; omega
          refine awp_skip ?_
          simp only [zz6, Nat.reduceEqDiff, ↓reduceIte]
          refine hK2 _ ?_; try clear hK2 K2
          refine awp_keepL [1, 2, 4, 12, 13] ?_
          simp only [zz20, zzI, look_nil, Nat.reduceBEq]
          refine awp_seq fun K2 hK2 => ?_
          refine awp_block ?_
          refine awp_seq fun K3 hK3 => ?_
          refine awp_plain F_mixed [some 14] rfl ?_
          simp only [List.nil_append, List.cons_append, true_and, and_true, zz0, true_implies, Nat.reduceLT, Nat.reduceLeDiff, zzI, look_nil, Nat.reduceBEq, implies_true, evS_assign, zz6, Nat.reduceEqDiff, ↓reduceIte]
          refine hK3 _ ?_; try clear hK3 K3
          refine awp_keepL [1, 2, 4, 12, 13, 14] ?_
          simp only [zz20, zzI, look_nil, Nat.reduceBEq]
          refine awp_block ?_
          refine awp_loop (fun m s => ∃ (n : Nat), (n ≤ 8) ∧ ((kW w ++ kN ((w : Int) + 1) n).any (jBad (ps ++ g)) = false) ∧ m = 8 - n ∧ s = S 199 [(1, .d (poss g)), (2, .ptr 2 0 0), (4, .ptr 4 0 0), (12, .ptr 12 0 0), (13, .d (iv ((w : Nat) + 1 : Int))), (14, .d (iv ((n : Nat) + 1 : Int)))] [(2, (⟨True, 25, 3, true, false, 2, [[.d (iv nx), .d (.sl 7 (ts.map tradeC)), .d (.sl 4 (ps.map posC))]]⟩ : ARow)), (4, (⟨True, 25, 3, true, false, 4, [[.d (.v (.int .i64 0)), .d (.v (.slice none 0 0)), .d (.v (.slice none 0 0))]]⟩ : ARow)), (12, (⟨True, 25, 3, true, false, 12, [[.d (iv nx), .ref 99000 ts.length, .ref 500 (jOut (ps ++ g) (kW w ++ kN ((w : Int) + 1) n)).length]]⟩ : ARow)), (99000, (⟨True, 27, 7, true, true, 99000, (ts.map tradeC).map (·.map .d)⟩ : ARow)), (500, grow 51 4 500 ((jOut (ps ++ g) (kW w ++ kN ((w : Int) + 1) n)).map posC))]) (8) _ (le_SK id [] rfl (l' := [(1, .d (poss g)), (2, .ptr 2 0 0), (4, .ptr 4 0 0), (12, .ptr 12 0 0), (13, .d (iv ((w : Nat) + 1 : Int))), (14, .d (iv ((0 : Nat) + 1 : Int)))]) (m' := [(2, (⟨True, 25, 3, true, false, 2, [[.d (iv nx), .d (.sl 7 (ts.map tradeC)), .d (.sl 4 (ps.map posC))]]⟩ : ARow)), (4, (⟨True, 25, 3, true, false, 4, [[.d (.v (.int .i64 0)), .d (.v (.slice none 0 0)), .d (.v (.slice none 0 0))]]⟩ : ARow)), (12, (⟨True, 25, 3, true, false, 12, [[.d (iv nx), .ref 99000 ts.length, .ref 500 (jOut (ps ++ g) (kW w ++ kN ((w : Int) + 1) 0)).length]]⟩ : ARow)), (99000, (⟨True, 27, 7, true, true, 99000, (ts.map tradeC).map (·.map .d)⟩ : ARow)), (500, grow 51 4 500 ((jOut (ps ++ g) (kW w ++ kN ((w : Int) + 1) 0)).map posC))]) ?_ ?_ ?_ ?_) ⟨0, by omega, by simpa [kN] using hbw, rfl, rfl⟩ ?_
          · simp only [leV, look_cons, Nat.reduceBEq, cond_true, cond_false]; exact ⟨(by first | exact VLe.still rfl | exact VLe.nil_ (by decide) | exact VLe.nild_ | exact VLe.refl _ | exact VLe.ptrE (by simp) (by rfl) | exact VLe.refE (by simp) (by rfl) (by first | rfl | (simp; done) | (simp; omega)) | exact VLe.dE (by first | rfl | simp)), (by first | exact VLe.still rfl | exact VLe.nil_ (by decide) | exact VLe.nild_ | exact VLe.refl _ | exact VLe.ptrE (by simp) (by rfl) | exact VLe.refE (by simp) (by rfl) (by first | rfl | (simp; done) | (simp; omega)) | exact VLe.dE (by first | rfl | simp)), (by first | exact VLe.still rfl | exact VLe.nil_ (by decide) | exact VLe.nild_ | exact VLe.refl _ | exact VLe.ptrE (by simp) (by rfl) | exact VLe.refE (by simp) (by rfl) (by first | rfl | (simp; done) | (simp; omega)) | exact VLe.dE (by first | rfl | simp)), (by first | exact VLe.still rfl | exact VLe.nil_ (by decide) | exact VLe.nild_ | exact VLe.refl _ | exact VLe.ptrE (by simp) (by rfl) | exact VLe.refE (by simp) (by rfl) (by first | rfl | (simp; done) | (simp; omega)) | exact VLe.dE (by first | rfl | simp)), (by first | exact VLe.still rfl | exact VLe.nil_ (by decide) | exact VLe.nild_ | exact VLe.refl _ | exact VLe.ptrE (by simp) (by rfl) | exact VLe.refE (by simp) (by rfl) (by first | rfl | (simp; done) | (simp; omega)) | exact VLe.dE (by first | rfl | simp)), VLe.dE rfl, trivial⟩
          · exact ⟨fun _ => ⟨_, rfl, (by first | exact RowLe.data_ (by first | rfl | simp) | exact RowLe.uq2 (by first | rfl | simp) (by simp) ids_data | exact RowLe.still (by simp [AV.idsL, AV.ids]) | exact RowLe.same (by simp) (by simp [AV.idsL, AV.ids]))⟩, fun h => by simp at h, fun _ => ⟨_, rfl, (by first | exact RowLe.data_ (by first | rfl | simp) | exact RowLe.uq2 (by first | rfl | simp) (by simp) ids_data | exact RowLe.still (by simp [AV.idsL, AV.ids]) | exact RowLe.same (by simp) (by simp [AV.idsL, AV.ids]))⟩, fun h => by simp at h, fun _ => ⟨_, rfl, RowLe.cells (VLess.one_ (VLes.cons_ (VLe.dE rfl) (VLes.cons_ (VLe.refE (by simp) rfl (by simp)) (VLes.cons_ (VLe.refE (by simp) rfl (by simp [kN])) (VLes.nil_)))))⟩, fun h => by simp at h, fun _ => ⟨_, rfl, (by first | exact RowLe.data_ (by first | rfl | simp) | exact RowLe.uq2 (by first | rfl | simp) (by simp) ids_data | exact RowLe.still (by simp [AV.idsL, AV.ids]) | exact RowLe.same (by simp) (by simp [AV.idsL, AV.ids]))⟩, fun h => by simp at h, fun _ => ⟨_, rfl, RowLe.data_ (by simp [kN])⟩, fun h => by simp at h, trivial⟩
          · simp [wfV, AV.ids, AV.idsL, lookR, grow]
          · exact ⟨by simp [AV.idsL, AV.ids, lookR], by simp [AV.idsL, AV.ids, lookR], by simp [AV.idsL, AV.ids, lookR], wf_data _ _, wf_data _ _, trivial⟩
          rintro m s ⟨n, hn8, hbn, rfl, rfl⟩
          have hjl := jOut_len (ps ++ g) (kW w ++ kN ((w : Int) + 1) n)
          rw [List.length_append, kW_len, kN_len] at hjl
          refine awp_seq fun K4 hK4 => ?_
          refine awp_seq fun K5 hK5 => ?_
          refine awp_plain F_mixed [some 104, some 105] rfl ?_
          simp only [List.nil_append, List.cons_append, true_and, and_true, zz0, true_implies, Nat.reduceLT, Nat.reduceLeDiff, zzI, look_nil, Nat.reduceBEq, implies_true, evS_move, zz21, gr_v, b_leq, pure_leq, zz6, Nat.reduceEqDiff, ↓reduceIte]
          refine hK5 _ ?_; try clear hK5 K5
          refine awp_keepL [1, 2, 4, 12, 13, 14, 105] ?_
          simp only [zz20, zzI, look_nil, Nat.reduceBEq]
          refine awp_condS _ (by decide) (by simp only [look_cons, Nat.reduceBEq, cond_true, cond_false]; rfl) ?_ ?_
          · intro hb
            have hn : n < 8 := by have := of_decide_eq_true hb; omega
            clear hb
            have hwn : IntKind.wrap .i64 ((n : Int) + 1 + 1) = (((n + 1 : Nat) : Int) + 1) := by rw [wrapI (by omega) (by omega)]; omega
            obtain ⟨hqb, hcb⟩ := qcL_bnd hG hR ((w : Int) + 1) ((n : Int) + 1)
            obtain ⟨hqs, hcs⟩ := qcL_sum (w := (w : Int) + 1) (n := (n : Int) + 1) hG g
            simp only at hqb hcb hqs hcs
            refine awp_skip ?_
            simp only [zz6, Nat.reduceEqDiff, ↓reduceIte]
            refine hK4 _ ?_; try clear hK4 K4
            refine awp_keepL [1, 2, 4, 12, 13, 14] ?_
            simp only [zz20, zzI, look_nil, Nat.reduceBEq]
            refine awp_seq fun K4 hK4 => ?_
            refine awp_block ?_
            refine awp_seq fun K5 hK5 => ?_
            refine awp_plain F_mixed [some 108, some 109, some 110, some 111, some 112, some 15, none] rfl ?_
            simp only [List.nil_append, List.cons_append, true_and, and_true, zz0, true_implies, Nat.reduceLT, Nat.reduceLeDiff, zzI, look_nil, Nat.reduceBEq, implies_true, F_ok25, F_ag25, F_sz25, zz8, zz23, zzD, Nat.reduceAdd, Nat.zero_add, zzF, zzB, zzE, zz16, Option.some.injEq, exists_eq_left', exists_eq_left, Option.map_some, eq_self, reduceCtorEq, and_self, evS_move, F_zero44, F_bld44, zz7, splice, Option.getD_some, List.append_nil, zz1, zzG, zz10, F_fld44_0, F_fld44_1, evS_call, evC_value, zz32, newRow1, F_zero51, zz18, F_ok51, F_sz51, bookC, tradesB, poss, posA, D.agg.injEq, zz6, Nat.reduceEqDiff, ↓reduceIte]
            refine call_go F_go24 (fun hG => rOf13_ nx ts ps ((w : Int) + 1) ((n : Int) + 1) (by omega)) (by simp [AV.ids, AV.idsL, posA]) (by simp) ?_
            simp only [List.nil_append, List.cons_append, true_and, and_true, zz0, true_implies, Nat.reduceLT, Nat.reduceLeDiff, zzI, look_nil, Nat.reduceBEq, implies_true, F_ok25, F_ag25, F_sz25, zz8, zz23, zzD, Nat.reduceAdd, Nat.zero_add, zzF, zzB, zzE, zz16, Option.some.injEq, exists_eq_left', exists_eq_left, Option.map_some, eq_self, reduceCtorEq, and_self, evS_move, F_zero44, F_bld44, zz7, splice, Option.getD_some, List.append_nil, zz1, zzG, zz10, F_fld44_0, F_fld44_1, evS_call, evC_value, zz32, newRow1, F_zero51, zz18, F_ok51, F_sz51, bookC, tradesB, poss, posA, D.agg.injEq, zz6, Nat.reduceEqDiff, ↓reduceIte, atsL, oksG, freeN, AV.ren, AV.renL, addRows, ORow.row, Nat.reduceMul, Nat.reduceAdd, zz9, Option.bind_some, Option.map_some, forall_eq', D.sl.injEq, S_mem, Option.some.injEq, exists_eq_left', exists_eq_left, exists_eq', exists_eq, List.length_cons, zz2]
            refine hK5 _ ?_; try clear hK5 K5
            refine awp_keepL [1, 2, 4, 12, 13, 14, 15] ?_
            simp only [zz20, zzI, look_nil, Nat.reduceBEq]
            refine awp_seq fun K5 hK5 => ?_
            refine awp_draw F_mixed [some 113, some 114, some 115, some 116, some 117, some 118, some 16, some 17] rfl (by kernel_rfl) ?_
            simp only [List.nil_append, List.cons_append, true_and, and_true, zz0, true_implies, Nat.reduceLT, Nat.reduceLeDiff, zzI, look_nil, Nat.reduceBEq, implies_true, zz19, zz23, F_off51_1, zzB, Nat.zero_add, Nat.reduceAdd, F_ok3, F_ag3, F_sz3, zz8, zzD, zzF, zzE, zz16, Option.some.injEq, exists_eq_left', exists_eq_left, Option.map_some, eq_self, reduceCtorEq, and_self, F_sl68, F_zero3, zz3, newRow1, zz1, zzG, maxLen_le, Nat.reduceMul, F_off51_2, evS_assign, posA, zz6, Nat.reduceEqDiff, ↓reduceIte]
            refine hK5 _ ?_; try clear hK5 K5
            refine awp_keepL [1, 2, 4, 12, 13, 14, 16, 17] ?_
            simp only [zz20, zzI, look_nil, Nat.reduceBEq]
            refine awp_seq fun K5 hK5 => ?_
            refine awp_seq fun K6 hK6 => ?_
            refine awp_plain F_mixed [some 18] rfl ?_
            simp only [List.nil_append, List.cons_append, true_and, and_true, zz0, true_implies, Nat.reduceLT, Nat.reduceLeDiff, zzI, look_nil, Nat.reduceBEq, implies_true, evS_assign, zz6, Nat.reduceEqDiff, ↓reduceIte]
            refine hK6 _ ?_; try clear hK6 K6
            refine awp_keepL [1, 2, 4, 12, 13, 14, 16, 17, 18] ?_
            simp only [zz20, zzI, look_nil, Nat.reduceBEq]
            refine awp_block ?_
            refine awp_loop (fun m s => ∃ (pre : List PosV) (post : List PosV), (g = pre ++ post) ∧ m = post.length ∧ s = S 199 [(1, .d (poss g)), (2, .ptr 2 0 0), (4, .ptr 4 0 0), (12, .ptr 12 0 0), (13, .d (iv ((w : Nat) + 1 : Int))), (14, .d (iv ((n : Nat) + 1 : Int))), (16, .ref 16 (qcL PosV.qty ((w : Int) + 1) ((n : Int) + 1) ps pre).length), (17, .ref 17 (qcL PosV.cost ((w : Int) + 1) ((n : Int) + 1) ps pre).length), (18, .d (iv pre.length))] [(2, (⟨True, 25, 3, true, false, 2, [[.d (iv nx), .d (.sl 7 (ts.map tradeC)), .d (.sl 4 (ps.map posC))]]⟩ : ARow)), (4, (⟨True, 25, 3, true, false, 4, [[.d (.v (.int .i64 0)), .d (.v (.slice none 0 0)), .d (.v (.slice none 0 0))]]⟩ : ARow)), (12, (⟨True, 25, 3, true, false, 12, [[.d (iv nx), .ref 99000 ts.length, .ref 500 (jOut (ps ++ g) (kW w ++ kN ((w : Int) + 1) n)).length]]⟩ : ARow)), (99000, (⟨True, 27, 7, true, true, 99000, (ts.map tradeC).map (·.map .d)⟩ : ARow)), (500, grow 51 4 500 ((jOut (ps ++ g) (kW w ++ kN ((w : Int) + 1) n)).map posC)), (16, grow 3 1 16 ((qcL PosV.qty ((w : Int) + 1) ((n : Int) + 1) ps pre).map fun n => [iv n])), (17, grow 3 1 17 ((qcL PosV.cost ((w : Int) + 1) ((n : Int) + 1) ps pre).map fun n => [iv n]))]) (g.length) _ (le_SK (fun r => bif r == 17 then 118 else bif r == 16 then 115 else r) [] rfl (l' := [(1, .d (poss g)), (2, .ptr 2 0 0), (4, .ptr 4 0 0), (12, .ptr 12 0 0), (13, .d (iv ((w : Nat) + 1 : Int))), (14, .d (iv ((n : Nat) + 1 : Int))), (16, .ref 16 (qcL PosV.qty ((w : Int) + 1) ((n : Int) + 1) ps []).length), (17, .ref 17 (qcL PosV.cost ((w : Int) + 1) ((n : Int) + 1) ps []).length), (18, .d (iv [].length))]) (m' := [(2, (⟨True, 25, 3, true, false, 2, [[.d (iv nx), .d (.sl 7 (ts.map tradeC)), .d (.sl 4 (ps.map posC))]]⟩ : ARow)), (4, (⟨True, 25, 3, true, false, 4, [[.d (.v (.int .i64 0)), .d (.v (.slice none 0 0)), .d (.v (.slice none 0 0))]]⟩ : ARow)), (12, (⟨True, 25, 3, true, false, 12, [[.d (iv nx), .ref 99000 ts.length, .ref 500 (jOut (ps ++ g) (kW w ++ kN ((w : Int) + 1) n)).length]]⟩ : ARow)), (99000, (⟨True, 27, 7, true, true, 99000, (ts.map tradeC).map (·.map .d)⟩ : ARow)), (500, grow 51 4 500 ((jOut (ps ++ g) (kW w ++ kN ((w : Int) + 1) n)).map posC)), (16, grow 3 1 16 ((qcL PosV.qty ((w : Int) + 1) ((n : Int) + 1) ps []).map fun n => [iv n])), (17, grow 3 1 17 ((qcL PosV.cost ((w : Int) + 1) ((n : Int) + 1) ps []).map fun n => [iv n]))]) ?_ ?_ ?_ ?_) ⟨[], g, rfl, rfl, rfl⟩ ?_
            · simp only [leV, look_cons, Nat.reduceBEq, cond_true, cond_false]; exact ⟨(by first | exact VLe.still rfl | exact VLe.nil_ (by decide) | exact VLe.nild_ | exact VLe.refl _ | exact VLe.ptrE (by simp) (by rfl) | exact VLe.refE (by simp) (by rfl) (by first | rfl | (simp; done) | (simp; omega)) | exact VLe.dE (by first | rfl | simp)), (by first | exact VLe.still rfl | exact VLe.nil_ (by decide) | exact VLe.nild_ | exact VLe.refl _ | exact VLe.ptrE (by simp) (by rfl) | exact VLe.refE (by simp) (by rfl) (by first | rfl | (simp; done) | (simp; omega)) | exact VLe.dE (by first | rfl | simp)), (by first | exact VLe.still rfl | exact VLe.nil_ (by decide) | exact VLe.nild_ | exact VLe.refl _ | exact VLe.ptrE (by simp) (by rfl) | exact VLe.refE (by simp) (by rfl) (by first | rfl | (simp; done) | (simp; omega)) | exact VLe.dE (by first | rfl | simp)), (by first | exact VLe.still rfl | exact VLe.nil_ (by decide) | exact VLe.nild_ | exact VLe.refl _ | exact VLe.ptrE (by simp) (by rfl) | exact VLe.refE (by simp) (by rfl) (by first | rfl | (simp; done) | (simp; omega)) | exact VLe.dE (by first | rfl | simp)), (by first | exact VLe.still rfl | exact VLe.nil_ (by decide) | exact VLe.nild_ | exact VLe.refl _ | exact VLe.ptrE (by simp) (by rfl) | exact VLe.refE (by simp) (by rfl) (by first | rfl | (simp; done) | (simp; omega)) | exact VLe.dE (by first | rfl | simp)), (by first | exact VLe.still rfl | exact VLe.nil_ (by decide) | exact VLe.nild_ | exact VLe.refl _ | exact VLe.ptrE (by simp) (by rfl) | exact VLe.refE (by simp) (by rfl) (by first | rfl | (simp; done) | (simp; omega)) | exact VLe.dE (by first | rfl | simp)), (by first | exact VLe.still rfl | exact VLe.nil_ (by decide) | exact VLe.nild_ | exact VLe.refl _ | exact VLe.ptrE (by simp) (by rfl) | exact VLe.refE (by simp) (by rfl) (by first | rfl | (simp; done) | (simp; omega)) | exact VLe.dE (by first | rfl | simp)), (by first | exact VLe.still rfl | exact VLe.nil_ (by decide) | exact VLe.nild_ | exact VLe.refl _ | exact VLe.ptrE (by simp) (by rfl) | exact VLe.refE (by simp) (by rfl) (by first | rfl | (simp; done) | (simp; omega)) | exact VLe.dE (by first | rfl | simp)), (by first | exact VLe.still rfl | exact VLe.nil_ (by decide) | exact VLe.nild_ | exact VLe.refl _ | exact VLe.ptrE (by simp) (by rfl) | exact VLe.refE (by simp) (by rfl) (by first | rfl | (simp; done) | (simp; omega)) | exact VLe.dE (by first | rfl | simp)), trivial⟩
            · exact ⟨fun _ => ⟨_, rfl, (by first | exact RowLe.data_ (by first | rfl | simp) | exact RowLe.uq2 (by first | rfl | simp) (by simp) ids_data | exact RowLe.still (by simp [AV.idsL, AV.ids]) | exact RowLe.same (by simp) (by simp [AV.idsL, AV.ids]))⟩, fun h => by simp at h, fun _ => ⟨_, rfl, (by first | exact RowLe.data_ (by first | rfl | simp) | exact RowLe.uq2 (by first | rfl | simp) (by simp) ids_data | exact RowLe.still (by simp [AV.idsL, AV.ids]) | exact RowLe.same (by simp) (by simp [AV.idsL, AV.ids]))⟩, fun h => by simp at h, fun _ => ⟨_, rfl, RowLe.cells (VLess.one_ (VLes.cons_ (VLe.dE rfl) (VLes.cons_ (VLe.refE (by simp) rfl (rfl)) (VLes.cons_ (VLe.refE (by simp) rfl (rfl)) (VLes.nil_)))))⟩, fun h => by simp at h, fun _ => ⟨_, rfl, (by first | exact RowLe.data_ (by first | rfl | simp) | exact RowLe.uq2 (by first | rfl | simp) (by simp) ids_data | exact RowLe.still (by simp [AV.idsL, AV.ids]) | exact RowLe.same (by simp) (by simp [AV.idsL, AV.ids]))⟩, fun h => by simp at h, fun _ => ⟨_, rfl, (by first | exact RowLe.data_ (by first | rfl | simp) | exact RowLe.uq2 (by first | rfl | simp) (by simp) ids_data | exact RowLe.still (by simp [AV.idsL, AV.ids]) | exact RowLe.same (by simp) (by simp [AV.idsL, AV.ids]))⟩, fun h => by simp at h, fun _ => ⟨_, rfl, RowLe.uq2 (by rfl) (by simp [qcL, kF]) (by simp [AV.idsL, AV.ids])⟩, fun h => by simp at h, fun _ => ⟨_, rfl, RowLe.uq2 (by rfl) (by simp [qcL, kF]) (by simp [AV.idsL, AV.ids])⟩, fun h => by simp at h, trivial⟩
            · simp [wfV, AV.ids, AV.idsL, lookR, grow]
            · exact ⟨by simp [AV.idsL, AV.ids, lookR], by simp [AV.idsL, AV.ids, lookR], by simp [AV.idsL, AV.ids, lookR], wf_data _ _, wf_data _ _, wf_data _ _, wf_data _ _, trivial⟩
            rintro m s ⟨pre, post, hsp, rfl, rfl⟩
            have hspl := congrArg List.length hsp
            simp only [List.length_append] at hspl
            have hql := qcL_len PosV.qty ((w : Int) + 1) ((n : Int) + 1) ps pre
            have hcl := qcL_len PosV.cost ((w : Int) + 1) ((n : Int) + 1) ps pre
            refine awp_seq fun K7 hK7 => ?_
            refine awp_seq fun K8 hK8 => ?_
            refine awp_plain F_mixed [some 119, some 120, some 121, some 122] rfl ?_
            simp only [List.nil_append, List.cons_append, true_and, and_true, zz0, true_implies, Nat.reduceLT, Nat.reduceLeDiff, zzI, look_nil, Nat.reduceBEq, implies_true, evS_move, evS_call, zz12, F_sl23, Option.isSome_some, zz21, gr_v, zz22, poss, len_map, zz6, Nat.reduceEqDiff, ↓reduceIte]
            refine hK8 _ ?_; try clear hK8 K8
            refine awp_keepL [1, 2, 4, 12, 13, 14, 16, 17, 18, 122] ?_
            simp only [zz20, zzI, look_nil, Nat.reduceBEq]
            refine awp_condS _ (by decide) (by simp only [look_cons, Nat.reduceBEq, cond_true, cond_false]; rfl) ?_ ?_
            · intro hb
              obtain ⟨x, post2, rfl⟩ : ∃ x t, post = x :: t := by
                cases post with
                | nil => have := of_decide_eq_true hb; simp at hspl; omega
                | cons x t => exact ⟨x, t, rfl⟩
              clear hb
              simp only [List.length_cons] at hspl
              have gx : (g.map posC).getD pre.length [] = [iv x.who, iv x.inst, iv x.qty, iv x.cost] := by
                rw [hsp, List.map_append]; exact gd_mid' (A := pre.map posC) _ _ (by simp)
              have bx := ltI (show pre.length < g.length by omega)
              have hwx : IntKind.wrap .i64 ((pre.length : Int) + 1) = ((pre ++ [x]).length : Int) := by rw [wrapI (by omega) (by omega)]; simp
              refine awp_skip ?_
              simp only [zz6, Nat.reduceEqDiff, ↓reduceIte]
              refine hK7 _ ?_; try clear hK7 K7
              refine awp_keepL [1, 2, 4, 12, 13, 14, 16, 17, 18] ?_
              simp only [zz20, zzI, look_nil, Nat.reduceBEq]
              refine awp_seq fun K7 hK7 => ?_
              refine awp_block ?_
              refine awp_seq fun K8 hK8 => ?_
              refine awp_plain F_mixed [some 125, some 126, some 127, some 128, some 129, some 130, some 131, some 132, some 133, some 134, some 135, some 136, some 137, some 138, some 139, some 140, some 141, some 142] rfl ?_
              simp only [List.nil_append, List.cons_append, true_and, and_true, zz0, true_implies, Nat.reduceLT, Nat.reduceLeDiff, zzI, look_nil, Nat.reduceBEq, implies_true, Nat.reduceSub, S_getD, zz5, and_imp, imp_and, imp_self, and_self, evS_move, evS_indexAddr, zz23, zz24, F_sl23, F_sz51, Option.map_some, zz16, Option.some.injEq, exists_eq_left', exists_eq_left, eq_self, reduceCtorEq, zz19, F_off51_0, zzB, Nat.zero_add, Nat.reduceAdd, F_off44_0, F_ok3, F_ag3, F_sz3, zz8, zzD, zzF, zzE, zz21, gr_v, zz34, F_off44_1, zz13, pickK_l, pickK_r, poss, posC, gx, bx, hwx, len_map, ge0, Int.toNat_natCast, D.agg.injEq, zz6, Nat.reduceEqDiff, ↓reduceIte]
              refine hK8 _ ?_; try clear hK8 K8
              refine awp_keepL [1, 2, 4, 12, 13, 14, 16, 17, 18, 142] ?_
              simp only [zz20, zzI, look_nil, Nat.reduceBEq]
              refine awp_condS _ (by decide) (by simp only [look_cons, Nat.reduceBEq, cond_true, cond_false]; rfl) ?_ ?_
              · intro hb
                have hs : kSame ((w : Int) + 1) ((n : Int) + 1) x = true := hb
                clear hb
                have hq := qcL_yes (f := PosV.qty) hs ps pre
                have hc := qcL_yes (f := PosV.cost) hs ps pre
                refine awp_seq fun K9 hK9 => ?_
                refine awp_plain F_mixed [some 143, some 144, some 145, some 146, some 147, some 148, some 149, some 150, some 16] rfl ?_
                simp only [List.nil_append, List.cons_append, true_and, and_true, zz0, true_implies, Nat.reduceLT, Nat.reduceLeDiff, zzI, look_nil, Nat.reduceBEq, implies_true, evS_move, evS_indexAddr, zz23, zz24, F_sl23, F_sz51, Option.map_some, zz16, Option.some.injEq, exists_eq_left', exists_eq_left, eq_self, reduceCtorEq, and_self, zz19, F_off51_1, zzB, Nat.zero_add, Nat.reduceAdd, F_ok3, F_ag3, F_sz3, zz8, zzD, zzF, zzE, F_sl68, F_zero3, zz3, newRow1, zz1, zzG, maxLen_le, Nat.reduceMul, evS_call, F_by3, zz4, zz9, Option.bind_some, evS_assign, poss, posC, grow, unDs_map, gx, bx, hwx, len_map, ge0, Int.toNat_natCast, D.agg.injEq, zz6, Nat.reduceEqDiff, ↓reduceIte]
                have hm : (qcL PosV.qty ((w : Int) + 1) ((n : Int) + 1) ps pre).length + 1 ≤ 1000000 := by first | omega | (simp; omega)
                first | refine ⟨le_maxLen hm, by omega, ?_⟩ | refine ⟨by simp, le_maxLen hm, by omega, ?_⟩
                clear hm
                refine hK9 _ ?_; try clear hK9 K9
                refine awp_keepL [1, 2, 4, 12, 13, 14, 16, 17, 18] ?_
                simp only [zz20, zzI, look_nil, Nat.reduceBEq]
                refine awp_plain F_mixed [some 151, some 152, some 153, some 154, some 155, some 156, some 157, some 158, some 17] rfl ?_
                simp only [List.nil_append, List.cons_append, true_and, and_true, zz0, true_implies, Nat.reduceLT, Nat.reduceLeDiff, zzI, look_nil, Nat.reduceBEq, implies_true, evS_move, evS_indexAddr, zz23, zz24, F_sl23, F_sz51, Option.map_some, zz16, Option.some.injEq, exists_eq_left', exists_eq_left, eq_self, reduceCtorEq, and_self, zz19, F_off51_2, zzB, Nat.zero_add, Nat.reduceAdd, F_ok3, F_ag3, F_sz3, zz8, zzD, zzF, zzE, F_sl68, F_zero3, zz3, newRow1, zz1, zzG, maxLen_le, Nat.reduceMul, evS_call, F_by3, zz4, zz9, Option.bind_some, evS_assign, poss, posC, grow, unDs_map, gx, bx, hwx, len_map, ge0, Int.toNat_natCast, D.agg.injEq, zz6, Nat.reduceEqDiff, ↓reduceIte]
                have hm : (qcL PosV.cost ((w : Int) + 1) ((n : Int) + 1) ps pre).length + 1 ≤ 1000000 := by first | omega | (simp; omega)
                first | refine ⟨le_maxLen hm, by omega, ?_⟩ | refine ⟨by simp, le_maxLen hm, by omega, ?_⟩
                clear hm
                refine hK7 _ ?_; try clear hK7 K7
                refine awp_keepL [1, 2, 4, 12, 13, 14, 16, 17, 18] ?_
                simp only [zz20, zzI, look_nil, Nat.reduceBEq]
                refine awp_plain F_mixed [some 123, some 124, some 18] rfl ?_
                simp only [List.nil_append, List.cons_append, true_and, and_true, zz0, true_implies, Nat.reduceLT, Nat.reduceLeDiff, zzI, look_nil, Nat.reduceBEq, implies_true, evS_move, zz21, gr_v, zz26, evS_assign, hwx, zz6, Nat.reduceEqDiff, ↓reduceIte]
                refine ⟨post2.length, _, by simp, le_SK (fun r => bif r == 17 then 158 else bif r == 16 then 150 else r) [] rfl (l' := [(1, .d (poss g)), (2, .ptr 2 0 0), (4, .ptr 4 0 0), (12, .ptr 12 0 0), (13, .d (iv ((w : Nat) + 1 : Int))), (14, .d (iv ((n : Nat) + 1 : Int))), (16, .ref 16 (qcL PosV.qty ((w : Int) + 1) ((n : Int) + 1) ps (pre ++ [x])).length), (17, .ref 17 (qcL PosV.cost ((w : Int) + 1) ((n : Int) + 1) ps (pre ++ [x])).length), (18, .d (iv (pre ++ [x]).length))]) (m' := [(2, (⟨True, 25, 3, true, false, 2, [[.d (iv nx), .d (.sl 7 (ts.map tradeC)), .d (.sl 4 (ps.map posC))]]⟩ : ARow)), (4, (⟨True, 25, 3, true, false, 4, [[.d (.v (.int .i64 0)), .d (.v (.slice none 0 0)), .d (.v (.slice none 0 0))]]⟩ : ARow)), (12, (⟨True, 25, 3, true, false, 12, [[.d (iv nx), .ref 99000 ts.length, .ref 500 (jOut (ps ++ g) (kW w ++ kN ((w : Int) + 1) n)).length]]⟩ : ARow)), (99000, (⟨True, 27, 7, true, true, 99000, (ts.map tradeC).map (·.map .d)⟩ : ARow)), (500, grow 51 4 500 ((jOut (ps ++ g) (kW w ++ kN ((w : Int) + 1) n)).map posC)), (16, grow 3 1 16 ((qcL PosV.qty ((w : Int) + 1) ((n : Int) + 1) ps (pre ++ [x])).map fun n => [iv n])), (17, grow 3 1 17 ((qcL PosV.cost ((w : Int) + 1) ((n : Int) + 1) ps (pre ++ [x])).map fun n => [iv n]))]) ?_ ?_ ?_ ?_, (pre ++ [x]), post2, by simp [hsp], rfl, rfl⟩
                · simp only [leV, look_cons, Nat.reduceBEq, cond_true, cond_false, hwx, hq, hc]; exact ⟨(by first | exact VLe.still rfl | exact VLe.nil_ (by decide) | exact VLe.nild_ | exact VLe.refl _ | exact VLe.ptrE (by simp) (by rfl) | exact VLe.refE (by simp) (by rfl) (by first | rfl | (simp; done) | (simp; omega)) | exact VLe.dE (by first | rfl | simp)), (by first | exact VLe.still rfl | exact VLe.nil_ (by decide) | exact VLe.nild_ | exact VLe.refl _ | exact VLe.ptrE (by simp) (by rfl) | exact VLe.refE (by simp) (by rfl) (by first | rfl | (simp; done) | (simp; omega)) | exact VLe.dE (by first | rfl | simp)), (by first | exact VLe.still rfl | exact VLe.nil_ (by decide) | exact VLe.nild_ | exact VLe.refl _ | exact VLe.ptrE (by simp) (by rfl) | exact VLe.refE (by simp) (by rfl) (by first | rfl | (simp; done) | (simp; omega)) | exact VLe.dE (by first | rfl | simp)), (by first | exact VLe.still rfl | exact VLe.nil_ (by decide) | exact VLe.nild_ | exact VLe.refl _ | exact VLe.ptrE (by simp) (by rfl) | exact VLe.refE (by simp) (by rfl) (by first | rfl | (simp; done) | (simp; omega)) | exact VLe.dE (by first | rfl | simp)), (by first | exact VLe.still rfl | exact VLe.nil_ (by decide) | exact VLe.nild_ | exact VLe.refl _ | exact VLe.ptrE (by simp) (by rfl) | exact VLe.refE (by simp) (by rfl) (by first | rfl | (simp; done) | (simp; omega)) | exact VLe.dE (by first | rfl | simp)), (by first | exact VLe.still rfl | exact VLe.nil_ (by decide) | exact VLe.nild_ | exact VLe.refl _ | exact VLe.ptrE (by simp) (by rfl) | exact VLe.refE (by simp) (by rfl) (by first | rfl | (simp; done) | (simp; omega)) | exact VLe.dE (by first | rfl | simp)), (by first | exact VLe.still rfl | exact VLe.nil_ (by decide) | exact VLe.nild_ | exact VLe.refl _ | exact VLe.ptrE (by simp) (by rfl) | exact VLe.refE (by simp) (by rfl) (by first | rfl | (simp; done) | (simp; omega)) | exact VLe.dE (by first | rfl | simp)), (by first | exact VLe.still rfl | exact VLe.nil_ (by decide) | exact VLe.nild_ | exact VLe.refl _ | exact VLe.ptrE (by simp) (by rfl) | exact VLe.refE (by simp) (by rfl) (by first | rfl | (simp; done) | (simp; omega)) | exact VLe.dE (by first | rfl | simp)), (by first | exact VLe.still rfl | exact VLe.nil_ (by decide) | exact VLe.nild_ | exact VLe.refl _ | exact VLe.ptrE (by simp) (by rfl) | exact VLe.refE (by simp) (by rfl) (by first | rfl | (simp; done) | (simp; omega)) | exact VLe.dE (by first | rfl | simp)), trivial⟩
                · exact ⟨fun _ => ⟨_, rfl, (by first | exact RowLe.data_ (by first | rfl | simp) | exact RowLe.uq2 (by first | rfl | simp) (by simp) ids_data | exact RowLe.still (by simp [AV.idsL, AV.ids]) | exact RowLe.same (by simp) (by simp [AV.idsL, AV.ids]))⟩, fun h => by simp at h, fun _ => ⟨_, rfl, (by first | exact RowLe.data_ (by first | rfl | simp) | exact RowLe.uq2 (by first | rfl | simp) (by simp) ids_data | exact RowLe.still (by simp [AV.idsL, AV.ids]) | exact RowLe.same (by simp) (by simp [AV.idsL, AV.ids]))⟩, fun h => by simp at h, fun _ => ⟨_, rfl, RowLe.cells (VLess.one_ (VLes.cons_ (VLe.dE rfl) (VLes.cons_ (VLe.refE (by simp) rfl (rfl)) (VLes.cons_ (VLe.refE (by simp) rfl (rfl)) (VLes.nil_)))))⟩, fun h => by simp at h, fun _ => ⟨_, rfl, (by first | exact RowLe.data_ (by first | rfl | simp) | exact RowLe.uq2 (by first | rfl | simp) (by simp) ids_data | exact RowLe.still (by simp [AV.idsL, AV.ids]) | exact RowLe.same (by simp) (by simp [AV.idsL, AV.ids]))⟩, fun h => by simp at h, fun _ => ⟨_, rfl, (by first | exact RowLe.data_ (by first | rfl | simp) | exact RowLe.uq2 (by first | rfl | simp) (by simp) ids_data | exact RowLe.still (by simp [AV.idsL, AV.ids]) | exact RowLe.same (by simp) (by simp [AV.idsL, AV.ids]))⟩, fun h => by simp at h, fun _ => ⟨_, rfl, RowLe.data_ (by rw [hq]; simp)⟩, fun h => by simp at h, fun _ => ⟨_, rfl, RowLe.data_ (by rw [hc]; simp)⟩, fun h => by simp at h, trivial⟩
                · simp [wfV, AV.ids, AV.idsL, lookR, grow]
                · exact ⟨by simp [AV.idsL, AV.ids, lookR], by simp [AV.idsL, AV.ids, lookR], by simp [AV.idsL, AV.ids, lookR], wf_data _ _, wf_data _ _, wf_data _ _, wf_data _ _, trivial⟩
              · intro hb
                have hs : kSame ((w : Int) + 1) ((n : Int) + 1) x = false := hb
                clear hb
                have hq := qcL_no (f := PosV.qty) hs ps pre
                have hc := qcL_no (f := PosV.cost) hs ps pre
                refine awp_skip ?_
                simp only [zz6, Nat.reduceEqDiff, ↓reduceIte]
                refine hK7 _ ?_; try clear hK7 K7
                refine awp_keepL [1, 2, 4, 12, 13, 14, 16, 17, 18] ?_
                simp only [zz20, zzI, look_nil, Nat.reduceBEq]
                refine awp_plain F_mixed [some 123, some 124, some 18] rfl ?_
                simp only [List.nil_append, List.cons_append, true_and, and_true, zz0, true_implies, Nat.reduceLT, Nat.reduceLeDiff, zzI, look_nil, Nat.reduceBEq, implies_true, evS_move, zz21, gr_v, zz26, evS_assign, hwx, zz6, Nat.reduceEqDiff, ↓reduceIte]
                refine ⟨post2.length, _, by simp, le_SK id [] rfl (l' := [(1, .d (poss g)), (2, .ptr 2 0 0), (4, .ptr 4 0 0), (12, .ptr 12 0 0), (13, .d (iv ((w : Nat) + 1 : Int))), (14, .d (iv ((n : Nat) + 1 : Int))), (16, .ref 16 (qcL PosV.qty ((w : Int) + 1) ((n : Int) + 1) ps (pre ++ [x])).length), (17, .ref 17 (qcL PosV.cost ((w : Int) + 1) ((n : Int) + 1) ps (pre ++ [x])).length), (18, .d (iv (pre ++ [x]).length))]) (m' := [(2, (⟨True, 25, 3, true, false, 2, [[.d (iv nx), .d (.sl 7 (ts.map tradeC)), .d (.sl 4 (ps.map posC))]]⟩ : ARow)), (4, (⟨True, 25, 3, true, false, 4, [[.d (.v (.int .i64 0)), .d (.v (.slice none 0 0)), .d (.v (.slice none 0 0))]]⟩ : ARow)), (12, (⟨True, 25, 3, true, false, 12, [[.d (iv nx), .ref 99000 ts.length, .ref 500 (jOut (ps ++ g) (kW w ++ kN ((w : Int) + 1) n)).length]]⟩ : ARow)), (99000, (⟨True, 27, 7, true, true, 99000, (ts.map tradeC).map (·.map .d)⟩ : ARow)), (500, grow 51 4 500 ((jOut (ps ++ g) (kW w ++ kN ((w : Int) + 1) n)).map posC)), (16, grow 3 1 16 ((qcL PosV.qty ((w : Int) + 1) ((n : Int) + 1) ps (pre ++ [x])).map fun n => [iv n])), (17, grow 3 1 17 ((qcL PosV.cost ((w : Int) + 1) ((n : Int) + 1) ps (pre ++ [x])).map fun n => [iv n]))]) ?_ ?_ ?_ ?_, (pre ++ [x]), post2, by simp [hsp], rfl, rfl⟩
                · simp only [leV, look_cons, Nat.reduceBEq, cond_true, cond_false, hwx, hq, hc]; exact ⟨(by first | exact VLe.still rfl | exact VLe.nil_ (by decide) | exact VLe.nild_ | exact VLe.refl _ | exact VLe.ptrE (by simp) (by rfl) | exact VLe.refE (by simp) (by rfl) (by first | rfl | (simp; done) | (simp; omega)) | exact VLe.dE (by first | rfl | simp)), (by first | exact VLe.still rfl | exact VLe.nil_ (by decide) | exact VLe.nild_ | exact VLe.refl _ | exact VLe.ptrE (by simp) (by rfl) | exact VLe.refE (by simp) (by rfl) (by first | rfl | (simp; done) | (simp; omega)) | exact VLe.dE (by first | rfl | simp)), (by first | exact VLe.still rfl | exact VLe.nil_ (by decide) | exact VLe.nild_ | exact VLe.refl _ | exact VLe.ptrE (by simp) (by rfl) | exact VLe.refE (by simp) (by rfl) (by first | rfl | (simp; done) | (simp; omega)) | exact VLe.dE (by first | rfl | simp)), (by first | exact VLe.still rfl | exact VLe.nil_ (by decide) | exact VLe.nild_ | exact VLe.refl _ | exact VLe.ptrE (by simp) (by rfl) | exact VLe.refE (by simp) (by rfl) (by first | rfl | (simp; done) | (simp; omega)) | exact VLe.dE (by first | rfl | simp)), (by first | exact VLe.still rfl | exact VLe.nil_ (by decide) | exact VLe.nild_ | exact VLe.refl _ | exact VLe.ptrE (by simp) (by rfl) | exact VLe.refE (by simp) (by rfl) (by first | rfl | (simp; done) | (simp; omega)) | exact VLe.dE (by first | rfl | simp)), (by first | exact VLe.still rfl | exact VLe.nil_ (by decide) | exact VLe.nild_ | exact VLe.refl _ | exact VLe.ptrE (by simp) (by rfl) | exact VLe.refE (by simp) (by rfl) (by first | rfl | (simp; done) | (simp; omega)) | exact VLe.dE (by first | rfl | simp)), (by first | exact VLe.still rfl | exact VLe.nil_ (by decide) | exact VLe.nild_ | exact VLe.refl _ | exact VLe.ptrE (by simp) (by rfl) | exact VLe.refE (by simp) (by rfl) (by first | rfl | (simp; done) | (simp; omega)) | exact VLe.dE (by first | rfl | simp)), (by first | exact VLe.still rfl | exact VLe.nil_ (by decide) | exact VLe.nild_ | exact VLe.refl _ | exact VLe.ptrE (by simp) (by rfl) | exact VLe.refE (by simp) (by rfl) (by first | rfl | (simp; done) | (simp; omega)) | exact VLe.dE (by first | rfl | simp)), (by first | exact VLe.still rfl | exact VLe.nil_ (by decide) | exact VLe.nild_ | exact VLe.refl _ | exact VLe.ptrE (by simp) (by rfl) | exact VLe.refE (by simp) (by rfl) (by first | rfl | (simp; done) | (simp; omega)) | exact VLe.dE (by first | rfl | simp)), trivial⟩
                · exact ⟨fun _ => ⟨_, rfl, (by first | exact RowLe.data_ (by first | rfl | simp) | exact RowLe.uq2 (by first | rfl | simp) (by simp) ids_data | exact RowLe.still (by simp [AV.idsL, AV.ids]) | exact RowLe.same (by simp) (by simp [AV.idsL, AV.ids]))⟩, fun h => by simp at h, fun _ => ⟨_, rfl, (by first | exact RowLe.data_ (by first | rfl | simp) | exact RowLe.uq2 (by first | rfl | simp) (by simp) ids_data | exact RowLe.still (by simp [AV.idsL, AV.ids]) | exact RowLe.same (by simp) (by simp [AV.idsL, AV.ids]))⟩, fun h => by simp at h, fun _ => ⟨_, rfl, RowLe.cells (VLess.one_ (VLes.cons_ (VLe.dE rfl) (VLes.cons_ (VLe.refE (by simp) rfl (rfl)) (VLes.cons_ (VLe.refE (by simp) rfl (rfl)) (VLes.nil_)))))⟩, fun h => by simp at h, fun _ => ⟨_, rfl, (by first | exact RowLe.data_ (by first | rfl | simp) | exact RowLe.uq2 (by first | rfl | simp) (by simp) ids_data | exact RowLe.still (by simp [AV.idsL, AV.ids]) | exact RowLe.same (by simp) (by simp [AV.idsL, AV.ids]))⟩, fun h => by simp at h, fun _ => ⟨_, rfl, (by first | exact RowLe.data_ (by first | rfl | simp) | exact RowLe.uq2 (by first | rfl | simp) (by simp) ids_data | exact RowLe.still (by simp [AV.idsL, AV.ids]) | exact RowLe.same (by simp) (by simp [AV.idsL, AV.ids]))⟩, fun h => by simp at h, fun _ => ⟨_, rfl, RowLe.data_ (by rw [hq])⟩, fun h => by simp at h, fun _ => ⟨_, rfl, RowLe.data_ (by rw [hc])⟩, fun h => by simp at h, trivial⟩
                · simp [wfV, AV.ids, AV.idsL, lookR, grow]
                · exact ⟨by simp [AV.idsL, AV.ids, lookR], by simp [AV.idsL, AV.ids, lookR], by simp [AV.idsL, AV.ids, lookR], wf_data _ _, wf_data _ _, wf_data _ _, wf_data _ _, trivial⟩
            · intro hb
              obtain rfl : post = [] := by
                cases post with
                | nil => rfl
                | cons x t => have := of_decide_eq_false hb; simp at hspl; omega
              clear hb
              simp only [List.append_nil] at hsp
              subst hsp
              refine awp_exit ?_
              simp only [zz6, Nat.reduceEqDiff, ↓reduceIte]
              refine hK5 _ ?_; try clear hK5 K5
              refine awp_keepL [1, 2, 4, 12, 13, 14, 16, 17] ?_
              simp only [zz20, zzI, look_nil, Nat.reduceBEq]
              refine awp_seq fun K5 hK5 => ?_
              refine awp_plain F_mixed [some 160, some 161, some 159, some 162, some 163, some 19, some 20] rfl ?_
              simp only [List.nil_append, List.cons_append, true_and, and_true, zz0, true_implies, Nat.reduceLT, Nat.reduceLeDiff, zzI, look_nil, Nat.reduceBEq, implies_true, evS_move, evS_call, evC_value, zz14, zzD, Nat.reduceAdd, Nat.zero_add, zzF, evS_assign, ints, grow, D.sl.injEq, len_map, hqs, zz6, Nat.reduceEqDiff, ↓reduceIte]
              refine call_go F_go39 (fun hG => Add_ (qcL PosV.qty ((w : Int) + 1) ((n : Int) + 1) ps g) (by omega) hqb) (by simp [AV.ids, AV.idsL]) (by simp) ?_
              simp only [List.nil_append, List.cons_append, true_and, and_true, zz0, true_implies, Nat.reduceLT, Nat.reduceLeDiff, zzI, look_nil, Nat.reduceBEq, implies_true, evS_move, evS_call, evC_value, zz14, zzD, Nat.reduceAdd, Nat.zero_add, zzF, evS_assign, ints, grow, D.sl.injEq, len_map, hqs, zz6, Nat.reduceEqDiff, ↓reduceIte, atsL, oksG, freeN, AV.ren, AV.renL, addRows, ORow.row, Nat.reduceMul, Nat.reduceAdd, zz9, Option.bind_some, Option.map_some, forall_eq', D.sl.injEq, zz16, Option.some.injEq, exists_eq_left', exists_eq_left, exists_eq', exists_eq, List.length_cons, zz2]
              first | refine ⟨by simp, ?_⟩ | skip
              refine hK5 _ ?_; try clear hK5 K5
              refine awp_keepL [1, 2, 4, 12, 13, 14, 17, 19, 20] ?_
              simp only [zz20, zzI, look_nil, Nat.reduceBEq]
              refine awp_seq fun K5 hK5 => ?_
              refine awp_plain F_mixed [some 165, some 166, some 164, some 167, some 168, some 21, some 22] rfl ?_
              simp only [List.nil_append, List.cons_append, true_and, and_true, zz0, true_implies, Nat.reduceLT, Nat.reduceLeDiff, zzI, look_nil, Nat.reduceBEq, implies_true, evS_move, evS_call, evC_value, zz14, zzD, Nat.reduceAdd, Nat.zero_add, zzF, evS_assign, ints, grow, D.sl.injEq, len_map, hcs, zz6, Nat.reduceEqDiff, ↓reduceIte]
              refine call_go F_go39 (fun hG => Add_ (qcL PosV.cost ((w : Int) + 1) ((n : Int) + 1) ps g) (by omega) hcb) (by simp [AV.ids, AV.idsL]) (by simp) ?_
              simp only [List.nil_append, List.cons_append, true_and, and_true, zz0, true_implies, Nat.reduceLT, Nat.reduceLeDiff, zzI, look_nil, Nat.reduceBEq, implies_true, evS_move, evS_call, evC_value, zz14, zzD, Nat.reduceAdd, Nat.zero_add, zzF, evS_assign, ints, grow, D.sl.injEq, len_map, hcs, zz6, Nat.reduceEqDiff, ↓reduceIte, atsL, oksG, freeN, AV.ren, AV.renL, addRows, ORow.row, Nat.reduceMul, Nat.reduceAdd, zz9, Option.bind_some, Option.map_some, forall_eq', D.sl.injEq, zz16, Option.some.injEq, exists_eq_left', exists_eq_left, exists_eq', exists_eq, List.length_cons, zz2]
              first | refine ⟨by simp, ?_⟩ | skip
              refine hK5 _ ?_; try clear hK5 K5
              refine awp_keepL [1, 2, 4, 12, 13, 14, 19, 20, 21, 22] ?_
              simp only [zz20, zzI, look_nil, Nat.reduceBEq]
              refine awp_seq fun K5 hK5 => ?_
              refine awp_seq fun K6 hK6 => ?_
              refine awp_plain F_mixed [some 169, some 170, some 171, some 172, some 173, some 174, some 175, some 176, some 177, some 178, some 179] rfl ?_
              simp only [List.nil_append, List.cons_append, true_and, and_true, zz0, true_implies, Nat.reduceLT, Nat.reduceLeDiff, zzI, look_nil, Nat.reduceBEq, implies_true, Nat.reduceSub, S_getD, zz5, and_imp, imp_and, imp_self, and_self, evS_move, zz29, gr_v, zz30, zz13, pickK_l, pickK_r, evS_call, evC_value, zz6, Nat.reduceEqDiff, ↓reduceIte]
              refine call_go F_go44 (fun hG => rIn_ (bif rightN (sF PosV.qty ((w : Int) + 1) ((n : Int) + 1) (ps ++ g)) then sF PosV.qty ((w : Int) + 1) ((n : Int) + 1) (ps ++ g) else 0) (-1099511627776) 1099511627776) (by simp [AV.ids, AV.idsL]) (by simp) ?_
              simp only [List.nil_append, List.cons_append, true_and, and_true, zz0, true_implies, Nat.reduceLT, Nat.reduceLeDiff, zzI, look_nil, Nat.reduceBEq, implies_true, Nat.reduceSub, S_getD, zz5, and_imp, imp_and, imp_self, and_self, evS_move, zz29, gr_v, zz30, zz13, pickK_l, pickK_r, evS_call, evC_value, zz6, Nat.reduceEqDiff, ↓reduceIte, atsL, oksG, freeN, AV.ren, AV.renL, addRows, ORow.row, Nat.reduceMul, Nat.reduceAdd, zz9, Option.bind_some, Option.map_some, forall_eq', D.sl.injEq, zz16, Option.some.injEq, exists_eq_left', exists_eq_left, exists_eq', exists_eq, zzD, zz2]
              refine hK6 _ ?_; try clear hK6 K6
              refine awp_keepL [1, 2, 4, 12, 13, 14, 19, 21, 179] ?_
              simp only [zz20, zzI, look_nil, Nat.reduceBEq]
              refine awp_condS _ (by decide) (by simp only [look_cons, Nat.reduceBEq, cond_true, cond_false]; rfl) ?_ ?_
              · intro hb
                have hjb : jBad (ps ++ g) ((w : Int) + 1, (n : Int) + 1) = true := by rw [← radd_bad hA]; exact hb
                clear hb
                have hal : allK.any (jBad (ps ++ g)) = true := List.any_eq_true.2 ⟨((w : Int) + 1, (n : Int) + 1), allK_mem.2 (keyOk_iff.2 (by simp only; omega)), hjb⟩
                refine awp_seq fun K7 hK7 => ?_
                refine awp_plain F_mixed [some 180, none, some 5] rfl ?_
                simp only [List.nil_append, List.cons_append, true_and, and_true, zz0, true_implies, Nat.reduceLT, Nat.reduceLeDiff, zzI, look_nil, Nat.reduceBEq, implies_true, F_zero25, F_bld25, zz7, splice, Option.getD_some, List.append_nil, zz1, zzG, zzD, zz16, Option.some.injEq, exists_eq_left', exists_eq_left, Option.map_some, eq_self, reduceCtorEq, and_self, Nat.reduceAdd, Nat.zero_add, zzF, zzB, zzE, zz10, zz18, F_ok25, F_sz25, evS_assign, zz6, Nat.reduceEqDiff, ↓reduceIte]
                refine hK7 _ ?_; try clear hK7 K7
                refine awp_keepL [4, 5] ?_
                simp only [zz20, zzI, look_nil, Nat.reduceBEq]
                have e : addE ⟨nx, ts, ps⟩ g = 1 := by rw [addE_def, ho, hany, hlv2, hal]; try rfl
                have ev : addV ⟨nx, ts, ps⟩ g = ⟨0, [], []⟩ := add_no (by rw [e]; decide)
                refine awp_le (le_SK id [0, 1] rfl (l' := [(4, .ptr 4 0 0), (5, .d (iv 1))]) (m' := [(4, (⟨True, 25, 3, true, false, 4, [[.d (.v (.int .i64 0)), .ref 0 0, .ref 1 0]]⟩ : ARow)), (0, (⟨True, 27, 7, true, true, 0, []⟩ : ARow)), (1, (⟨True, 51, 4, true, true, 1, []⟩ : ARow))]) ?_ ?_ ?_ ?_) ?_
                · simp only [leV, look_cons, Nat.reduceBEq, cond_true, cond_false]; exact ⟨VLe.ptr_ (f := id) (by decide), VLe.still rfl, trivial⟩
                · exact ⟨fun _ => ⟨_, rfl, RowLe.cells (VLess.one_ (VLes.cons_ (VLe.still rfl) (VLes.cons_ (VLe.nil_ (by decide)) (VLes.cons_ (VLe.nil_ (by decide)) VLes.nil_))))⟩, fun h => by simp at h, fun h => by simp at h, fun _ => rfl, fun h => by simp at h, fun _ => rfl, trivial⟩
                · simp [wfV, AV.ids, lookR]
                · simp [wfR, AV.idsL, AV.ids, lookR]
                refine awp_ret ?_
                simp only [zz6, Nat.reduceEqDiff, ↓reduceIte]
                rw [ev, e]
                refine doneN [0, 1] (by simp [resCs, resC, S, List.getD, look_cons, lookR, F_ag25, F_sz25, F_ok25]) ?_ (by simp [flatA, flatAs, flatD, ]) (by simp [AV.ids, AV.idsL, ]) (by decide) ?_
                · simp only [List.map_cons, List.map_nil, resA, S_getD, S_mem, lookR_cons, lookR_nil, Nat.reduceLT, Nat.reduceLeDiff, look_cons, Nat.reduceBEq, cond_true, cond_false, resAll, List.getD_cons_zero, List.getD_cons_succ, List.drop_zero, List.drop_succ_cons, List.take_succ_cons, List.take_zero, F_ag25, F_sz25, F_ok25]; rfl
                · exact ⟨⟨_, rfl, trivial, rfl, rfl, rfl, rfl⟩, by simp [flatDs, flatD, tradeC], ⟨_, rfl, trivial, rfl, rfl, rfl, rfl⟩, by simp [flatDs, flatD, posC], trivial⟩
              · intro hb
                have hjb : jBad (ps ++ g) ((w : Int) + 1, (n : Int) + 1) = false := by rw [← radd_bad hA]; exact hb
                clear hb
                obtain ⟨hv1, hv2⟩ := radd_val hA hjb
                simp only [hv1, hv2]
                have hbn2 : (kW w ++ kN ((w : Int) + 1) (n + 1)).any (jBad (ps ++ g)) = false := by rw [kN_succ, ← List.append_assoc, List.any_append, hbn]; simp [hjb]
                refine awp_skip ?_
                simp only [zz6, Nat.reduceEqDiff, ↓reduceIte]
                refine hK5 _ ?_; try clear hK5 K5
                refine awp_keepL [1, 2, 4, 12, 13, 14, 19, 21] ?_
                simp only [zz20, zzI, look_nil, Nat.reduceBEq]
                refine awp_seq fun K5 hK5 => ?_
                refine awp_plain F_mixed [some 181, some 182, some 183, some 184, some 185, some 186] rfl ?_
                simp only [List.nil_append, List.cons_append, true_and, and_true, zz0, true_implies, Nat.reduceLT, Nat.reduceLeDiff, zzI, look_nil, Nat.reduceBEq, implies_true, Nat.reduceSub, S_getD, zz5, and_imp, imp_and, imp_self, and_self, evS_move, zz21, gr_v, zz28, zz13, pickK_l, pickK_r, zz6, Nat.reduceEqDiff, ↓reduceIte]
                refine hK5 _ ?_; try clear hK5 K5
                refine awp_keepL [1, 2, 4, 12, 13, 14, 19, 21, 186] ?_
                simp only [zz20, zzI, look_nil, Nat.reduceBEq]
                refine awp_condS _ (by decide) (by simp only [look_cons, Nat.reduceBEq, cond_true, cond_false]; rfl) ?_ ?_
                · intro hb
                  have hjo : jOut (ps ++ g) (kW w ++ kN ((w : Int) + 1) (n + 1)) = jOut (ps ++ g) (kW w ++ kN ((w : Int) + 1) n) ++ [⟨(w : Int) + 1, (n : Int) + 1, tsQ (kF ((w : Int) + 1) ((n : Int) + 1) (ps ++ g)), tsC (kF ((w : Int) + 1) ((n : Int) + 1) (ps ++ g))⟩] := by
                    rw [kN_succ, ← List.append_assoc, jOut_app]
                    congr 1
                    simp only [jOut, List.flatMap_cons, List.flatMap_nil, List.append_nil, jOne]
                    rw [hb]; rfl
                  clear hb
                  refine awp_plain F_mixed [some 187, some 188, some 189, some 190, some 191, some 192, some 193, some 194, some 195, some 196, some 197, none] rfl ?_
                  simp only [List.nil_append, List.cons_append, true_and, and_true, zz0, true_implies, Nat.reduceLT, Nat.reduceLeDiff, zzI, look_nil, Nat.reduceBEq, implies_true, zz19, zz23, F_off25_2, zzB, Nat.zero_add, Nat.reduceAdd, F_ok23, F_ag23, F_sz23, zz8, zzD, zzF, zzE, zz16, Option.some.injEq, exists_eq_left', exists_eq_left, Option.map_some, eq_self, reduceCtorEq, and_self, evS_move, F_zero44, F_bld44, zz7, splice, Option.getD_some, List.append_nil, zz1, zzG, zz10, F_fld44_0, F_fld44_1, F_zero51, F_bld51, F_fld51_0, F_fld51_1, F_fld51_2, F_sl23, F_sz51, zz3, newRow1, maxLen_le, Nat.reduceMul, evS_call, F_by51, zz4, zz9, Option.bind_some, zz18, posC, grow, unDs_map, D.agg.injEq, zz6, Nat.reduceEqDiff, ↓reduceIte]
                  have hm : (jOut (ps ++ g) (kW w ++ kN ((w : Int) + 1) n)).length + 1 ≤ 1000000 := by first | omega | (simp; omega)
                  first | refine ⟨le_maxLen hm, by omega, ?_⟩ | refine ⟨by simp, le_maxLen hm, by omega, ?_⟩
                  clear hm
                  refine hK4 _ ?_; try clear hK4 K4
                  refine awp_keepL [1, 2, 4, 12, 13, 14] ?_
                  simp only [zz20, zzI, look_nil, Nat.reduceBEq]
                  refine awp_plain F_mixed [some 106, some 107, some 14] rfl ?_
                  simp only [List.nil_append, List.cons_append, true_and, and_true, zz0, true_implies, Nat.reduceLT, Nat.reduceLeDiff, zzI, look_nil, Nat.reduceBEq, implies_true, evS_move, zz21, gr_v, zz26, evS_assign, hwn, zz6, Nat.reduceEqDiff, ↓reduceIte]
                  refine ⟨8 - (n + 1), _, by omega, le_SK (fun r => bif r == 500 then 196 else r) [] rfl (l' := [(1, .d (poss g)), (2, .ptr 2 0 0), (4, .ptr 4 0 0), (12, .ptr 12 0 0), (13, .d (iv ((w : Nat) + 1 : Int))), (14, .d (iv (((n + 1) : Nat) + 1 : Int)))]) (m' := [(2, (⟨True, 25, 3, true, false, 2, [[.d (iv nx), .d (.sl 7 (ts.map tradeC)), .d (.sl 4 (ps.map posC))]]⟩ : ARow)), (4, (⟨True, 25, 3, true, false, 4, [[.d (.v (.int .i64 0)), .d (.v (.slice none 0 0)), .d (.v (.slice none 0 0))]]⟩ : ARow)), (12, (⟨True, 25, 3, true, false, 12, [[.d (iv nx), .ref 99000 ts.length, .ref 500 (jOut (ps ++ g) (kW w ++ kN ((w : Int) + 1) (n + 1))).length]]⟩ : ARow)), (99000, (⟨True, 27, 7, true, true, 99000, (ts.map tradeC).map (·.map .d)⟩ : ARow)), (500, grow 51 4 500 ((jOut (ps ++ g) (kW w ++ kN ((w : Int) + 1) (n + 1))).map posC))]) ?_ ?_ ?_ ?_, (n + 1), by omega, hbn2, rfl, rfl⟩
                  · simp only [leV, look_cons, Nat.reduceBEq, cond_true, cond_false, hwn]; exact ⟨(by first | exact VLe.still rfl | exact VLe.nil_ (by decide) | exact VLe.nild_ | exact VLe.refl _ | exact VLe.ptrE (by simp) (by rfl) | exact VLe.refE (by simp) (by rfl) (by first | rfl | (simp; done) | (simp; omega)) | exact VLe.dE (by first | rfl | simp)), (by first | exact VLe.still rfl | exact VLe.nil_ (by decide) | exact VLe.nild_ | exact VLe.refl _ | exact VLe.ptrE (by simp) (by rfl) | exact VLe.refE (by simp) (by rfl) (by first | rfl | (simp; done) | (simp; omega)) | exact VLe.dE (by first | rfl | simp)), (by first | exact VLe.still rfl | exact VLe.nil_ (by decide) | exact VLe.nild_ | exact VLe.refl _ | exact VLe.ptrE (by simp) (by rfl) | exact VLe.refE (by simp) (by rfl) (by first | rfl | (simp; done) | (simp; omega)) | exact VLe.dE (by first | rfl | simp)), (by first | exact VLe.still rfl | exact VLe.nil_ (by decide) | exact VLe.nild_ | exact VLe.refl _ | exact VLe.ptrE (by simp) (by rfl) | exact VLe.refE (by simp) (by rfl) (by first | rfl | (simp; done) | (simp; omega)) | exact VLe.dE (by first | rfl | simp)), (by first | exact VLe.still rfl | exact VLe.nil_ (by decide) | exact VLe.nild_ | exact VLe.refl _ | exact VLe.ptrE (by simp) (by rfl) | exact VLe.refE (by simp) (by rfl) (by first | rfl | (simp; done) | (simp; omega)) | exact VLe.dE (by first | rfl | simp)), (by first | exact VLe.still rfl | exact VLe.nil_ (by decide) | exact VLe.nild_ | exact VLe.refl _ | exact VLe.ptrE (by simp) (by rfl) | exact VLe.refE (by simp) (by rfl) (by first | rfl | (simp; done) | (simp; omega)) | exact VLe.dE (by first | rfl | simp)), trivial⟩
                  · exact ⟨fun _ => ⟨_, rfl, (by first | exact RowLe.data_ (by first | rfl | simp) | exact RowLe.uq2 (by first | rfl | simp) (by simp) ids_data | exact RowLe.still (by simp [AV.idsL, AV.ids]) | exact RowLe.same (by simp) (by simp [AV.idsL, AV.ids]))⟩, fun h => by simp at h, fun _ => ⟨_, rfl, (by first | exact RowLe.data_ (by first | rfl | simp) | exact RowLe.uq2 (by first | rfl | simp) (by simp) ids_data | exact RowLe.still (by simp [AV.idsL, AV.ids]) | exact RowLe.same (by simp) (by simp [AV.idsL, AV.ids]))⟩, fun h => by simp at h, fun _ => ⟨_, rfl, RowLe.cells (VLess.one_ (VLes.cons_ (VLe.dE rfl) (VLes.cons_ (VLe.refE (by simp) rfl (by simp)) (VLes.cons_ (VLe.refE (by simp) rfl (by rw [hjo]; simp)) (VLes.nil_)))))⟩, fun h => by simp at h, fun _ => ⟨_, rfl, (by first | exact RowLe.data_ (by first | rfl | simp) | exact RowLe.uq2 (by first | rfl | simp) (by simp) ids_data | exact RowLe.still (by simp [AV.idsL, AV.ids]) | exact RowLe.same (by simp) (by simp [AV.idsL, AV.ids]))⟩, fun h => by simp at h, fun _ => ⟨_, rfl, RowLe.data_ (by rw [hjo]; simp [posC])⟩, fun h => by simp at h, trivial⟩
                  · simp [wfV, AV.ids, AV.idsL, lookR, grow]
                  · exact ⟨by simp [AV.idsL, AV.ids, lookR], by simp [AV.idsL, AV.ids, lookR], by simp [AV.idsL, AV.ids, lookR], wf_data _ _, wf_data _ _, trivial⟩
                · intro hb
                  have hjo : jOut (ps ++ g) (kW w ++ kN ((w : Int) + 1) (n + 1)) = jOut (ps ++ g) (kW w ++ kN ((w : Int) + 1) n) := by
                    rw [kN_succ, ← List.append_assoc, jOut_app]
                    simp only [jOut, List.flatMap_cons, List.flatMap_nil, List.append_nil, jOne]
                    rw [hb]; simp
                  clear hb
                  refine awp_skip ?_
                  simp only [zz6, Nat.reduceEqDiff, ↓reduceIte]
                  refine hK4 _ ?_; try clear hK4 K4
                  refine awp_keepL [1, 2, 4, 12, 13, 14] ?_
                  simp only [zz20, zzI, look_nil, Nat.reduceBEq]
                  refine awp_plain F_mixed [some 106, some 107, some 14] rfl ?_
                  simp only [List.nil_append, List.cons_append, true_and, and_true, zz0, true_implies, Nat.reduceLT, Nat.reduceLeDiff, zzI, look_nil, Nat.reduceBEq, implies_true, evS_move, zz21, gr_v, zz26, evS_assign, hwn, zz6, Nat.reduceEqDiff, ↓reduceIte]
                  refine ⟨8 - (n + 1), _, by omega, le_SK id [] rfl (l' := [(1, .d (poss g)), (2, .ptr 2 0 0), (4, .ptr 4 0 0), (12, .ptr 12 0 0), (13, .d (iv ((w : Nat) + 1 : Int))), (14, .d (iv (((n + 1) : Nat) + 1 : Int)))]) (m' := [(2, (⟨True, 25, 3, true, false, 2, [[.d (iv nx), .d (.sl 7 (ts.map tradeC)), .d (.sl 4 (ps.map posC))]]⟩ : ARow)), (4, (⟨True, 25, 3, true, false, 4, [[.d (.v (.int .i64 0)), .d (.v (.slice none 0 0)), .d (.v (.slice none 0 0))]]⟩ : ARow)), (12, (⟨True, 25, 3, true, false, 12, [[.d (iv nx), .ref 99000 ts.length, .ref 500 (jOut (ps ++ g) (kW w ++ kN ((w : Int) + 1) (n + 1))).length]]⟩ : ARow)), (99000, (⟨True, 27, 7, true, true, 99000, (ts.map tradeC).map (·.map .d)⟩ : ARow)), (500, grow 51 4 500 ((jOut (ps ++ g) (kW w ++ kN ((w : Int) + 1) (n + 1))).map posC))]) ?_ ?_ ?_ ?_, (n + 1), by omega, hbn2, rfl, rfl⟩
                  · simp only [leV, look_cons, Nat.reduceBEq, cond_true, cond_false, hwn]; exact ⟨(by first | exact VLe.still rfl | exact VLe.nil_ (by decide) | exact VLe.nild_ | exact VLe.refl _ | exact VLe.ptrE (by simp) (by rfl) | exact VLe.refE (by simp) (by rfl) (by first | rfl | (simp; done) | (simp; omega)) | exact VLe.dE (by first | rfl | simp)), (by first | exact VLe.still rfl | exact VLe.nil_ (by decide) | exact VLe.nild_ | exact VLe.refl _ | exact VLe.ptrE (by simp) (by rfl) | exact VLe.refE (by simp) (by rfl) (by first | rfl | (simp; done) | (simp; omega)) | exact VLe.dE (by first | rfl | simp)), (by first | exact VLe.still rfl | exact VLe.nil_ (by decide) | exact VLe.nild_ | exact VLe.refl _ | exact VLe.ptrE (by simp) (by rfl) | exact VLe.refE (by simp) (by rfl) (by first | rfl | (simp; done) | (simp; omega)) | exact VLe.dE (by first | rfl | simp)), (by first | exact VLe.still rfl | exact VLe.nil_ (by decide) | exact VLe.nild_ | exact VLe.refl _ | exact VLe.ptrE (by simp) (by rfl) | exact VLe.refE (by simp) (by rfl) (by first | rfl | (simp; done) | (simp; omega)) | exact VLe.dE (by first | rfl | simp)), (by first | exact VLe.still rfl | exact VLe.nil_ (by decide) | exact VLe.nild_ | exact VLe.refl _ | exact VLe.ptrE (by simp) (by rfl) | exact VLe.refE (by simp) (by rfl) (by first | rfl | (simp; done) | (simp; omega)) | exact VLe.dE (by first | rfl | simp)), (by first | exact VLe.still rfl | exact VLe.nil_ (by decide) | exact VLe.nild_ | exact VLe.refl _ | exact VLe.ptrE (by simp) (by rfl) | exact VLe.refE (by simp) (by rfl) (by first | rfl | (simp; done) | (simp; omega)) | exact VLe.dE (by first | rfl | simp)), trivial⟩
                  · exact ⟨fun _ => ⟨_, rfl, (by first | exact RowLe.data_ (by first | rfl | simp) | exact RowLe.uq2 (by first | rfl | simp) (by simp) ids_data | exact RowLe.still (by simp [AV.idsL, AV.ids]) | exact RowLe.same (by simp) (by simp [AV.idsL, AV.ids]))⟩, fun h => by simp at h, fun _ => ⟨_, rfl, (by first | exact RowLe.data_ (by first | rfl | simp) | exact RowLe.uq2 (by first | rfl | simp) (by simp) ids_data | exact RowLe.still (by simp [AV.idsL, AV.ids]) | exact RowLe.same (by simp) (by simp [AV.idsL, AV.ids]))⟩, fun h => by simp at h, fun _ => ⟨_, rfl, RowLe.cells (VLess.one_ (VLes.cons_ (VLe.dE rfl) (VLes.cons_ (VLe.refE (by simp) rfl (by simp)) (VLes.cons_ (VLe.refE (by simp) rfl (by rw [hjo])) (VLes.nil_)))))⟩, fun h => by simp at h, fun _ => ⟨_, rfl, (by first | exact RowLe.data_ (by first | rfl | simp) | exact RowLe.uq2 (by first | rfl | simp) (by simp) ids_data | exact RowLe.still (by simp [AV.idsL, AV.ids]) | exact RowLe.same (by simp) (by simp [AV.idsL, AV.ids]))⟩, fun h => by simp at h, fun _ => ⟨_, rfl, RowLe.data_ (by rw [hjo])⟩, fun h => by simp at h, trivial⟩
                  · simp [wfV, AV.ids, AV.idsL, lookR, grow]
                  · exact ⟨by simp [AV.idsL, AV.ids, lookR], by simp [AV.idsL, AV.ids, lookR], by simp [AV.idsL, AV.ids, lookR], wf_data _ _, wf_data _ _, trivial⟩
          · intro hb
            obtain rfl : n = 8 := by have := of_decide_eq_false hb; omega
            clear hb
            refine awp_exit ?_
            simp only [zz6, Nat.reduceEqDiff, ↓reduceIte]
            refine hK2 _ ?_; try clear hK2 K2
            refine awp_keepL [1, 2, 4, 12, 13] ?_
            simp only [zz20, zzI, look_nil, Nat.reduceBEq]
            refine awp_plain F_mixed [some 102, some 103, some 13] rfl ?_
            simp only [List.nil_append, List.cons_append, true_and, and_true, zz0, true_implies, Nat.reduceLT, Nat.reduceLeDiff, zzI, look_nil, Nat.reduceBEq, implies_true, evS_move, zz21, gr_v, zz26, evS_assign, hww, zz6, Nat.reduceEqDiff, ↓reduceIte]
            refine ⟨16 - (w + 1), _, by omega, le_SK id [] rfl (l' := [(1, .d (poss g)), (2, .ptr 2 0 0), (4, .ptr 4 0 0), (12, .ptr 12 0 0), (13, .d (iv (((w + 1) : Nat) + 1 : Int)))]) (m' := [(2, (⟨True, 25, 3, true, false, 2, [[.d (iv nx), .d (.sl 7 (ts.map tradeC)), .d (.sl 4 (ps.map posC))]]⟩ : ARow)), (4, (⟨True, 25, 3, true, false, 4, [[.d (.v (.int .i64 0)), .d (.v (.slice none 0 0)), .d (.v (.slice none 0 0))]]⟩ : ARow)), (12, (⟨True, 25, 3, true, false, 12, [[.d (iv nx), .ref 99000 ts.length, .ref 500 (jOut (ps ++ g) (kW (w + 1))).length]]⟩ : ARow)), (99000, (⟨True, 27, 7, true, true, 99000, (ts.map tradeC).map (·.map .d)⟩ : ARow)), (500, grow 51 4 500 ((jOut (ps ++ g) (kW (w + 1))).map posC))]) ?_ ?_ ?_ ?_, (w + 1), by omega, by rw [kW_succ]; exact hbn, rfl, rfl⟩
            · simp only [leV, look_cons, Nat.reduceBEq, cond_true, cond_false, hww]; exact ⟨(by first | exact VLe.still rfl | exact VLe.nil_ (by decide) | exact VLe.nild_ | exact VLe.refl _ | exact VLe.ptrE (by simp) (by rfl) | exact VLe.refE (by simp) (by rfl) (by first | rfl | (simp; done) | (simp; omega)) | exact VLe.dE (by first | rfl | simp)), (by first | exact VLe.still rfl | exact VLe.nil_ (by decide) | exact VLe.nild_ | exact VLe.refl _ | exact VLe.ptrE (by simp) (by rfl) | exact VLe.refE (by simp) (by rfl) (by first | rfl | (simp; done) | (simp; omega)) | exact VLe.dE (by first | rfl | simp)), (by first | exact VLe.still rfl | exact VLe.nil_ (by decide) | exact VLe.nild_ | exact VLe.refl _ | exact VLe.ptrE (by simp) (by rfl) | exact VLe.refE (by simp) (by rfl) (by first | rfl | (simp; done) | (simp; omega)) | exact VLe.dE (by first | rfl | simp)), (by first | exact VLe.still rfl | exact VLe.nil_ (by decide) | exact VLe.nild_ | exact VLe.refl _ | exact VLe.ptrE (by simp) (by rfl) | exact VLe.refE (by simp) (by rfl) (by first | rfl | (simp; done) | (simp; omega)) | exact VLe.dE (by first | rfl | simp)), (by first | exact VLe.still rfl | exact VLe.nil_ (by decide) | exact VLe.nild_ | exact VLe.refl _ | exact VLe.ptrE (by simp) (by rfl) | exact VLe.refE (by simp) (by rfl) (by first | rfl | (simp; done) | (simp; omega)) | exact VLe.dE (by first | rfl | simp)), trivial⟩
            · exact ⟨fun _ => ⟨_, rfl, (by first | exact RowLe.data_ (by first | rfl | simp) | exact RowLe.uq2 (by first | rfl | simp) (by simp) ids_data | exact RowLe.still (by simp [AV.idsL, AV.ids]) | exact RowLe.same (by simp) (by simp [AV.idsL, AV.ids]))⟩, fun h => by simp at h, fun _ => ⟨_, rfl, (by first | exact RowLe.data_ (by first | rfl | simp) | exact RowLe.uq2 (by first | rfl | simp) (by simp) ids_data | exact RowLe.still (by simp [AV.idsL, AV.ids]) | exact RowLe.same (by simp) (by simp [AV.idsL, AV.ids]))⟩, fun h => by simp at h, fun _ => ⟨_, rfl, RowLe.cells (VLess.one_ (VLes.cons_ (VLe.dE rfl) (VLes.cons_ (VLe.refE (by simp) rfl (by simp)) (VLes.cons_ (VLe.refE (by simp) rfl (by rw [kW_succ])) (VLes.nil_)))))⟩, fun h => by simp at h, fun _ => ⟨_, rfl, (by first | exact RowLe.data_ (by first | rfl | simp) | exact RowLe.uq2 (by first | rfl | simp) (by simp) ids_data | exact RowLe.still (by simp [AV.idsL, AV.ids]) | exact RowLe.same (by simp) (by simp [AV.idsL, AV.ids]))⟩, fun h => by simp at h, fun _ => ⟨_, rfl, RowLe.data_ (by rw [kW_succ])⟩, fun h => by simp at h, trivial⟩
            · simp [wfV, AV.ids, AV.idsL, lookR, grow]
            · exact ⟨by simp [AV.idsL, AV.ids, lookR], by simp [AV.idsL, AV.ids, lookR], by simp [AV.idsL, AV.ids, lookR], wf_data _ _, wf_data _ _, trivial⟩
        · intro hb
          obtain rfl : w = 16 := by have := of_decide_eq_false hb; omega
          clear hb
          refine awp_exit ?_
          simp only [zz6, Nat.reduceEqDiff, ↓reduceIte]
          refine hK0 _ ?_; try clear hK0 K0
          refine awp_keepL [4, 12] ?_
          simp only [zz20, zzI, look_nil, Nat.reduceBEq]
          refine awp_seq fun K0 hK0 => ?_
          refine awp_plain F_mixed [some 198, none, some 5] rfl ?_
          simp only [List.nil_append, List.cons_append, true_and, and_true, zz0, true_implies, Nat.reduceLT, Nat.reduceLeDiff, zzI, look_nil, Nat.reduceBEq, implies_true, F_ok25, F_ag25, F_sz25, zz8, zz23, zzD, Nat.reduceAdd, Nat.zero_add, zzF, zzB, zzE, zz16, Option.some.injEq, exists_eq_left', exists_eq_left, Option.map_some, eq_self, reduceCtorEq, and_self, zz18, splice, List.append_nil, zz1, zzG, evS_assign, zz6, Nat.reduceEqDiff, ↓reduceIte]
          refine hK0 _ ?_; try clear hK0 K0
          refine awp_keepL [4, 5] ?_
          simp only [zz20, zzI, look_nil, Nat.reduceBEq]
          have e : addE ⟨nx, ts, ps⟩ g = 0 := by rw [addE_def, ho, hany, hlv2, show allK.any (jBad (ps ++ g)) = false from hbw]; rfl
          have ev : addV ⟨nx, ts, ps⟩ g = ⟨nx, ts, jOut (ps ++ g) (kW 16)⟩ := add_val e
          refine awp_le (le_SK id [] rfl (l' := [(4, .ptr 4 0 0), (5, .d (iv 0))]) (m' := [(4, (⟨True, 25, 3, true, false, 4, [[.d (iv nx), .ref 99000 ts.length, .ref 500 (jOut (ps ++ g) (kW 16)).length]]⟩ : ARow)), (99000, (⟨True, 27, 7, true, true, 99000, (ts.map tradeC).map (·.map .d)⟩ : ARow)), (500, (⟨True, 51, 4, true, true, 500, ((jOut (ps ++ g) (kW 16)).map posC).map (·.map .d)⟩ : ARow))]) ?_ ?_ ?_ ?_) ?_
          · simp only [leV, look_cons, Nat.reduceBEq, cond_true, cond_false, len_map]; exact ⟨VLe.refl _, VLe.refl _, trivial⟩
          · exact ⟨fun _ => ⟨_, rfl, ⟨id, rfl, rfl, fun _ => rfl, id, .inl, by first | exact VLess.refl _ | (simp only [len_map]; exact VLess.refl _)⟩⟩, fun h => by simp at h, fun _ => ⟨_, rfl, RowLe.uq2 rfl (by simp) ids_data⟩, fun h => by simp at h, fun _ => (by refine ⟨_, rfl, ?_⟩; exact RowLe.uq_ (by rfl) (by simp) ids_data), fun h => by simp at h, trivial⟩
          · simp [wfV, AV.ids, lookR]
          · simp [wfR, AV.idsL, AV.ids, lookR, tradeC, posC]
          refine awp_ret ?_
          simp only [zz6, Nat.reduceEqDiff, ↓reduceIte]
          rw [ev, e]
          refine doneN [99000, 500] (by simp [resCs, resC, S, List.getD, look_cons, lookR, F_ag25, F_sz25, F_ok25]) ?_ (by simp [flatA, flatAs, flatD, ]) (by simp [AV.ids, AV.idsL, ]) (by decide) ?_
          · simp only [List.map_cons, List.map_nil, resA, S_getD, S_mem, lookR_cons, lookR_nil, Nat.reduceLT, Nat.reduceLeDiff, look_cons, Nat.reduceBEq, cond_true, cond_false, resAll, List.getD_cons_zero, List.getD_cons_succ, List.drop_zero, List.drop_succ_cons, List.take_succ_cons, List.take_zero, F_ag25, F_sz25, F_ok25]; rfl
          · exact ⟨⟨_, rfl, trivial, rfl, rfl, rfl, rfl⟩, by simp [flatDs, flatD, tradeC], ⟨_, rfl, trivial, rfl, rfl, rfl, rfl⟩, by simp [flatDs, flatD, posC], trivial⟩
end Go.Proofs.Ytepphpbjgnapfaa
