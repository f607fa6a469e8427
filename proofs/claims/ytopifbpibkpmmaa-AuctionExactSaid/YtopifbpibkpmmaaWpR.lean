import Derived.Test.YtopifbpibkpmmaaWpJ
import Derived.Test.YtopifbpibkpmmaaWpG
import Derived.Test.YtopifbpibkpmmaaWpO
import Derived.Test.YtopifbpibkpmmaaWpQ
namespace Go.Proofs.Ytopifbpibkpmmaa
open Go.RowKit
set_option linter.unusedVariables false
set_option linter.unusedSimpArgs false
theorem F_go13 : goFn Try.prog 13 := ⟨_, Try.func13, rfl, rfl⟩
theorem F_go12 : goFn Try.prog 12 := ⟨_, Try.func12, rfl, rfl⟩
theorem F_go18 : goFn Try.prog 18 := ⟨_, Try.func18, rfl, rfl⟩
theorem F_go14 : goFn Try.prog 14 := ⟨_, Try.func14, rfl, rfl⟩
theorem F_go15 : goFn Try.prog 15 := ⟨_, Try.func15, rfl, rfl⟩
theorem F_go19 : goFn Try.prog 19 := ⟨_, Try.func19, rfl, rfl⟩
theorem F_go20 : goFn Try.prog 20 := ⟨_, Try.func20, rfl, rfl⟩
theorem F_go21 : goFn Try.prog 21 := ⟨_, Try.func21, rfl, rfl⟩
theorem F_go10 : goFn Try.prog 10 := ⟨_, Try.func10, rfl, rfl⟩
theorem FillF (q : Int) (l : List BidV) (hl : l.length ≤ 1000000) : ACalls Try.prog 9 [iv q, bids l] [] (.tp [.d (fillsD (filV q l)), .d (iv (filR q l)), .d (iv (filE q l))]) :=
  (Fill_ q l hl).freezeT (by simp [frzOk, frzOkL])
theorem rFillF (q : Int) (l : List BidV) (hl : l.length ≤ 1000000) : ACalls Try.prog 18 [iv q, bids l] [] (.tp [.d (fillsD (filV q l)), .d (iv (filR q l)), .d (iv (filE q l))]) :=
  (rFill_ q l hl).freezeT (by simp [frzOk, frzOkL])
theorem rALegsF (w n : Int) (long : Bool) (l : List FillV) (hl : l.length ≤ 400000) : ACalls Try.prog 19 [.agg [iv w, iv n], .v (.bool long), fillsD l] [] (.tp [.d (poss (lgV w n long l)), .d (iv (lgE l))]) :=
  (rALegs_ w n long l hl).freezeT (by simp [frzOk, frzOkL])
theorem twinBidsF (l : List BidV) (hl : l.length ≤ 1000000) : ACalls Try.prog 13 [bids l] [] (.d (bids l)) :=
  (twinBids_ l hl).freeze (by simp [frzOk])
theorem filV_len (q : Int) (l : List BidV) : (filV q l).length ≤ l.length := by
  simp only [filV]
  cases fillBad q l with
  | true => simp
  | false => simp only [cond_false]; exact Nat.le_trans (fillsF_len _ _) (by rw [bidOrder_len]; exact Nat.le_refl _)
theorem lgV_len (w n : Int) (long : Bool) (l : List FillV) : (lgV w n long l).length ≤ 2 * l.length := by
  simp only [lgV]
  cases lgE l == 0 with
  | true => simp only [cond_true, lgs_len]; exact Nat.le_refl _
  | false => simp
set_option maxRecDepth 100000 in
set_option maxHeartbeats 4000000 in
theorem auctionExact_ (q : Int) (l : List BidV) (w n : Int) (long : Bool) (fs : List FillV) : ACalls Try.prog 7 [iv q, bids l, .agg [iv w, iv n], .v (.bool long), fillsD fs] [] (bv true) := by
  refine acalls_S (rs := [.tmp 10]) Try.func7 rfl rfl 126 [(0, .d (iv q)), (1, .d (bids l)), (2, .d (.agg [iv w, iv n])), (3, bv long), (4, .d (fillsD fs))] rfl (by simp) rfl ?_
  refine awp_seq fun K0 hK0 => ?_
  refine awp_plain F_mixed [some 7, some 10] rfl ?_
  simp only [List.nil_append, List.cons_append, true_and, and_true, zz0, true_implies, Nat.reduceLT, Nat.reduceLeDiff, zzI, look_nil, Nat.reduceBEq, implies_true, zz35, newRow1, zz1, zzG, zzD, zz16, Option.some.injEq, exists_eq_left', exists_eq_left, Option.map_some, eq_self, reduceCtorEq, and_self, Nat.reduceAdd, Nat.zero_add, zzF, zzB, zzE, evS_assign, zz6, Nat.reduceEqDiff, ↓reduceIte]
  refine hK0 _ ?_; try clear hK0 K0
  refine awp_keepL [0, 1, 3, 4, 7] ?_
  simp only [zz20, zzI, look_nil, Nat.reduceBEq]
  refine awp_seq fun K0 hK0 => ?_
  refine awp_seq fun K1 hK1 => ?_
  refine awp_plain F_mixed [some 24, some 25, some 26, some 27, some 28, some 29, some 30, some 31] rfl ?_
  simp only [List.nil_append, List.cons_append, true_and, and_true, zz0, true_implies, Nat.reduceLT, Nat.reduceLeDiff, zzI, look_nil, Nat.reduceBEq, implies_true, Nat.reduceSub, S_getD, zz5, and_imp, imp_and, imp_self, and_self, evS_move, evS_call, zz12, F_sl22, Option.isSome_some, zz21, gr_v, zz25, F_sl23, zz13, bids, fillsD, len_map, zz6, Nat.reduceEqDiff, ↓reduceIte]
  refine hK1 _ ?_; try clear hK1 K1
  refine awp_keepL [0, 1, 3, 4, 7, 31] ?_
  simp only [zz20, zzI, look_nil, Nat.reduceBEq]
  refine awp_condS _ (by decide) (by simp only [look_cons, Nat.reduceBEq, cond_true, cond_false]; rfl) ?_ ?_
  · intro hb
    clear hb
    refine awp_seq fun K2 hK2 => ?_
    refine awp_plain F_mixed [some 10] rfl ?_
    simp only [List.nil_append, List.cons_append, true_and, and_true, zz0, true_implies, Nat.reduceLT, Nat.reduceLeDiff, zzI, look_nil, Nat.reduceBEq, implies_true, evS_assign, zz6, Nat.reduceEqDiff, ↓reduceIte]
    refine hK2 _ ?_; try clear hK2 K2
    refine awp_keepL [10] ?_
    simp only [zz20, zzI, look_nil, Nat.reduceBEq]
    refine awp_ret ?_
    simp only [zz6, Nat.reduceEqDiff, ↓reduceIte]
    refine done0 (by simp only [resCs, resC]; trivial) ?_ (by simp [flatA, flatAs, flatD]) (by simp [AV.ids, AV.idsL])
    simp only [List.map_cons, List.map_nil, resA, S_getD, Nat.reduceLT, Nat.reduceLeDiff, look_cons, Nat.reduceBEq, cond_true, cond_false, resAll]
    
  · intro hb
    have hl : l.length ≤ 300 ∧ fs.length ≤ 300 := by
      cases hd : decide ((l.length : Int) > 300) with
      | true => rw [hd] at hb; cases hb
      | false => rw [hd] at hb; have h1 := of_decide_eq_false hd; have h2 := of_decide_eq_false hb; omega
    clear hb
    obtain ⟨hl, hfs⟩ := hl
    refine awp_skip ?_
    simp only [zz6, Nat.reduceEqDiff, ↓reduceIte]
    refine hK0 _ ?_; try clear hK0 K0
    refine awp_keepL [0, 1, 3, 4, 7] ?_
    simp only [zz20, zzI, look_nil, Nat.reduceBEq]
    refine awp_seq fun K0 hK0 => ?_
    refine awp_plain F_mixed [some 32, some 33, some 11] rfl ?_
    simp only [List.nil_append, List.cons_append, true_and, and_true, zz0, true_implies, Nat.reduceLT, Nat.reduceLeDiff, zzI, look_nil, Nat.reduceBEq, implies_true, evS_move, evS_call, evC_value, evS_assign, bids, zz6, Nat.reduceEqDiff, ↓reduceIte]
    refine call_go F_go13 (fun hG => twinBidsF l (by omega)) (by simp [AV.ids, AV.idsL]) (by simp) ?_
    simp only [List.nil_append, List.cons_append, true_and, and_true, zz0, true_implies, Nat.reduceLT, Nat.reduceLeDiff, zzI, look_nil, Nat.reduceBEq, implies_true, evS_move, evS_call, evC_value, evS_assign, bids, zz6, Nat.reduceEqDiff, ↓reduceIte, atsL, oksG, freeN, AV.ren, AV.renL, addRows, ORow.row, Nat.reduceMul, Nat.reduceAdd, zz9, Option.bind_some, Option.map_some, forall_eq', D.sl.injEq, zz16, Option.some.injEq, exists_eq_left', exists_eq_left, exists_eq', exists_eq, zzD, zz2]
    refine hK0 _ ?_; try clear hK0 K0
    refine awp_keepL [0, 1, 3, 4, 7, 11] ?_
    simp only [zz20, zzI, look_nil, Nat.reduceBEq]
    refine awp_seq fun K0 hK0 => ?_
    refine awp_plain F_mixed [some 34, some 35, some 36, some 12] rfl ?_
    simp only [List.nil_append, List.cons_append, true_and, and_true, zz0, true_implies, Nat.reduceLT, Nat.reduceLeDiff, zzI, look_nil, Nat.reduceBEq, implies_true, evS_move, evS_call, evC_value, evS_assign, bids, zz6, Nat.reduceEqDiff, ↓reduceIte]
    refine call_go F_go11 (fun hG => Order_ long l (by omega)) (by simp [AV.ids, AV.idsL]) (by simp) ?_
    simp only [List.nil_append, List.cons_append, true_and, and_true, zz0, true_implies, Nat.reduceLT, Nat.reduceLeDiff, zzI, look_nil, Nat.reduceBEq, implies_true, evS_move, evS_call, evC_value, evS_assign, bids, zz6, Nat.reduceEqDiff, ↓reduceIte, atsL, oksG, freeN, AV.ren, AV.renL, addRows, ORow.row, Nat.reduceMul, Nat.reduceAdd, zz9, Option.bind_some, Option.map_some, forall_eq', D.sl.injEq, zz16, Option.some.injEq, exists_eq_left', exists_eq_left, exists_eq', exists_eq, zzD, zz2]
    refine hK0 _ ?_; try clear hK0 K0
    refine awp_keepL [0, 1, 3, 4, 7, 11, 12] ?_
    simp only [zz20, zzI, look_nil, Nat.reduceBEq]
    refine awp_seq fun K0 hK0 => ?_
    refine awp_plain F_mixed [some 37, some 38, some 39, some 40, some 41, some 13] rfl ?_
    simp only [List.nil_append, List.cons_append, true_and, and_true, zz0, true_implies, Nat.reduceLT, Nat.reduceLeDiff, zzI, look_nil, Nat.reduceBEq, implies_true, evS_move, evS_call, evC_value, evS_assign, bids, D.sl.injEq, bidOrder_len, zz6, Nat.reduceEqDiff, ↓reduceIte]
    refine call_go F_go17 (fun hG => rOrderF long l (by omega)) (by simp [AV.ids, AV.idsL]) (by simp) ?_
    simp only [List.nil_append, List.cons_append, true_and, and_true, zz0, true_implies, Nat.reduceLT, Nat.reduceLeDiff, zzI, look_nil, Nat.reduceBEq, implies_true, evS_move, evS_call, evC_value, evS_assign, bids, D.sl.injEq, bidOrder_len, zz6, Nat.reduceEqDiff, ↓reduceIte, atsL, oksG, freeN, AV.ren, AV.renL, addRows, ORow.row, Nat.reduceMul, Nat.reduceAdd, zz9, Option.bind_some, Option.map_some, forall_eq', D.sl.injEq, zz16, Option.some.injEq, exists_eq_left', exists_eq_left, exists_eq', exists_eq, zzD, zz2]
    refine call_go F_go12 (fun hG => kBids_ (bidOrder long l) (by rw [bidOrder_len]; omega)) (by simp [AV.ids, AV.idsL]) (by simp) ?_
    simp only [List.nil_append, List.cons_append, true_and, and_true, zz0, true_implies, Nat.reduceLT, Nat.reduceLeDiff, zzI, look_nil, Nat.reduceBEq, implies_true, evS_move, evS_call, evC_value, evS_assign, bids, D.sl.injEq, bidOrder_len, zz6, Nat.reduceEqDiff, ↓reduceIte, atsL, oksG, freeN, AV.ren, AV.renL, addRows, ORow.row, Nat.reduceMul, Nat.reduceAdd, zz9, Option.bind_some, Option.map_some, forall_eq', D.sl.injEq, zz16, Option.some.injEq, exists_eq_left', exists_eq_left, exists_eq', exists_eq, zzD, zz2]
    refine ⟨by rw [len_map, bidOrder_len], ?_⟩
    refine hK0 _ ?_; try clear hK0 K0
    refine awp_keepL [0, 1, 3, 4, 7, 11, 12, 13] ?_
    simp only [zz20, zzI, look_nil, Nat.reduceBEq]
    refine awp_seq fun K0 hK0 => ?_
    refine awp_seq fun K1 hK1 => ?_
    refine awp_plain F_mixed [some 14] rfl ?_
    simp only [List.nil_append, List.cons_append, true_and, and_true, zz0, true_implies, Nat.reduceLT, Nat.reduceLeDiff, zzI, look_nil, Nat.reduceBEq, implies_true, evS_assign, zz6, Nat.reduceEqDiff, ↓reduceIte]
    refine hK1 _ ?_; try clear hK1 K1
    refine awp_keepL [0, 1, 3, 4, 7, 11, 12, 13, 14] ?_
    simp only [zz20, zzI, look_nil, Nat.reduceBEq]
    refine awp_block ?_
    refine awp_loop (fun m s => ∃ A C : List BidV, A.length + C.length = l.length ∧ m = C.length ∧ s = S 126 [(0, .d (iv q)), (1, .d (bids l)), (3, bv long), (4, .d (fillsD fs)), (7, .ptr 7 0 0), (11, .d (bids l)), (12, .ref 37000 l.length), (13, bv true), (14, .d (iv A.length))] [(7, (⟨True, 29, 2, true, false, 7, [[.d (iv w), .d (iv n)]]⟩ : ARow)), (37000, (⟨True, 31, 5, true, true, 37000, aV ((A ++ C).map bidC)⟩ : ARow))]) l.length _ (le_SK id [] rfl (l' := [(0, .d (iv q)), (1, .d (bids l)), (3, bv long), (4, .d (fillsD fs)), (7, .ptr 7 0 0), (11, .d (bids l)), (12, .ref 37000 l.length), (13, bv true), (14, .d (iv ([] : List BidV).length))]) (m' := [(7, (⟨True, 29, 2, true, false, 7, [[.d (iv w), .d (iv n)]]⟩ : ARow)), (37000, (⟨True, 31, 5, true, true, 37000, aV (([] ++ bidOrder long l).map bidC)⟩ : ARow))]) ?_ ?_ ?_ ?_) ⟨[], bidOrder long l, by rw [bidOrder_len]; simp, by rw [bidOrder_len], rfl⟩ ?_
    · simp only [leV, look_cons, Nat.reduceBEq, cond_true, cond_false, bids, fillsD]; exact ⟨VLe.refl _, VLe.refl _, VLe.refl _, VLe.refl _, VLe.refl _, VLe.refl _, VLe.refl _, VLe.refl _, VLe.refl _, trivial⟩
    · exact ⟨fun _ => ⟨_, rfl, RowLe.still (by simp [AV.idsL, AV.ids])⟩, fun h => by simp at h, fun _ => ⟨_, rfl, RowLe.same (by rfl) (aV_ids _)⟩, fun h => by simp at h, trivial⟩
    · simp [wfV, AV.ids, lookR]
    · exact ⟨by simp [AV.idsL, AV.ids], fun e he r' hr' => by rw [aV_ids _ e he] at hr'; simp at hr', trivial⟩
    rintro m s ⟨A, C, hAC, rfl, rfl⟩
    refine awp_seq fun K2 hK2 => ?_
    refine awp_seq fun K3 hK3 => ?_
    refine awp_plain F_mixed [some 42, some 43, some 44, some 45] rfl ?_
    simp only [List.nil_append, List.cons_append, true_and, and_true, zz0, true_implies, Nat.reduceLT, Nat.reduceLeDiff, zzI, look_nil, Nat.reduceBEq, implies_true, evS_move, evS_call, zz12, F_sl22, Option.isSome_some, zz21, gr_v, zz22, zz6, Nat.reduceEqDiff, ↓reduceIte]
    refine hK3 _ ?_; try clear hK3 K3
    refine awp_keepL [0, 1, 3, 4, 7, 11, 12, 13, 14, 45] ?_
    simp only [zz20, zzI, look_nil, Nat.reduceBEq]
    refine awp_condS _ (by decide) (by simp only [look_cons, Nat.reduceBEq, cond_true, cond_false]; rfl) ?_ ?_
    · intro hb
      have hlt : A.length < l.length := by have := of_decide_eq_true hb; omega
      clear hb
      obtain ⟨x, C2, rfl⟩ : ∃ x t, C = x :: t := by
        cases C with
        | nil => simp at hAC; omega
        | cons x t => exact ⟨x, t, rfl⟩
      have hll : ((A ++ x :: C2).map bidC).length = l.length := by simp at hAC ⊢; omega
      have hwi : IntKind.wrap .i64 ((A.length : Int) + 1) = ((A ++ [(⟨x.who, x.inst, -77, x.qty, x.price⟩ : BidV)]).length : Int) := by rw [wrapI (by omega) (by omega)]; simp
      have gk : ((A ++ x :: C2).map bidC).getD A.length [] = [iv x.who, iv x.inst, iv x.frm, iv x.qty, iv x.price] := by
        rw [List.map_append]; exact gd_mid' (A := A.map bidC) _ _ (by simp)
      have hset : (aV ((A ++ x :: C2).map bidC)).set A.length [AV.d (iv x.who), AV.d (iv x.inst), AV.d (iv (-77)), AV.d (iv x.qty), AV.d (iv x.price)] = aV ((A ++ (⟨x.who, x.inst, -77, x.qty, x.price⟩ : BidV) :: C2).map bidC) := by
        show (aV _).set _ ((bidC (⟨x.who, x.inst, -77, x.qty, x.price⟩ : BidV)).map AV.d) = _
        rw [aV_set, List.map_append, List.map_cons, st_mid' _ _ _ (by simp)]
        simp
      have b1 := ltI (show A.length < l.length by omega)
      have c1 := eq_true (show A.length < l.length by omega)
      refine awp_skip ?_
      simp only [zz6, Nat.reduceEqDiff, ↓reduceIte]
      refine hK2 _ ?_; try clear hK2 K2
      refine awp_keepL [0, 1, 3, 4, 7, 11, 12, 13, 14] ?_
      simp only [zz20, zzI, look_nil, Nat.reduceBEq]
      refine awp_seq fun K2 hK2 => ?_
      refine awp_block ?_
      refine awp_plain F_mixed [some 48, some 49, some 50, some 51, none] rfl ?_
      simp only [List.nil_append, List.cons_append, true_and, and_true, zz0, true_implies, Nat.reduceLT, Nat.reduceLeDiff, zzI, look_nil, Nat.reduceBEq, implies_true, evS_move, evS_indexAddr, zz23, zz24, F_sl22, F_sz31, Option.map_some, zz16, Option.some.injEq, exists_eq_left', exists_eq_left, eq_self, reduceCtorEq, and_self, zz19, F_off31_1, zzB, Nat.zero_add, Nat.reduceAdd, zz18, F_ok3, F_sz3, splice, List.append_nil, zzD, zzF, zzE, zz1, zzG, aV_len, aV_get, hll, gk, hset, b1, c1, ge0, Int.toNat_natCast, Nat.le_refl, List.map_cons, zz6, Nat.reduceEqDiff, ↓reduceIte]
      refine hK2 _ ?_; try clear hK2 K2
      refine awp_keepL [0, 1, 3, 4, 7, 11, 12, 13, 14] ?_
      simp only [zz20, zzI, look_nil, Nat.reduceBEq]
      refine awp_plain F_mixed [some 46, some 47, some 14] rfl ?_
      simp only [List.nil_append, List.cons_append, true_and, and_true, zz0, true_implies, Nat.reduceLT, Nat.reduceLeDiff, zzI, look_nil, Nat.reduceBEq, implies_true, evS_move, zz21, gr_v, zz26, evS_assign, hwi, zz6, Nat.reduceEqDiff, ↓reduceIte]
      refine ⟨C2.length, _, by simp, le_SK id [] rfl (l' := [(0, .d (iv q)), (1, .d (bids l)), (3, bv long), (4, .d (fillsD fs)), (7, .ptr 7 0 0), (11, .d (bids l)), (12, .ref 37000 l.length), (13, bv true), (14, .d (iv (A ++ [(⟨x.who, x.inst, -77, x.qty, x.price⟩ : BidV)]).length))]) (m' := [(7, (⟨True, 29, 2, true, false, 7, [[.d (iv w), .d (iv n)]]⟩ : ARow)), (37000, (⟨True, 31, 5, true, true, 37000, aV (((A ++ [(⟨x.who, x.inst, -77, x.qty, x.price⟩ : BidV)]) ++ C2).map bidC)⟩ : ARow))]) ?_ ?_ ?_ ?_, A ++ [(⟨x.who, x.inst, -77, x.qty, x.price⟩ : BidV)], C2, by simp at hAC ⊢; omega, rfl, rfl⟩
      · simp only [leV, look_cons, Nat.reduceBEq, cond_true, cond_false, bids, fillsD, hwi]; exact ⟨VLe.refl _, VLe.refl _, VLe.refl _, VLe.refl _, VLe.refl _, VLe.refl _, VLe.refl _, VLe.refl _, VLe.refl _, trivial⟩
      · exact ⟨fun _ => ⟨_, rfl, RowLe.still (by simp [AV.idsL, AV.ids])⟩, fun h => by simp at h, fun _ => ⟨_, rfl, RowLe.same (by simp) (aV_ids _)⟩, fun h => by simp at h, trivial⟩
      · simp [wfV, AV.ids, lookR]
      · exact ⟨by simp [AV.idsL, AV.ids], fun e he r' hr' => by rw [aV_ids _ e he] at hr'; simp at hr', trivial⟩
    · intro hb
      clear hb
      refine awp_exit ?_
      simp only [zz6, Nat.reduceEqDiff, ↓reduceIte]
      refine hK0 _ ?_; try clear hK0 K0
      refine awp_keepL [0, 1, 3, 4, 7, 11, 13] ?_
      simp only [zz20, zzI, look_nil, Nat.reduceBEq]
      refine awp_seq fun K0 hK0 => ?_
      refine awp_plain F_mixed [some 53, some 54, some 55, some 52, some 56, some 57, some 58, some 15, some 16, some 17] rfl ?_
      simp only [List.nil_append, List.cons_append, true_and, and_true, zz0, true_implies, Nat.reduceLT, Nat.reduceLeDiff, zzI, look_nil, Nat.reduceBEq, implies_true, evS_move, evS_call, evC_value, zz14, zzD, Nat.reduceAdd, Nat.zero_add, zzF, evS_assign, bids, zz6, Nat.reduceEqDiff, ↓reduceIte]
      refine call_go F_go9 (fun hG => FillF q l (by omega)) (by simp [AV.ids, AV.idsL]) (by simp) ?_
      simp only [List.nil_append, List.cons_append, true_and, and_true, zz0, true_implies, Nat.reduceLT, Nat.reduceLeDiff, zzI, look_nil, Nat.reduceBEq, implies_true, evS_move, evS_call, evC_value, zz14, zzD, Nat.reduceAdd, Nat.zero_add, zzF, evS_assign, bids, zz6, Nat.reduceEqDiff, ↓reduceIte, atsL, oksG, freeN, AV.ren, AV.renL, addRows, ORow.row, Nat.reduceMul, Nat.reduceAdd, zz9, Option.bind_some, Option.map_some, forall_eq', D.sl.injEq, zz16, Option.some.injEq, exists_eq_left', exists_eq_left, exists_eq', exists_eq, List.length_cons, zz2]
      refine hK0 _ ?_; try clear hK0 K0
      refine awp_keepL [0, 1, 3, 4, 7, 11, 13, 15, 16, 17] ?_
      simp only [zz20, zzI, look_nil, Nat.reduceBEq]
      refine awp_seq fun K0 hK0 => ?_
      refine awp_plain F_mixed [some 60, some 61, some 62, some 59, some 63, some 64, some 65, some 18, some 19, some 20] rfl ?_
      simp only [List.nil_append, List.cons_append, true_and, and_true, zz0, true_implies, Nat.reduceLT, Nat.reduceLeDiff, zzI, look_nil, Nat.reduceBEq, implies_true, evS_move, evS_call, evC_value, zz14, zzD, Nat.reduceAdd, Nat.zero_add, zzF, evS_assign, bids, zz6, Nat.reduceEqDiff, ↓reduceIte]
      refine call_go F_go18 (fun hG => rFillF q l (by omega)) (by simp [AV.ids, AV.idsL]) (by simp) ?_
      simp only [List.nil_append, List.cons_append, true_and, and_true, zz0, true_implies, Nat.reduceLT, Nat.reduceLeDiff, zzI, look_nil, Nat.reduceBEq, implies_true, evS_move, evS_call, evC_value, zz14, zzD, Nat.reduceAdd, Nat.zero_add, zzF, evS_assign, bids, zz6, Nat.reduceEqDiff, ↓reduceIte, atsL, oksG, freeN, AV.ren, AV.renL, addRows, ORow.row, Nat.reduceMul, Nat.reduceAdd, zz9, Option.bind_some, Option.map_some, forall_eq', D.sl.injEq, zz16, Option.some.injEq, exists_eq_left', exists_eq_left, exists_eq', exists_eq, List.length_cons, zz2]
      refine hK0 _ ?_; try clear hK0 K0
      refine awp_keepL [1, 3, 4, 7, 11, 13, 15, 16, 17, 18, 19, 20] ?_
      simp only [zz20, zzI, look_nil, Nat.reduceBEq]
      refine awp_seq fun K0 hK0 => ?_
      refine awp_plain F_mixed [some 66, some 67, some 68, some 69, some 70, some 71, some 72, some 73, some 74, some 75, some 76, some 77, some 78, some 79, some 80, some 81, some 13] rfl ?_
      simp only [List.nil_append, List.cons_append, true_and, and_true, zz0, true_implies, Nat.reduceLT, Nat.reduceLeDiff, zzI, look_nil, Nat.reduceBEq, implies_true, Nat.reduceSub, S_getD, zz5, and_imp, imp_and, imp_self, and_self, evS_move, evS_call, evC_value, zz13, zz21, gr_v, zz34, evS_assign, fillsD, beq_self_eq_true, Bool.and_self, zz6, Nat.reduceEqDiff, ↓reduceIte]
      refine call_go F_go14 (fun hG => kFills_ (filV q l) (by have := filV_len q l; omega)) (by simp [AV.ids, AV.idsL]) (by simp) ?_
      simp only [List.nil_append, List.cons_append, true_and, and_true, zz0, true_implies, Nat.reduceLT, Nat.reduceLeDiff, zzI, look_nil, Nat.reduceBEq, implies_true, Nat.reduceSub, S_getD, zz5, and_imp, imp_and, imp_self, and_self, evS_move, evS_call, evC_value, zz13, zz21, gr_v, zz34, evS_assign, fillsD, beq_self_eq_true, Bool.and_self, zz6, Nat.reduceEqDiff, ↓reduceIte, atsL, oksG, freeN, AV.ren, AV.renL, addRows, ORow.row, Nat.reduceMul, Nat.reduceAdd, zz9, Option.bind_some, Option.map_some, forall_eq', D.sl.injEq, zz16, Option.some.injEq, exists_eq_left', exists_eq_left, exists_eq', exists_eq, zzD, zz2]
      refine hK0 _ ?_; try clear hK0 K0
      refine awp_keepL [1, 3, 4, 7, 11, 13] ?_
      simp only [zz20, zzI, look_nil, Nat.reduceBEq]
      refine awp_seq fun K0 hK0 => ?_
      refine awp_plain F_mixed [some 21] rfl ?_
      simp only [List.nil_append, List.cons_append, true_and, and_true, zz0, true_implies, Nat.reduceLT, Nat.reduceLeDiff, zzI, look_nil, Nat.reduceBEq, implies_true, evS_assign, zz6, Nat.reduceEqDiff, ↓reduceIte]
      refine hK0 _ ?_; try clear hK0 K0
      refine awp_keepL [1, 3, 4, 7, 11, 13, 21] ?_
      simp only [zz20, zzI, look_nil, Nat.reduceBEq]
      refine awp_seq fun K0 hK0 => ?_
      refine awp_plain F_mixed [some 82, some 83, some 84, some 21] rfl ?_
      simp only [List.nil_append, List.cons_append, true_and, and_true, zz0, true_implies, Nat.reduceLT, Nat.reduceLeDiff, zzI, look_nil, Nat.reduceBEq, implies_true, evS_move, evS_call, F_sl23, F_zero33, F_sz33, F_by33, zz4, maxLen_le, Nat.reduceMul, newRow1, zz9, Option.bind_some, Option.map_some, zz16, Option.some.injEq, exists_eq_left', exists_eq_left, eq_self, reduceCtorEq, and_self, zzD, Nat.reduceAdd, Nat.zero_add, zzF, zzB, zzE, evS_assign, fillsD, len_map, zz6, Nat.reduceEqDiff, ↓reduceIte]
      refine ⟨le_maxLen (n := fs.length) (by omega), by omega, ?_⟩
      refine hK0 _ ?_; try clear hK0 K0
      refine awp_keepL [1, 3, 4, 7, 11, 13, 21] ?_
      simp only [zz20, zzI, look_nil, Nat.reduceBEq]
      refine awp_seq fun K0 hK0 => ?_
      refine awp_plain F_mixed [some 86, some 87, some 88, some 89, some 85, some 90, some 91, some 22, some 17] rfl ?_
      simp only [List.nil_append, List.cons_append, true_and, and_true, zz0, true_implies, Nat.reduceLT, Nat.reduceLeDiff, zzI, look_nil, Nat.reduceBEq, implies_true, F_ok29, F_ag29, F_sz29, zz8, zz23, zzD, Nat.reduceAdd, Nat.zero_add, zzF, zzB, zzE, zz16, Option.some.injEq, exists_eq_left', exists_eq_left, Option.map_some, eq_self, reduceCtorEq, and_self, evS_move, evS_call, evC_value, zz14, evS_assign, fillsD, D.sl.injEq, len_map, zz6, Nat.reduceEqDiff, ↓reduceIte]
      refine call_go F_go15 (fun hG => aLegs_ w n long fs (by omega)) (by simp [AV.ids, AV.idsL]) (by simp) ?_
      simp only [List.nil_append, List.cons_append, true_and, and_true, zz0, true_implies, Nat.reduceLT, Nat.reduceLeDiff, zzI, look_nil, Nat.reduceBEq, implies_true, F_ok29, F_ag29, F_sz29, zz8, zz23, zzD, Nat.reduceAdd, Nat.zero_add, zzF, zzB, zzE, zz16, Option.some.injEq, exists_eq_left', exists_eq_left, Option.map_some, eq_self, reduceCtorEq, and_self, evS_move, evS_call, evC_value, zz14, evS_assign, fillsD, D.sl.injEq, len_map, zz6, Nat.reduceEqDiff, ↓reduceIte, atsL, oksG, freeN, AV.ren, AV.renL, addRows, ORow.row, Nat.reduceMul, Nat.reduceAdd, zz9, Option.bind_some, Option.map_some, forall_eq', D.sl.injEq, S_mem, Option.some.injEq, exists_eq_left', exists_eq_left, exists_eq', exists_eq, List.length_cons, zz2]
      refine hK0 _ ?_; try clear hK0 K0
      refine awp_keepL [1, 3, 4, 7, 11, 13, 17, 21, 22] ?_
      simp only [zz20, zzI, look_nil, Nat.reduceBEq]
      refine awp_seq fun K0 hK0 => ?_
      refine awp_plain F_mixed [some 93, some 94, some 95, some 96, some 92, some 97, some 98, some 23, some 20] rfl ?_
      simp only [List.nil_append, List.cons_append, true_and, and_true, zz0, true_implies, Nat.reduceLT, Nat.reduceLeDiff, zzI, look_nil, Nat.reduceBEq, implies_true, F_ok29, F_ag29, F_sz29, zz8, zz23, zzD, Nat.reduceAdd, Nat.zero_add, zzF, zzB, zzE, zz16, Option.some.injEq, exists_eq_left', exists_eq_left, Option.map_some, eq_self, reduceCtorEq, and_self, evS_move, evS_call, evC_value, zz14, evS_assign, fillsD, zz6, Nat.reduceEqDiff, ↓reduceIte]
      refine call_go F_go19 (fun hG => rALegsF w n long fs (by omega)) (by simp [AV.ids, AV.idsL]) (by simp) ?_
      simp only [List.nil_append, List.cons_append, true_and, and_true, zz0, true_implies, Nat.reduceLT, Nat.reduceLeDiff, zzI, look_nil, Nat.reduceBEq, implies_true, F_ok29, F_ag29, F_sz29, zz8, zz23, zzD, Nat.reduceAdd, Nat.zero_add, zzF, zzB, zzE, zz16, Option.some.injEq, exists_eq_left', exists_eq_left, Option.map_some, eq_self, reduceCtorEq, and_self, evS_move, evS_call, evC_value, zz14, evS_assign, fillsD, zz6, Nat.reduceEqDiff, ↓reduceIte, atsL, oksG, freeN, AV.ren, AV.renL, addRows, ORow.row, Nat.reduceMul, Nat.reduceAdd, zz9, Option.bind_some, Option.map_some, forall_eq', D.sl.injEq, S_mem, Option.some.injEq, exists_eq_left', exists_eq_left, exists_eq', exists_eq, List.length_cons, zz2]
      refine hK0 _ ?_; try clear hK0 K0
      refine awp_keepL [1, 4, 11, 13, 17, 20, 21, 22, 23] ?_
      simp only [zz20, zzI, look_nil, Nat.reduceBEq]
      refine awp_seq fun K0 hK0 => ?_
      refine awp_plain F_mixed [some 99, some 100, some 101, some 102, some 103, some 104, some 105, some 106, some 107, some 108, some 109, some 13] rfl ?_
      simp only [List.nil_append, List.cons_append, true_and, and_true, zz0, true_implies, Nat.reduceLT, Nat.reduceLeDiff, zzI, look_nil, Nat.reduceBEq, implies_true, Nat.reduceSub, S_getD, zz5, and_imp, imp_and, imp_self, and_self, evS_move, evS_call, evC_value, zz13, zz21, gr_v, zz34, evS_assign, poss, D.sl.injEq, beq_self_eq_true, Bool.and_self, zz6, Nat.reduceEqDiff, ↓reduceIte]
      refine call_go F_go20 (fun hG => kPoss_ (lgV w n long fs) (by have := lgV_len w n long fs; omega)) (by simp [AV.ids, AV.idsL]) (by simp) ?_
      simp only [List.nil_append, List.cons_append, true_and, and_true, zz0, true_implies, Nat.reduceLT, Nat.reduceLeDiff, zzI, look_nil, Nat.reduceBEq, implies_true, Nat.reduceSub, S_getD, zz5, and_imp, imp_and, imp_self, and_self, evS_move, evS_call, evC_value, zz13, zz21, gr_v, zz34, evS_assign, poss, D.sl.injEq, beq_self_eq_true, Bool.and_self, zz6, Nat.reduceEqDiff, ↓reduceIte, atsL, oksG, freeN, AV.ren, AV.renL, addRows, ORow.row, Nat.reduceMul, Nat.reduceAdd, zz9, Option.bind_some, Option.map_some, forall_eq', D.sl.injEq, zz16, Option.some.injEq, exists_eq_left', exists_eq_left, exists_eq', exists_eq, zzD, zz2]
      refine ⟨by simp, ?_⟩
      refine hK0 _ ?_; try clear hK0 K0
      refine awp_keepL [1, 4, 11, 13, 21, 22] ?_
      simp only [zz20, zzI, look_nil, Nat.reduceBEq]
      refine awp_seq fun K0 hK0 => ?_
      refine awp_mut [some 110, some 111] rfl 1 rfl ?_
      simp only [List.nil_append, List.cons_append, true_and, and_true, zz0, true_implies, Nat.reduceLT, Nat.reduceLeDiff, zzI, look_nil, Nat.reduceBEq, implies_true, evS_move, evS_call, evC_value, len_map, zzB, zz6, Nat.reduceEqDiff, ↓reduceIte]
      refine mut_go [90000] F_go21 (spoilPoss_ (lgV w n long fs) (by have := lgV_len w n long fs; omega)) (by simp [AV.ids, AV.idsL]) (by decide) (by first | exact ⟨by decide, by simp⟩ | rfl) ?_
      simp only [List.nil_append, List.cons_append, true_and, and_true, zz0, true_implies, Nat.reduceLT, Nat.reduceLeDiff, zzI, look_nil, Nat.reduceBEq, implies_true, evS_move, evS_call, evC_value, len_map, zzB, zz6, Nat.reduceEqDiff, ↓reduceIte, mArgs_nil, asE_cl, asF_cl, asD_ptr, asG_ptr, asD_ep, asG_ep, List.mem_singleton, forall_eq, asEc_cons, asEc_nil, mArgs_d, mArgs_m, mRows_nil, mRows_cons, mNewL, nxM, mBase, mName, oksL, List.getElem?_cons_zero, List.getElem?_cons_succ, zzF, asE_ag, asE_d, asE_ref, asEc_cons, asEc_nil, asF_d, asF_ref, asF_ag, asGs, AV.ids, AV.idsL, List.length_singleton, List.not_mem_nil, false_implies, forall_const, atsL, asD_self, asD_nil, asD_sl, asD_agg, asD_int, asD_bool, asD_func, asD_ag, asD_ref, asG_d, asG_ag, asG_ref, freeN, AV.ren, AV.renL, addRows, ORow.row, Nat.reduceMul, Nat.reduceAdd, zz9, Option.bind_some, Option.map_some, forall_eq', D.sl.injEq, zz16, Option.some.injEq, exists_eq_left', exists_eq_left, exists_eq', exists_eq, zzD, S_func, Sk_func]
      refine ⟨by simp [flatDs, flatD, posC, spoilP], ?_⟩
      refine hK0 _ ?_; try clear hK0 K0
      refine awp_keepL [1, 4, 11, 13, 21] ?_
      simp only [zz20, zzI, look_nil, Nat.reduceBEq]
      refine awp_seq fun K0 hK0 => ?_
      refine awp_plain F_mixed [some 112, some 113, some 114, some 115, some 116, some 117, some 118, some 119, some 120, some 121, some 122, some 123, some 124, some 125, some 10] rfl ?_
      simp only [List.nil_append, List.cons_append, true_and, and_true, zz0, true_implies, Nat.reduceLT, Nat.reduceLeDiff, zzI, look_nil, Nat.reduceBEq, implies_true, Nat.reduceSub, S_getD, zz5, and_imp, imp_and, imp_self, and_self, evS_move, evS_call, evC_value, zz13, evS_assign, bids, fillsD, D.sl.injEq, zz6, Nat.reduceEqDiff, ↓reduceIte]
      refine call_go F_go12 (fun hG => kBids_ l (by omega)) (by simp [AV.ids, AV.idsL]) (by simp) ?_
      simp only [List.nil_append, List.cons_append, true_and, and_true, zz0, true_implies, Nat.reduceLT, Nat.reduceLeDiff, zzI, look_nil, Nat.reduceBEq, implies_true, Nat.reduceSub, S_getD, zz5, and_imp, imp_and, imp_self, and_self, evS_move, evS_call, evC_value, zz13, evS_assign, bids, fillsD, D.sl.injEq, zz6, Nat.reduceEqDiff, ↓reduceIte, atsL, oksG, freeN, AV.ren, AV.renL, addRows, ORow.row, Nat.reduceMul, Nat.reduceAdd, zz9, Option.bind_some, Option.map_some, forall_eq', D.sl.injEq, zz16, Option.some.injEq, exists_eq_left', exists_eq_left, exists_eq', exists_eq, zzD, zz2]
      refine call_go F_go14 (fun hG => kFills_ fs (by omega)) (by simp [AV.ids, AV.idsL]) (by simp) ?_
      simp only [List.nil_append, List.cons_append, true_and, and_true, zz0, true_implies, Nat.reduceLT, Nat.reduceLeDiff, zzI, look_nil, Nat.reduceBEq, implies_true, Nat.reduceSub, S_getD, zz5, and_imp, imp_and, imp_self, and_self, evS_move, evS_call, evC_value, zz13, evS_assign, bids, fillsD, D.sl.injEq, zz6, Nat.reduceEqDiff, ↓reduceIte, atsL, oksG, freeN, AV.ren, AV.renL, addRows, ORow.row, Nat.reduceMul, Nat.reduceAdd, zz9, Option.bind_some, Option.map_some, forall_eq', D.sl.injEq, zz16, Option.some.injEq, exists_eq_left', exists_eq_left, exists_eq', exists_eq, zzD, zz2]
      refine ⟨by simp, ?_⟩
      refine call_go F_go10 (fun hG => wakes19_) (by simp [AV.ids, AV.idsL]) (by simp) ?_
      simp only [List.nil_append, List.cons_append, true_and, and_true, zz0, true_implies, Nat.reduceLT, Nat.reduceLeDiff, zzI, look_nil, Nat.reduceBEq, implies_true, Nat.reduceSub, S_getD, zz5, and_imp, imp_and, imp_self, and_self, evS_move, evS_call, evC_value, zz13, evS_assign, bids, fillsD, D.sl.injEq, zz6, Nat.reduceEqDiff, ↓reduceIte, atsL, oksG, freeN, AV.ren, AV.renL, addRows, ORow.row, Nat.reduceMul, Nat.reduceAdd, zz9, Option.bind_some, Option.map_some, forall_eq', D.sl.injEq, zz16, Option.some.injEq, exists_eq_left', exists_eq_left, exists_eq', exists_eq, zzD, zz2]
      refine hK0 _ ?_; try clear hK0 K0
      refine awp_keepL [10] ?_
      simp only [zz20, zzI, look_nil, Nat.reduceBEq]
      refine awp_ret ?_
      simp only [zz6, Nat.reduceEqDiff, ↓reduceIte]
      refine done0 (by simp only [resCs, resC]; trivial) ?_ (by simp [flatA, flatAs, flatD]) (by simp [AV.ids, AV.idsL])
      simp only [List.map_cons, List.map_nil, resA, S_getD, Nat.reduceLT, Nat.reduceLeDiff, look_cons, Nat.reduceBEq, cond_true, cond_false, resAll]
      try rfl
end Go.Proofs.Ytopifbpibkpmmaa
