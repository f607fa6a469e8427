import Derived.Test.YtopifbpibkpmmaaWpL
import Derived.Test.YtopifbpibkpmmaaSpecV
namespace Go.Proofs.Ytopifbpibkpmmaa
open Go.RowKit
set_option linter.unusedVariables false
set_option linter.unusedSimpArgs false
theorem F_ok31 : tyOk Try.prog 31 = true := by kernel_rfl
theorem F_ag31 : aggT Try.prog 31 = true := by kernel_rfl
theorem F_go34 : goFn Try.prog 34 := ⟨_, Try.func34, rfl, rfl⟩
theorem F_go17 : goFn Try.prog 17 := ⟨_, Try.func17, rfl, rfl⟩
theorem F_zero33 : zeroT Try.prog 33 = some [(.int .i64 0), (.int .i64 0), (.int .i64 0)] := by kernel_rfl
theorem F_bld33 : bldT Try.prog 33 = true := by kernel_rfl
theorem F_fld33_0 : fldT Try.prog 33 0 = some (0, 1) := by kernel_rfl
theorem F_fld33_1 : fldT Try.prog 33 1 = some (1, 1) := by kernel_rfl
theorem F_fld33_2 : fldT Try.prog 33 2 = some (2, 1) := by kernel_rfl
theorem F_by33 : byT Try.prog 33 = 24 := by kernel_rfl
theorem rOrder_ (long : Bool) (l : List BidV) (hl : l.length ≤ 1000000) : ACalls Try.prog 17 [.v (.bool long), bids l] [⟨31, 5, (bidOrder long l).map bidC⟩] (.ref 0 l.length) := by
  refine acalls_S (rs := [.tmp 4]) Try.func17 rfl rfl 56 [(0, bv long), (1, .d (bids l))] rfl (by simp) rfl ?_
  refine awp_seq fun K0 hK0 => ?_
  refine awp_plain F_mixed [some 4] rfl ?_
  simp only [List.nil_append, List.cons_append, true_and, and_true, zz0, true_implies, Nat.reduceLT, Nat.reduceLeDiff, zzI, look_nil, Nat.reduceBEq, implies_true, evS_assign, zz6, Nat.reduceEqDiff, ↓reduceIte]
  refine hK0 _ ?_; try clear hK0 K0
  refine awp_keepL [0, 1] ?_
  simp only [zz20, zzI, look_nil, Nat.reduceBEq]
  refine awp_seq fun K0 hK0 => ?_
  refine awp_plain F_mixed [some 5] rfl ?_
  simp only [List.nil_append, List.cons_append, true_and, and_true, zz0, true_implies, Nat.reduceLT, Nat.reduceLeDiff, zzI, look_nil, Nat.reduceBEq, implies_true, evS_assign, zz6, Nat.reduceEqDiff, ↓reduceIte]
  refine hK0 _ ?_; try clear hK0 K0
  refine awp_keepL [0, 1, 5] ?_
  simp only [zz20, zzI, look_nil, Nat.reduceBEq]
  refine awp_seq fun K0 hK0 => ?_
  refine awp_seq fun K1 hK1 => ?_
  refine awp_plain F_mixed [some 6] rfl ?_
  simp only [List.nil_append, List.cons_append, true_and, and_true, zz0, true_implies, Nat.reduceLT, Nat.reduceLeDiff, zzI, look_nil, Nat.reduceBEq, implies_true, evS_assign, zz6, Nat.reduceEqDiff, ↓reduceIte]
  refine hK1 _ ?_; try clear hK1 K1
  refine awp_keepL [0, 1, 5, 6] ?_
  simp only [zz20, zzI, look_nil, Nat.reduceBEq]
  refine awp_block ?_
  refine awp_loop (fun m s => ∃ pre post : List BidV, l = pre ++ post ∧ m = post.length ∧ s = S 56 [(0, bv long), (1, .d (bids l)), (5, .ref 5 pre.length), (6, .d (iv pre.length))] [(5, (⟨True, 31, 5, true, true, 5, aV ((isort (bidLt long) pre).map bidC)⟩ : ARow))]) l.length _ (le_SK id [5] rfl (l' := [(0, bv long), (1, .d (bids l)), (5, .ref 5 ([] : List BidV).length), (6, .d (iv ([] : List BidV).length))]) (m' := [(5, (⟨True, 31, 5, true, true, 5, aV ((isort (bidLt long) ([] : List BidV)).map bidC)⟩ : ARow))]) ?_ ?_ ?_ ?_) ⟨[], l, rfl, rfl, rfl⟩ ?_
  · simp only [leV, look_cons, Nat.reduceBEq, cond_true, cond_false, bids, len_map]; exact ⟨VLe.still rfl, VLe.still rfl, VLe.nil_ (by decide), VLe.still rfl, trivial⟩
  · exact ⟨fun h => by simp at h, fun _ => rfl, trivial⟩
  · simp [wfV, AV.ids, lookR]
  · simp [wfR, aV, isort, isortA, AV.idsL, AV.ids]
  rintro m s ⟨pre, post, rfl, rfl, rfl⟩
  have hB := isort_len (lt := (bidLt long)) pre
  have hS := Srt_isort (bidLt_swo long) pre
  refine awp_seq fun K2 hK2 => ?_
  refine awp_seq fun K3 hK3 => ?_
  refine awp_plain F_mixed [some 8, some 9, some 10, some 11] rfl ?_
  simp only [List.nil_append, List.cons_append, true_and, and_true, zz0, true_implies, Nat.reduceLT, Nat.reduceLeDiff, zzI, look_nil, Nat.reduceBEq, implies_true, evS_move, evS_call, zz12, F_sl22, Option.isSome_some, zz21, gr_v, zz22, bids, len_map, zz6, Nat.reduceEqDiff, ↓reduceIte]
  refine hK3 _ ?_; try clear hK3 K3
  refine awp_keepL [0, 1, 5, 6, 11] ?_
  simp only [zz20, zzI, look_nil, Nat.reduceBEq]
  refine awp_condS _ (by decide) (by simp only [look_cons, Nat.reduceBEq, cond_true, cond_false]; rfl) ?_ ?_
  · intro hb
    obtain ⟨x, post, rfl⟩ := more_of hb; clear hb
    have hgx : ((pre ++ x :: post).map bidC).getD pre.length [] = [iv x.who, iv x.inst, iv x.frm, iv x.qty, iv x.price] := by
      rw [List.map_append]; exact gd_mid' (A := pre.map bidC) _ _ (by simp)
    generalize hBB : isort (bidLt long) pre = B at hB hS ⊢
    refine awp_skip ?_
    simp only [zz6, Nat.reduceEqDiff, ↓reduceIte]
    refine hK2 _ ?_; try clear hK2 K2
    refine awp_keepL [0, 1, 5, 6] ?_
    simp only [zz20, zzI, look_nil, Nat.reduceBEq]
    refine awp_seq fun K2 hK2 => ?_
    refine awp_block ?_
    refine awp_seq fun K3 hK3 => ?_
    refine awp_plain F_mixed [some 14, some 15, some 7] rfl ?_
    simp only [List.nil_append, List.cons_append, true_and, and_true, zz0, true_implies, Nat.reduceLT, Nat.reduceLeDiff, zzI, look_nil, Nat.reduceBEq, implies_true, evS_move, evS_call, zz12, F_sl22, Option.isSome_some, evS_assign, zz6, Nat.reduceEqDiff, ↓reduceIte]
    refine hK3 _ ?_; try clear hK3 K3
    refine awp_keepL [0, 1, 5, 6, 7] ?_
    simp only [zz20, zzI, look_nil, Nat.reduceBEq]
    refine awp_seq fun K3 hK3 => ?_
    refine awp_plain F_mixed [some 16, some 17, some 18, some 19, some 20, some 21, some 22, some 5] rfl ?_
    simp only [List.nil_append, List.cons_append, true_and, and_true, zz0, true_implies, Nat.reduceLT, Nat.reduceLeDiff, zzI, look_nil, Nat.reduceBEq, implies_true, evS_move, evS_indexAddr, zz23, zz24, F_sl22, F_sz31, Option.map_some, zz16, Option.some.injEq, exists_eq_left', exists_eq_left, eq_self, reduceCtorEq, and_self, F_ok31, F_ag31, zz8, zzD, Nat.reduceAdd, Nat.zero_add, zzF, zzB, zzE, F_zero31, zz3, newRow1, zz1, zzG, maxLen_le, Nat.reduceMul, evS_call, F_by31, zz4, zz9, Option.bind_some, evS_assign, aV, bids, bidC, getD_mid, len_map, lt_mid, ge_mid, D.agg.injEq, unDs_map, hB, zz6, Nat.reduceEqDiff, ↓reduceIte]
    have hm : pre.length + 1 ≤ 1000000 := by simp at hl; omega
    first | refine ⟨le_maxLen hm, by omega, ?_⟩ | refine ⟨by simp, le_maxLen hm, by omega, ?_⟩
    clear hm
    refine hK3 _ ?_; try clear hK3 K3
    refine awp_keepL [0, 1, 5, 6, 7] ?_
    simp only [zz20, zzI, look_nil, Nat.reduceBEq]
    refine awp_seq fun K3 hK3 => ?_
    refine awp_block ?_
    refine awp_le (le_SK id [] rfl (l' := [(0, bv long), (1, .d (bids (pre ++ x :: post))), (5, .ref 22 (pre.length + 1)), (6, .d (iv pre.length)), (7, .d (iv pre.length))]) (m' := [(22, (⟨True, 31, 5, false, true, 5, aV ((B ++ [x]).map bidC)⟩ : ARow))]) ?_ ?_ ?_ ?_) ?_
    · simp only [leV, look_cons, Nat.reduceBEq, cond_true, cond_false, bids, len_map]; exact ⟨VLe.refl _, VLe.refl _, VLe.refl _, VLe.refl _, VLe.refl _, trivial⟩
    · exact ⟨fun _ => ⟨_, rfl, RowLe.same (by simp [aV, bidC]) (aV_ids _)⟩, fun h => by simp at h, trivial⟩
    · simp [wfV, AV.ids, lookR]
    · exact ⟨fun e he r' hr' => by rw [aV_ids _ e he] at hr'; simp at hr', trivial⟩
    refine awp_le (le_SK id [] rfl (l' := [(0, bv long), (1, .d (bids (pre ++ x :: post))), (5, .ref 22 (pre.length + 1)), (6, .d (iv pre.length)), (7, .d (iv pre.length))]) (m' := [(22, (⟨True, 31, 5, true, true, 5, aV ((B ++ [x]).map bidC)⟩ : ARow))]) ?_ ?_ ?_ ?_) ?_
    · simp only [leV, look_cons, Nat.reduceBEq, cond_true, cond_false]; exact ⟨VLe.refl _, VLe.refl _, VLe.refl _, VLe.refl _, VLe.refl _, trivial⟩
    · exact ⟨fun _ => ⟨_, rfl, RowLe.uq_ (by rfl) rfl (aV_ids _)⟩, fun h => by simp at h, trivial⟩
    · simp [wfV, AV.ids, lookR]
    · exact ⟨fun e he r' hr' => by rw [aV_ids _ e he] at hr'; simp at hr', trivial⟩
    refine awp_loop (fun m s => ∃ (A C : List BidV) (g : BidV), B = A ++ C ∧ (∀ b ∈ C, bidLt long x b = true) ∧ m = A.length ∧ s = S 56 [(0, bv long), (1, .d (bids (pre ++ x :: post))), (5, .ref 5 (pre.length + 1)), (6, .d (iv pre.length)), (7, .d (iv A.length))] [(5, (⟨True, 31, 5, true, true, 5, aV ((A ++ g :: C).map bidC)⟩ : ARow))]) B.length _ (le_SK (fun r => bif r == 5 then 22 else r) [] rfl (l' := [(0, bv long), (1, .d (bids (pre ++ x :: post))), (5, .ref 5 (pre.length + 1)), (6, .d (iv pre.length)), (7, .d (iv B.length))]) (m' := [(5, (⟨True, 31, 5, true, true, 5, aV ((B ++ x :: []).map bidC)⟩ : ARow))]) ?_ ?_ ?_ ?_) ⟨B, [], x, by simp, by simp, rfl, rfl⟩ ?_
    · simp only [leV, look_cons, Nat.reduceBEq, cond_true, cond_false, hB]
      refine ⟨VLe.still rfl, VLe.still rfl, ?_, VLe.still rfl, VLe.still rfl, trivial⟩
      exact VLe.ref_ (f := fun r => bif r == 5 then 22 else r) (r := 5) (by simp)
    · exact ⟨fun _ => ⟨_, rfl, RowLe.same (by rfl) (aV_ids _)⟩, fun h => by simp at h, trivial⟩
    · simp [wfV, AV.ids, lookR]
    · exact ⟨fun e he r' hr' => by rw [aV_ids _ e he] at hr'; simp at hr', trivial⟩
    rintro m s ⟨A, C, g, hBA, hC, rfl, rfl⟩
    have hAC : A.length + C.length = pre.length := by rw [← hB, hBA]; simp
    have hll : ((A ++ g :: C).map bidC).length = pre.length + 1 := by simp; omega
    have hwk : (IntKind.wrap .i64 ((A.length : Int) - 1)).toNat = A.length - 1 := by simp at hl; rw [wrapI (by omega) (by omega)]; omega
    obtain ⟨y, hy, hyA⟩ : ∃ y : BidV, ((A ++ g :: C).map bidC).getD (A.length - 1) [] = [iv y.who, iv y.inst, iv y.frm, iv y.qty, iv y.price] ∧ ∀ A' z, A = A' ++ [z] → y = z := by
      rcases List.eq_nil_or_concat A with h | ⟨A', z, h⟩
      · subst h; exact ⟨g, rfl, fun A' z h => by simp at h⟩
      · obtain rfl : A = A' ++ [z] := by simpa using h
        refine ⟨z, ?_, fun A2 z2 h2 => (List.append_inj_right' h2 rfl |> List.cons.inj).1⟩
        rw [show A' ++ [z] ++ g :: C = A' ++ z :: (g :: C) by simp, List.map_append]
        exact gd_mid' (A := A'.map bidC) _ _ (by simp)
    refine awp_seq fun K5 hK5 => ?_
    refine awp_seq fun K6 hK6 => ?_
    refine awp_draw F_mixed [some 23, some 24, some 25, some 26, some 27, some 28, some 29, some 30, some 31, some 32, some 33, some 34, some 35, some 36, some 37] rfl (by kernel_rfl) ?_
    simp only [List.nil_append, List.cons_append, true_and, and_true, zz0, true_implies, Nat.reduceLT, Nat.reduceLeDiff, zzI, look_nil, Nat.reduceBEq, implies_true, Nat.reduceSub, S_getD, zz5, and_imp, imp_and, imp_self, and_self, evS_move, zz21, gr_v, zz25, evS_indexAddr, zz23, zz24, F_sl22, F_sz31, Option.map_some, zz16, Option.some.injEq, exists_eq_left', exists_eq_left, eq_self, reduceCtorEq, F_ok31, F_ag31, zz8, zzD, Nat.reduceAdd, Nat.zero_add, zzF, zzB, zzE, zz33, evS_call, evC_value, zz13, hgx, bids, bidC, getD_mid, len_map, lt_mid, ge_mid, D.agg.injEq, unDs_map, aV_get, hwk, hy, zzG, aV_len, hll, Int.toNat_natCast, zz6, Nat.reduceEqDiff, ↓reduceIte]
    have hg2 : decide ((A.length : Int) > 0) = true → 0 < A.length := fun hg => by have := of_decide_eq_true hg; omega
    have hl9 := hl
    simp only [List.length_append, List.length_cons] at hl9
    refine ⟨⟨fun hg => by have := hg2 hg; rw [wrapI (by omega) (by omega)]; omega, fun hg => by have := hg2 hg; rw [wrapI (by omega) (by omega)]; omega⟩, fun hg => by omega, ?_⟩
    refine call_go F_go34 (fun hG => ahead_ long x y) (by simp [AV.ids, AV.idsL]) (by simp) ?_
    simp only [List.nil_append, List.cons_append, true_and, and_true, zz0, true_implies, Nat.reduceLT, Nat.reduceLeDiff, zzI, look_nil, Nat.reduceBEq, implies_true, Nat.reduceSub, S_getD, zz5, and_imp, imp_and, imp_self, and_self, evS_move, zz21, gr_v, zz25, evS_indexAddr, zz23, zz24, F_sl22, F_sz31, Option.map_some, zz16, Option.some.injEq, exists_eq_left', exists_eq_left, eq_self, reduceCtorEq, F_ok31, F_ag31, zz8, zzD, Nat.reduceAdd, Nat.zero_add, zzF, zzB, zzE, zz33, evS_call, evC_value, zz13, hgx, bids, bidC, getD_mid, len_map, lt_mid, ge_mid, D.agg.injEq, unDs_map, aV_get, hwk, hy, zzG, aV_len, hll, Int.toNat_natCast, zz6, Nat.reduceEqDiff, ↓reduceIte, atsL, oksG, freeN, AV.ren, AV.renL, addRows, ORow.row, Nat.reduceMul, Nat.reduceAdd, zz9, Option.bind_some, Option.map_some, forall_eq', D.sl.injEq, S_mem, Option.some.injEq, exists_eq_left', exists_eq_left, exists_eq', exists_eq, List.length_cons, zz2]
    refine hK6 _ ?_; try clear hK6 K6
    refine awp_keepL [0, 1, 5, 6, 7, 37] ?_
    simp only [zz20, zzI, look_nil, Nat.reduceBEq]
    refine awp_condS _ (by decide) (by simp only [look_cons, Nat.reduceBEq, cond_true, cond_false]; rfl) ?_ ?_
    · intro hb
      have hAp : 0 < A.length ∧ bidLt long x y = true := by
        cases hd : decide ((A.length : Int) > 0) with
        | true => rw [hd] at hb; have := of_decide_eq_true hd; exact ⟨by omega, hb⟩
        | false => rw [hd] at hb; cases hb
      clear hb
      obtain ⟨A2, z, rfl⟩ : ∃ A2 z, A = A2 ++ [z] := by
        rcases List.eq_nil_or_concat A with h | ⟨A2, z, h⟩
        · subst h; simp at hAp
        · exact ⟨A2, z, by simpa using h⟩
      obtain rfl := hyA A2 z rfl
      have hC2 : ∀ b ∈ y :: C, bidLt long x b = true := fun b hb => by
        rcases List.mem_cons.1 hb with rfl | hb
        · exact hAp.2
        · exact hC b hb
      have hl9 := hl
      simp only [List.length_append, List.length_cons] at hl9
      have hA2 : (A2 ++ [y]).length = A2.length + 1 := by simp
      have hw7 : IntKind.wrap .i64 (((A2 ++ [y]).length : Int) - 1) = (A2.length : Int) := by rw [wrapI (by omega) (by omega)]; omega
      have gk : ((A2 ++ [y] ++ g :: C).map bidC).getD (A2 ++ [y]).length [] = [iv g.who, iv g.inst, iv g.frm, iv g.qty, iv g.price] := by
        rw [List.map_append]; exact gd_mid' (A := (A2 ++ [y]).map bidC) _ _ (by simp)
      have gy : ((A2 ++ [y] ++ g :: C).map bidC).getD A2.length [] = [iv y.who, iv y.inst, iv y.frm, iv y.qty, iv y.price] := by
        rw [show A2 ++ [y] ++ g :: C = A2 ++ y :: (g :: C) by simp, List.map_append]; exact gd_mid' (A := A2.map bidC) _ _ (by simp)
      have hset : (aV ((A2 ++ [y] ++ g :: C).map bidC)).set (A2 ++ [y]).length [AV.d (iv y.who), AV.d (iv y.inst), AV.d (iv y.frm), AV.d (iv y.qty), AV.d (iv y.price)] = aV ((A2 ++ y :: (y :: C)).map bidC) := by
        show (aV _).set _ ((bidC y).map AV.d) = _
        rw [aV_set, List.map_append, List.map_cons, st_mid' _ _ _ (by simp)]
        simp
      have b1 := ltI (show (A2 ++ [y]).length < pre.length + 1 by omega)
      have b2 := ltI (show A2.length < pre.length + 1 by omega)
      have c1 := eq_true (show (A2 ++ [y]).length < pre.length + 1 by omega)
      have c2 := eq_true (show A2.length < pre.length + 1 by omega)
      generalize hMM : (A2 ++ [y] ++ g :: C).map bidC = MM at gk gy hset hll ⊢
      refine awp_skip ?_
      simp only [zz6, Nat.reduceEqDiff, ↓reduceIte]
      refine hK5 _ ?_; try clear hK5 K5
      refine awp_keepL [0, 1, 5, 6, 7] ?_
      simp only [zz20, zzI, look_nil, Nat.reduceBEq]
      refine awp_seq fun K5 hK5 => ?_
      refine awp_block ?_
      refine awp_plain F_mixed [some 40, some 41, some 42, some 43, some 44, some 45, some 46, some 47, none] rfl ?_
      simp only [List.nil_append, List.cons_append, true_and, and_true, zz0, true_implies, Nat.reduceLT, Nat.reduceLeDiff, zzI, look_nil, Nat.reduceBEq, implies_true, evS_move, zz21, gr_v, zz33, evS_indexAddr, zz23, zz24, F_sl22, F_sz31, Option.map_some, zz16, Option.some.injEq, exists_eq_left', exists_eq_left, eq_self, reduceCtorEq, and_self, F_ok31, F_ag31, zz8, zzD, Nat.reduceAdd, Nat.zero_add, zzF, zzB, zzE, zz18, splice, List.append_nil, zz1, zzG, aV_len, aV_get, hll, hw7, gk, gy, hset, b1, b2, c1, c2, ge0, Int.toNat_natCast, Nat.le_refl, List.map_cons, zz6, Nat.reduceEqDiff, ↓reduceIte]
      refine hK5 _ ?_; try clear hK5 K5
      refine awp_keepL [0, 1, 5, 6, 7] ?_
      simp only [zz20, zzI, look_nil, Nat.reduceBEq]
      refine awp_plain F_mixed [some 38, some 39, some 7] rfl ?_
      simp only [List.nil_append, List.cons_append, true_and, and_true, zz0, true_implies, Nat.reduceLT, Nat.reduceLeDiff, zzI, look_nil, Nat.reduceBEq, implies_true, evS_move, zz21, gr_v, zz33, evS_assign, hw7, zz6, Nat.reduceEqDiff, ↓reduceIte]
      refine ⟨A2.length, _, by simp, le_SK id [] rfl (l' := [(0, bv long), (1, .d (bids (pre ++ x :: post))), (5, .ref 5 (pre.length + 1)), (6, .d (iv pre.length)), (7, .d (iv A2.length))]) (m' := [(5, (⟨True, 31, 5, true, true, 5, aV ((A2 ++ y :: (y :: C)).map bidC)⟩ : ARow))]) ?_ ?_ ?_ ?_, A2, y :: C, y, by simp [hBA], hC2, rfl, rfl⟩
      · simp only [leV, look_cons, Nat.reduceBEq, cond_true, cond_false, hw7]; exact ⟨VLe.refl _, VLe.refl _, VLe.refl _, VLe.refl _, VLe.refl _, trivial⟩
      · exact ⟨fun _ => ⟨_, rfl, RowLe.same (by rfl) (aV_ids _)⟩, fun h => by simp at h, trivial⟩
      · simp [wfV, AV.ids, lookR]
      · exact ⟨fun e he r' hr' => by rw [aV_ids _ e he] at hr'; simp at hr', trivial⟩
    · intro hb
      have hfin : A ++ x :: C = insX (bidLt long) x (A ++ C) := ins_doneB (bidLt_swo long) (by rw [← hBA]; exact hS) hC (by
        rcases List.eq_nil_or_concat A with h | ⟨A2, z, h⟩
        · exact .inl h
        · obtain rfl : A = A2 ++ [z] := by simpa using h
          obtain rfl := hyA A2 z rfl
          refine .inr ⟨A2, y, rfl, ?_⟩
          rw [show decide (((A2 ++ [y]).length : Int) > 0) = true from decide_eq_true (by simp <;> omega)] at hb
          exact hb)
      clear hb
      have hl9 := hl
      simp only [List.length_append, List.length_cons] at hl9
      have gk : ((A ++ g :: C).map bidC).getD A.length [] = [iv g.who, iv g.inst, iv g.frm, iv g.qty, iv g.price] := by
        rw [List.map_append]; exact gd_mid' (A := A.map bidC) _ _ (by simp)
      have hset : (aV ((A ++ g :: C).map bidC)).set A.length [AV.d (iv x.who), AV.d (iv x.inst), AV.d (iv x.frm), AV.d (iv x.qty), AV.d (iv x.price)] = aV ((A ++ x :: C).map bidC) := by
        show (aV _).set _ ((bidC x).map AV.d) = _
        rw [aV_set, List.map_append, List.map_cons, st_mid' _ _ _ (by simp)]
        simp
      have b1 := ltI (show A.length < pre.length + 1 by omega)
      have c1 := eq_true (show A.length < pre.length + 1 by omega)
      refine awp_exit ?_
      simp only [zz6, Nat.reduceEqDiff, ↓reduceIte]
      refine hK3 _ ?_; try clear hK3 K3
      refine awp_keepL [0, 1, 5, 6, 7] ?_
      simp only [zz20, zzI, look_nil, Nat.reduceBEq]
      refine awp_plain F_mixed [some 48, some 49, some 50, some 51, some 52, some 53, some 54, none] rfl ?_
      simp only [List.nil_append, List.cons_append, true_and, and_true, zz0, true_implies, Nat.reduceLT, Nat.reduceLeDiff, zzI, look_nil, Nat.reduceBEq, implies_true, evS_move, evS_indexAddr, zz23, zz24, F_sl22, F_sz31, Option.map_some, zz16, Option.some.injEq, exists_eq_left', exists_eq_left, eq_self, reduceCtorEq, and_self, F_ok31, F_ag31, zz8, zzD, Nat.reduceAdd, Nat.zero_add, zzF, zzB, zzE, zz18, splice, List.append_nil, zz1, zzG, bids, bidC, getD_mid, len_map, lt_mid, ge_mid, D.agg.injEq, hgx, aV_len, aV_get, hll, gk, hset, b1, c1, ge0, Int.toNat_natCast, Nat.le_refl, List.map_cons, zz6, Nat.reduceEqDiff, ↓reduceIte]
      refine hK2 _ ?_; try clear hK2 K2
      refine awp_keepL [0, 1, 5, 6] ?_
      simp only [zz20, zzI, look_nil, Nat.reduceBEq]
      refine awp_plain F_mixed [some 12, some 13, some 6] rfl ?_
      simp only [List.nil_append, List.cons_append, true_and, and_true, zz0, true_implies, Nat.reduceLT, Nat.reduceLeDiff, zzI, look_nil, Nat.reduceBEq, implies_true, evS_move, zz21, gr_v, zz26, evS_assign, zz6, Nat.reduceEqDiff, ↓reduceIte]
      refine ⟨post.length, _, by simp, le_SK id [] rfl (l' := [(0, bv long), (1, .d (bids (pre ++ x :: post))), (5, .ref 5 (pre ++ [x]).length), (6, .d (iv (pre ++ [x]).length))]) (m' := [(5, (⟨True, 31, 5, true, true, 5, aV ((isort (bidLt long) (pre ++ [x])).map bidC)⟩ : ARow))]) ?_ ?_ ?_ ?_, pre ++ [x], post, by simp, rfl, rfl⟩
      · simp only [leV, look_cons, Nat.reduceBEq, cond_true, cond_false, bids, len_map, wrap_len pre x (by simp at hl; omega), List.length_append, List.length_singleton]; exact ⟨VLe.refl _, VLe.refl _, VLe.refl _, VLe.refl _, trivial⟩
      · exact ⟨fun _ => ⟨_, rfl, RowLe.same (by rw [isort_snoc, hBB, hBA, hfin]) (aV_ids _)⟩, fun h => by simp at h, trivial⟩
      · simp [wfV, AV.ids, lookR]
      · exact ⟨fun e he r' hr' => by rw [aV_ids _ e he] at hr'; simp at hr', trivial⟩
  · intro hb
    obtain rfl := none_of hb; clear hb
    refine awp_exit ?_
    simp only [zz6, Nat.reduceEqDiff, ↓reduceIte]
    refine hK0 _ ?_; try clear hK0 K0
    refine awp_keepL [5] ?_
    simp only [zz20, zzI, look_nil, Nat.reduceBEq]
    refine awp_seq fun K0 hK0 => ?_
    refine awp_plain F_mixed [some 55, some 4] rfl ?_
    simp only [List.nil_append, List.cons_append, true_and, and_true, zz0, true_implies, Nat.reduceLT, Nat.reduceLeDiff, zzI, look_nil, Nat.reduceBEq, implies_true, evS_move, evS_assign, zz6, Nat.reduceEqDiff, ↓reduceIte]
    refine hK0 _ ?_; try clear hK0 K0
    refine awp_keepL [4] ?_
    simp only [zz20, zzI, look_nil, Nat.reduceBEq]
    refine awp_ret ?_
    simp only [zz6, Nat.reduceEqDiff, ↓reduceIte]
    try simp only [List.append_nil]
    refine done1 5 (by simp only [resCs, resC]; trivial) ?_ (by simp [flatA, flatAs, flatD, bidC]) (by simp [AV.ids, AV.idsL, bidC]) (by rfl) trivial rfl rfl ?_ (by simp [flatDs, flatD, bidC])
    · simp only [List.map_cons, List.map_nil, resA, S_getD, Nat.reduceLT, Nat.reduceLeDiff, look_cons, Nat.reduceBEq, cond_true, cond_false, resAll]; rfl
    · rfl
theorem rOrderF (long : Bool) (l : List BidV) (hl : l.length ≤ 1000000) : ACalls Try.prog 17 [.v (.bool long), bids l] [] (.d (bids (bidOrder long l))) :=
  (rOrder_ long l hl).freeze (by simp [frzOk, bidOrder_len])
set_option maxRecDepth 100000 in
set_option maxHeartbeats 4000000 in
theorem rFill_ (q : Int) (l : List BidV) (hl : l.length ≤ 1000000) : ACalls Try.prog 18 [iv q, bids l] [⟨33, 3, (filV q l).map fillC⟩] (.tp [.ref 0 (filV q l).length, .d (iv (filR q l)), .d (iv (filE q l))]) := by
  refine acalls_S (rs := [.tmp 4, .tmp 5, .tmp 6]) Try.func18 rfl rfl 83 [(0, .d (iv q)), (1, .d (bids l))] rfl (by simp) rfl ?_
  refine awp_seq fun K0 hK0 => ?_
  refine awp_plain F_mixed [some 4, some 5, some 6] rfl ?_
  simp only [List.nil_append, List.cons_append, true_and, and_true, zz0, true_implies, Nat.reduceLT, Nat.reduceLeDiff, zzI, look_nil, Nat.reduceBEq, implies_true, evS_assign, zz6, Nat.reduceEqDiff, ↓reduceIte]
  refine hK0 _ ?_; try clear hK0 K0
  refine awp_keepL [0, 1] ?_
  simp only [zz20, zzI, look_nil, Nat.reduceBEq]
  refine awp_seq fun K0 hK0 => ?_
  refine awp_seq fun K1 hK1 => ?_
  refine awp_plain F_mixed [some 13, some 14, some 15] rfl ?_
  simp only [List.nil_append, List.cons_append, true_and, and_true, zz0, true_implies, Nat.reduceLT, Nat.reduceLeDiff, zzI, look_nil, Nat.reduceBEq, implies_true, evS_move, evS_call, evC_value, zz29, gr_v, zz30, zz6, Nat.reduceEqDiff, ↓reduceIte]
  refine call_go F_go35 (fun hG => rIn19_ q (-1099511627776) 1099511627776) (by simp [AV.ids, AV.idsL]) (by simp) ?_
  simp only [List.nil_append, List.cons_append, true_and, and_true, zz0, true_implies, Nat.reduceLT, Nat.reduceLeDiff, zzI, look_nil, Nat.reduceBEq, implies_true, evS_move, evS_call, evC_value, zz29, gr_v, zz30, zz6, Nat.reduceEqDiff, ↓reduceIte, atsL, oksG, freeN, AV.ren, AV.renL, addRows, ORow.row, Nat.reduceMul, Nat.reduceAdd, zz9, Option.bind_some, Option.map_some, forall_eq', D.sl.injEq, zz16, Option.some.injEq, exists_eq_left', exists_eq_left, exists_eq', exists_eq, zzD, zz2]
  refine hK1 _ ?_; try clear hK1 K1
  refine awp_keepL [0, 1, 15] ?_
  simp only [zz20, zzI, look_nil, Nat.reduceBEq]
  refine awp_condS _ (by decide) (by simp only [look_cons, Nat.reduceBEq, cond_true, cond_false]; rfl) ?_ ?_
  · intro hb
    have hq0 : inR q (-1099511627776) 1099511627776 = false := by simpa using hb
    clear hb
    have hbad : fillBad q l = true := by simp only [fillBad, hq0]; rfl
    refine awp_seq fun K2 hK2 => ?_
    refine awp_plain F_mixed [some 4, some 5, some 6] rfl ?_
    simp only [List.nil_append, List.cons_append, true_and, and_true, zz0, true_implies, Nat.reduceLT, Nat.reduceLeDiff, zzI, look_nil, Nat.reduceBEq, implies_true, evS_assign, zz6, Nat.reduceEqDiff, ↓reduceIte]
    refine hK2 _ ?_; try clear hK2 K2
    refine awp_keepL [4, 5, 6] ?_
    simp only [zz20, zzI, look_nil, Nat.reduceBEq]
    refine awp_le (le_SK id [0] rfl (l' := [(4, .ref 0 0), (5, .d (iv 0)), (6, .d (iv 3))]) (m' := [(0, (⟨True, 33, 3, true, true, 0, []⟩ : ARow))]) ?_ ?_ ?_ ?_) ?_
    · simp only [leV, look_cons, Nat.reduceBEq, cond_true, cond_false]; exact ⟨VLe.nil_ (by decide), VLe.still rfl, VLe.still rfl, trivial⟩
    · exact ⟨fun h => by simp at h, fun _ => rfl, trivial⟩
    · simp [wfV, AV.ids, lookR]
    · simp [wfR]
    refine awp_ret ?_
    simp only [zz6, Nat.reduceEqDiff, ↓reduceIte]
    have e1 : filV q l = [] := by simp only [filV, hbad, cond_true]
    have e2 : filR q l = 0 := by simp only [filR, hbad, cond_true]
    have e3 : filE q l = 3 := by simp only [filE, hbad, cond_true]
    rw [e1, e2, e3]
    refine done1 0 (by simp only [resCs, resC]; trivial) ?_ (by simp [flatA, flatAs, flatD]) (by simp [AV.ids, AV.idsL]) (by rfl) trivial rfl rfl ?_ (by simp [flatDs, flatD])
    · simp only [List.map_cons, List.map_nil, resA, S_getD, Nat.reduceLT, Nat.reduceLeDiff, look_cons, Nat.reduceBEq, cond_true, cond_false, resAll]; rfl
    · rfl
  · intro hb
    have hq0 : inR q (-1099511627776) 1099511627776 = true := by simpa using hb
    clear hb
    refine awp_skip ?_
    simp only [zz6, Nat.reduceEqDiff, ↓reduceIte]
    refine hK0 _ ?_; try clear hK0 K0
    refine awp_keepL [0, 1] ?_
    simp only [zz20, zzI, look_nil, Nat.reduceBEq]
    refine awp_seq fun K0 hK0 => ?_
    refine awp_seq fun K1 hK1 => ?_
    refine awp_plain F_mixed [some 7] rfl ?_
    simp only [List.nil_append, List.cons_append, true_and, and_true, zz0, true_implies, Nat.reduceLT, Nat.reduceLeDiff, zzI, look_nil, Nat.reduceBEq, implies_true, evS_assign, zz6, Nat.reduceEqDiff, ↓reduceIte]
    refine hK1 _ ?_; try clear hK1 K1
    refine awp_keepL [0, 1, 7] ?_
    simp only [zz20, zzI, look_nil, Nat.reduceBEq]
    refine awp_block ?_
    refine awp_loop (fun m s => ∃ pre post : List BidV, l = pre ++ post ∧ pre.all bidOk = true ∧ m = post.length ∧ s = S 83 [(0, .d (iv q)), (1, .d (bids l)), (7, .d (iv pre.length))] []) l.length _ (le_SK id [] rfl (l' := [(0, .d (iv q)), (1, .d (bids l)), (7, .d (iv ([] : List BidV).length))]) (m' := []) ?_ ?_ ?_ ?_) ⟨[], l, rfl, rfl, rfl, rfl⟩ ?_
    · simp only [leV, look_cons, Nat.reduceBEq, cond_true, cond_false, bids, len_map]; exact ⟨VLe.refl _, VLe.refl _, VLe.refl _, trivial⟩
    · exact trivial
    · simp [wfV, AV.ids, AV.idsL, lookR]
    · simp [wfR, AV.idsL, AV.ids]
    rintro m s ⟨pre, post, rfl, hp, rfl, rfl⟩
    refine awp_seq fun K2 hK2 => ?_
    refine awp_seq fun K3 hK3 => ?_
    refine awp_plain F_mixed [some 16, some 17, some 18, some 19] rfl ?_
    simp only [List.nil_append, List.cons_append, true_and, and_true, zz0, true_implies, Nat.reduceLT, Nat.reduceLeDiff, zzI, look_nil, Nat.reduceBEq, implies_true, evS_move, evS_call, zz12, F_sl22, Option.isSome_some, zz21, gr_v, zz22, bids, len_map, zz6, Nat.reduceEqDiff, ↓reduceIte]
    refine hK3 _ ?_; try clear hK3 K3
    refine awp_keepL [0, 1, 7, 19] ?_
    simp only [zz20, zzI, look_nil, Nat.reduceBEq]
    refine awp_condS _ (by decide) (by simp only [look_cons, Nat.reduceBEq, cond_true, cond_false]; rfl) ?_ ?_
    · intro hb
      obtain ⟨x, post, rfl⟩ := more_of hb; clear hb
      refine awp_skip ?_
      simp only [zz6, Nat.reduceEqDiff, ↓reduceIte]
      refine hK2 _ ?_; try clear hK2 K2
      refine awp_keepL [0, 1, 7] ?_
      simp only [zz20, zzI, look_nil, Nat.reduceBEq]
      refine awp_seq fun K2 hK2 => ?_
      refine awp_block ?_
      refine awp_seq fun K3 hK3 => ?_
      refine awp_plain F_mixed [some 22, some 23, some 24, some 25, some 26, some 27, some 28, some 29, some 30, some 31, some 32, some 33, some 34, some 35, some 36, some 37] rfl ?_
      simp only [List.nil_append, List.cons_append, true_and, and_true, zz0, true_implies, Nat.reduceLT, Nat.reduceLeDiff, zzI, look_nil, Nat.reduceBEq, implies_true, Nat.reduceSub, S_getD, zz5, and_imp, imp_and, imp_self, and_self, evS_move, evS_indexAddr, zz23, zz24, F_sl22, F_sz31, Option.map_some, zz16, Option.some.injEq, exists_eq_left', exists_eq_left, eq_self, reduceCtorEq, zz19, F_off31_2, zzB, Nat.zero_add, Nat.reduceAdd, F_ok3, F_ag3, F_sz3, zz8, zzD, zzF, zzE, evS_call, evC_value, zz29, gr_v, zz30, F_off31_3, zz13, bids, bidC, getD_mid, len_map, lt_mid, ge_mid, zz6, Nat.reduceEqDiff, ↓reduceIte]
      refine call_go F_go35 (fun hG => rIn19_ x.qty 1 1048576) (by simp [AV.ids, AV.idsL]) (by simp) ?_
      simp only [List.nil_append, List.cons_append, true_and, and_true, zz0, true_implies, Nat.reduceLT, Nat.reduceLeDiff, zzI, look_nil, Nat.reduceBEq, implies_true, Nat.reduceSub, S_getD, zz5, and_imp, imp_and, imp_self, and_self, evS_move, evS_indexAddr, zz23, zz24, F_sl22, F_sz31, Option.map_some, zz16, Option.some.injEq, exists_eq_left', exists_eq_left, eq_self, reduceCtorEq, zz19, F_off31_2, zzB, Nat.zero_add, Nat.reduceAdd, F_ok3, F_ag3, F_sz3, zz8, zzD, zzF, zzE, evS_call, evC_value, zz29, gr_v, zz30, F_off31_3, zz13, bids, bidC, getD_mid, len_map, lt_mid, ge_mid, zz6, Nat.reduceEqDiff, ↓reduceIte, atsL, oksG, freeN, AV.ren, AV.renL, addRows, ORow.row, Nat.reduceMul, Nat.reduceAdd, zz9, Option.bind_some, Option.map_some, forall_eq', D.sl.injEq, S_mem, Option.some.injEq, exists_eq_left', exists_eq_left, exists_eq', exists_eq, List.length_cons, zz2]
      refine call_go F_go35 (fun hG => rIn19_ x.price 1 1073741824) (by simp [AV.ids, AV.idsL]) (by simp) ?_
      simp only [List.nil_append, List.cons_append, true_and, and_true, zz0, true_implies, Nat.reduceLT, Nat.reduceLeDiff, zzI, look_nil, Nat.reduceBEq, implies_true, Nat.reduceSub, S_getD, zz5, and_imp, imp_and, imp_self, and_self, evS_move, evS_indexAddr, zz23, zz24, F_sl22, F_sz31, Option.map_some, zz16, Option.some.injEq, exists_eq_left', exists_eq_left, eq_self, reduceCtorEq, zz19, F_off31_2, zzB, Nat.zero_add, Nat.reduceAdd, F_ok3, F_ag3, F_sz3, zz8, zzD, zzF, zzE, evS_call, evC_value, zz29, gr_v, zz30, F_off31_3, zz13, bids, bidC, getD_mid, len_map, lt_mid, ge_mid, zz6, Nat.reduceEqDiff, ↓reduceIte, atsL, oksG, freeN, AV.ren, AV.renL, addRows, ORow.row, Nat.reduceMul, Nat.reduceAdd, zz9, Option.bind_some, Option.map_some, forall_eq', D.sl.injEq, S_mem, Option.some.injEq, exists_eq_left', exists_eq_left, exists_eq', exists_eq, List.length_cons, zz2]
      refine hK3 _ ?_; try clear hK3 K3
      refine awp_keepL [0, 1, 7, 37] ?_
      simp only [zz20, zzI, look_nil, Nat.reduceBEq]
      refine awp_condS _ (by decide) (by simp only [look_cons, Nat.reduceBEq, cond_true, cond_false]; rfl) ?_ ?_
      · intro hb
        have hq : bidOk x = false := by
          simp only [bidOk]
          cases h1 : inR x.qty 1 1048576 <;> cases h2 : inR x.price 1 1073741824 <;> simp [h1, h2] at hb ⊢
        try clear hb
        have hbad : fillBad q (pre ++ x :: post) = true := by simp [fillBad, hq]
        refine awp_seq fun K4 hK4 => ?_
        refine awp_plain F_mixed [some 4, some 5, some 6] rfl ?_
        simp only [List.nil_append, List.cons_append, true_and, and_true, zz0, true_implies, Nat.reduceLT, Nat.reduceLeDiff, zzI, look_nil, Nat.reduceBEq, implies_true, evS_assign, zz6, Nat.reduceEqDiff, ↓reduceIte]
        refine hK4 _ ?_; try clear hK4 K4
        refine awp_keepL [4, 5, 6] ?_
        simp only [zz20, zzI, look_nil, Nat.reduceBEq]
        refine awp_le (le_SK id [0] rfl (l' := [(4, .ref 0 0), (5, .d (iv 0)), (6, .d (iv 3))]) (m' := [(0, (⟨True, 33, 3, true, true, 0, []⟩ : ARow))]) ?_ ?_ ?_ ?_) ?_
        · simp only [leV, look_cons, Nat.reduceBEq, cond_true, cond_false]; exact ⟨VLe.nil_ (by decide), VLe.still rfl, VLe.still rfl, trivial⟩
        · exact ⟨fun h => by simp at h, fun _ => rfl, trivial⟩
        · simp [wfV, AV.ids, lookR]
        · simp [wfR]
        refine awp_ret ?_
        simp only [zz6, Nat.reduceEqDiff, ↓reduceIte]
        have e1 : filV q (pre ++ x :: post) = [] := by simp only [filV, hbad, cond_true]
        have e2 : filR q (pre ++ x :: post) = 0 := by simp only [filR, hbad, cond_true]
        have e3 : filE q (pre ++ x :: post) = 3 := by simp only [filE, hbad, cond_true]
        rw [e1, e2, e3]
        refine done1 0 (by simp only [resCs, resC]; trivial) ?_ (by simp [flatA, flatAs, flatD]) (by simp [AV.ids, AV.idsL]) (by rfl) trivial rfl rfl ?_ (by simp [flatDs, flatD])
        · simp only [List.map_cons, List.map_nil, resA, S_getD, Nat.reduceLT, Nat.reduceLeDiff, look_cons, Nat.reduceBEq, cond_true, cond_false, resAll]; rfl
        · rfl
      · intro hb
        have hq : bidOk x = true := by
          simp only [bidOk]
          cases h1 : inR x.qty 1 1048576 <;> cases h2 : inR x.price 1 1073741824 <;> simp [h1, h2] at hb ⊢
        clear hb
        refine awp_skip ?_
        simp only [zz6, Nat.reduceEqDiff, ↓reduceIte]
        refine hK2 _ ?_; try clear hK2 K2
        refine awp_keepL [0, 1, 7] ?_
        simp only [zz20, zzI, look_nil, Nat.reduceBEq]
        refine awp_plain F_mixed [some 20, some 21, some 7] rfl ?_
        simp only [List.nil_append, List.cons_append, true_and, and_true, zz0, true_implies, Nat.reduceLT, Nat.reduceLeDiff, zzI, look_nil, Nat.reduceBEq, implies_true, evS_move, zz21, gr_v, zz26, evS_assign, zz6, Nat.reduceEqDiff, ↓reduceIte]
        refine ⟨post.length, _, by simp, le_SK id [] rfl (l' := [(0, .d (iv q)), (1, .d (bids (pre ++ x :: post))), (7, .d (iv (pre ++ [x]).length))]) (m' := []) ?_ ?_ ?_ ?_, pre ++ [x], post, by simp, by simp [hp, hq], rfl, rfl⟩
        · simp only [leV, look_cons, Nat.reduceBEq, cond_true, cond_false, bids, len_map, wrap_len pre x (by simp at hl; omega)]; exact ⟨VLe.refl _, VLe.refl _, VLe.refl _, trivial⟩
        · exact trivial
        · simp [wfV, AV.ids, AV.idsL, lookR]
        · simp [wfR, AV.idsL, AV.ids]
    · intro hb
      obtain rfl := none_of hb; clear hb
      simp only [List.append_nil] at hl ⊢
      have hrg := hq0
      simp only [inR, Bool.and_eq_true, decide_eq_true_eq] at hrg
      have hwq : IntKind.wrap .i64 (0 - q) = 0 - q := wrapI (by omega) (by omega)
      have hab : (if 0 - q > q then 0 - q else q) = absQ q := rfl
      have haq : 0 ≤ absQ q ∧ absQ q ≤ 1099511627776 := by simp only [absQ]; split <;> omega
      have hgood : fillBad q pre = false := by simp only [fillBad, hq0, hp]; rfl
      have e1 : filV q (pre ++ []) = fillsF (absQ q) (bidOrder (decide (q > 0)) pre) := by simp only [List.append_nil, filV, hgood, cond_false]
      have e2 : filR q (pre ++ []) = restF (absQ q) (bidOrder (decide (q > 0)) pre) := by simp only [List.append_nil, filR, hgood, cond_false]
      have e3 : filE q (pre ++ []) = 0 := by simp only [List.append_nil, filE, hgood, cond_false]
      have hOk := bidOrder_all (long := decide (q > 0)) hp
      have hOl := bidOrder_len (decide (q > 0)) pre
      refine awp_exit ?_
      simp only [zz6, Nat.reduceEqDiff, ↓reduceIte]
      refine hK0 _ ?_; try clear hK0 K0
      refine awp_keepL [0, 1] ?_
      simp only [zz20, zzI, look_nil, Nat.reduceBEq]
      refine awp_seq fun K0 hK0 => ?_
      refine awp_plain F_mixed [some 38, some 39, some 40, some 41, some 8] rfl ?_
      simp only [List.nil_append, List.cons_append, true_and, and_true, zz0, true_implies, Nat.reduceLT, Nat.reduceLeDiff, zzI, look_nil, Nat.reduceBEq, implies_true, evS_move, zz29, gr_v, zz37, evS_call, zz11, grsL, Option.bind_some, Option.map_some, oksL, evS_assign, hwq, hab, zz6, Nat.reduceEqDiff, ↓reduceIte]
      refine hK0 _ ?_; try clear hK0 K0
      refine awp_keepL [0, 1, 8] ?_
      simp only [zz20, zzI, look_nil, Nat.reduceBEq]
      refine awp_seq fun K0 hK0 => ?_
      refine awp_plain F_mixed [some 42, some 43, some 44, some 45, some 9] rfl ?_
      simp only [List.nil_append, List.cons_append, true_and, and_true, zz0, true_implies, Nat.reduceLT, Nat.reduceLeDiff, zzI, look_nil, Nat.reduceBEq, implies_true, evS_move, zz21, gr_v, zz25, evS_call, evC_value, evS_assign, bids, len_map, zz6, Nat.reduceEqDiff, ↓reduceIte]
      refine call_go F_go17 (fun hG => rOrderF (decide (q > 0)) pre (by omega)) (by simp [AV.ids, AV.idsL]) (by simp) ?_
      simp only [List.nil_append, List.cons_append, true_and, and_true, zz0, true_implies, Nat.reduceLT, Nat.reduceLeDiff, zzI, look_nil, Nat.reduceBEq, implies_true, evS_move, zz21, gr_v, zz25, evS_call, evC_value, evS_assign, bids, len_map, zz6, Nat.reduceEqDiff, ↓reduceIte, atsL, oksG, freeN, AV.ren, AV.renL, addRows, ORow.row, Nat.reduceMul, Nat.reduceAdd, zz9, Option.bind_some, Option.map_some, forall_eq', D.sl.injEq, zz16, Option.some.injEq, exists_eq_left', exists_eq_left, exists_eq', exists_eq, zzD, zz2]
      generalize bidOrder (decide (q > 0)) pre = O at hOk hOl e1 e2 ⊢
      have hO6 : O.length ≤ 1000000 := by omega
      refine hK0 _ ?_; try clear hK0 K0
      refine awp_keepL [8, 9] ?_
      simp only [zz20, zzI, look_nil, Nat.reduceBEq]
      refine awp_seq fun K0 hK0 => ?_
      refine awp_plain F_mixed [some 10] rfl ?_
      simp only [List.nil_append, List.cons_append, true_and, and_true, zz0, true_implies, Nat.reduceLT, Nat.reduceLeDiff, zzI, look_nil, Nat.reduceBEq, implies_true, evS_assign, zz6, Nat.reduceEqDiff, ↓reduceIte]
      refine hK0 _ ?_; try clear hK0 K0
      refine awp_keepL [8, 9, 10] ?_
      simp only [zz20, zzI, look_nil, Nat.reduceBEq]
      refine awp_seq fun K0 hK0 => ?_
      refine awp_seq fun K1 hK1 => ?_
      refine awp_plain F_mixed [some 11] rfl ?_
      simp only [List.nil_append, List.cons_append, true_and, and_true, zz0, true_implies, Nat.reduceLT, Nat.reduceLeDiff, zzI, look_nil, Nat.reduceBEq, implies_true, evS_assign, zz6, Nat.reduceEqDiff, ↓reduceIte]
      refine hK1 _ ?_; try clear hK1 K1
      refine awp_keepL [8, 9, 10, 11] ?_
      simp only [zz20, zzI, look_nil, Nat.reduceBEq]
      refine awp_block ?_
      refine awp_loop (fun m s => ∃ pre post : List BidV, O = pre ++ post ∧ m = post.length ∧ s = S 83 [(8, .d (iv (restF (absQ q) pre))), (9, .d (bids O)), (10, .ref 10 (fillsF (absQ q) pre).length), (11, .d (iv pre.length))] [(10, grow 33 3 10 ((fillsF (absQ q) pre).map fillC))]) O.length _ (le_SK id [10] rfl (l' := [(8, .d (iv (restF (absQ q) ([] : List BidV)))), (9, .d (bids O)), (10, .ref 10 (fillsF (absQ q) ([] : List BidV)).length), (11, .d (iv ([] : List BidV).length))]) (m' := [(10, grow 33 3 10 ((fillsF (absQ q) ([] : List BidV)).map fillC))]) ?_ ?_ ?_ ?_) ⟨[], O, rfl, rfl, rfl⟩ ?_
      · simp only [leV, look_cons, Nat.reduceBEq, cond_true, cond_false, bids, len_map]; exact ⟨VLe.still rfl, VLe.still rfl, VLe.nil_ (by decide), VLe.still rfl, trivial⟩
      · exact ⟨fun h => by simp at h, fun _ => rfl, trivial⟩
      · simp [wfV, AV.ids, lookR]
      · simp [wfR, grow, fillsF, AV.idsL, AV.ids]
      clear hOl
      rintro m s ⟨pre, post, rfl, rfl, rfl⟩
      have hpl := fillsF_len (absQ q) pre
      have hOk2 := hOk
      simp only [List.all_append, Bool.and_eq_true] at hOk2
      have hrn := restF_nn haq.1 haq.2 hOk2.1
      refine awp_seq fun K2 hK2 => ?_
      refine awp_seq fun K3 hK3 => ?_
      refine awp_plain F_mixed [some 46, some 47, some 48, some 49, some 50, some 51, some 52, some 53] rfl ?_
      simp only [List.nil_append, List.cons_append, true_and, and_true, zz0, true_implies, Nat.reduceLT, Nat.reduceLeDiff, zzI, look_nil, Nat.reduceBEq, implies_true, Nat.reduceSub, S_getD, zz5, and_imp, imp_and, imp_self, and_self, evS_move, evS_call, zz12, F_sl22, Option.isSome_some, zz21, gr_v, zz22, zz25, zz13, bids, len_map, zz6, Nat.reduceEqDiff, ↓reduceIte]
      refine hK3 _ ?_; try clear hK3 K3
      refine awp_keepL [8, 9, 10, 11, 53] ?_
      simp only [zz20, zzI, look_nil, Nat.reduceBEq]
      refine awp_condS _ (by decide) (by simp only [look_cons, Nat.reduceBEq, cond_true, cond_false]; rfl) ?_ ?_
      · intro hb
        have hmo : post ≠ [] ∧ 0 < restF (absQ q) pre := by
          cases hd : decide ((pre.length : Int) < ((pre ++ post).length : Int)) with
          | true =>
            rw [hd] at hb
            exact ⟨fun h => by subst h; simp at hd, of_decide_eq_true hb⟩
          | false => rw [hd] at hb; cases hb
        clear hb
        obtain ⟨x, post, rfl⟩ : ∃ x t, post = x :: t := by
          cases post with
          | nil => exact absurd rfl hmo.1
          | cons x t => exact ⟨x, t, rfl⟩
        have hmn : (if x.qty < restF (absQ q) pre then x.qty else restF (absQ q) pre) = mn2 (restF (absQ q) pre) x.qty := rfl
        have hxk := hOk2.2
        simp only [List.all_cons, Bool.and_eq_true] at hxk
        have hxk := hxk.1
        simp only [bidOk, inR, Bool.and_eq_true, decide_eq_true_eq] at hxk
        have hs : decide (mn2 (restF (absQ q) pre) x.qty > 0) = true := by simp only [mn2]; apply decide_eq_true; split <;> omega
        have hwr : IntKind.wrap .i64 (restF (absQ q) pre - mn2 (restF (absQ q) pre) x.qty) = restF (absQ q) pre - mn2 (restF (absQ q) pre) x.qty := by
          simp only [mn2]
          split <;> exact wrapI (by omega) (by omega)
        refine awp_skip ?_
        simp only [zz6, Nat.reduceEqDiff, ↓reduceIte]
        refine hK2 _ ?_; try clear hK2 K2
        refine awp_keepL [8, 9, 10, 11] ?_
        simp only [zz20, zzI, look_nil, Nat.reduceBEq]
        refine awp_seq fun K2 hK2 => ?_
        refine awp_block ?_
        refine awp_seq fun K3 hK3 => ?_
        refine awp_plain F_mixed [some 56, some 57, some 58, some 59, some 60, some 61, some 62, some 12] rfl ?_
        simp only [List.nil_append, List.cons_append, true_and, and_true, zz0, true_implies, Nat.reduceLT, Nat.reduceLeDiff, zzI, look_nil, Nat.reduceBEq, implies_true, evS_move, evS_indexAddr, zz23, zz24, F_sl22, F_sz31, Option.map_some, zz16, Option.some.injEq, exists_eq_left', exists_eq_left, eq_self, reduceCtorEq, and_self, zz19, F_off31_2, zzB, Nat.zero_add, Nat.reduceAdd, F_ok3, F_ag3, F_sz3, zz8, zzD, zzF, zzE, evS_call, evC_min, mxK_some, mnK_some, grsL, gr_v, Option.bind_some, oksL, pure_min, mn_int, evS_assign, bids, bidC, getD_mid, len_map, lt_mid, ge_mid, hmn, zz6, Nat.reduceEqDiff, ↓reduceIte]
        refine hK3 _ ?_; try clear hK3 K3
        refine awp_keepL [8, 9, 10, 11, 12] ?_
        simp only [zz20, zzI, look_nil, Nat.reduceBEq]
        refine awp_seq fun K3 hK3 => ?_
        refine awp_plain F_mixed [some 63, some 64, some 65, some 8] rfl ?_
        simp only [List.nil_append, List.cons_append, true_and, and_true, zz0, true_implies, Nat.reduceLT, Nat.reduceLeDiff, zzI, look_nil, Nat.reduceBEq, implies_true, evS_move, zz21, gr_v, zz33, evS_assign, hwr, zz6, Nat.reduceEqDiff, ↓reduceIte]
        refine hK3 _ ?_; try clear hK3 K3
        refine awp_keepL [8, 9, 10, 11, 12] ?_
        simp only [zz20, zzI, look_nil, Nat.reduceBEq]
        refine awp_draw F_mixed [some 66, some 67, some 68, some 69, some 70, some 71, some 72, some 73, some 74, some 75, some 76, some 77, some 78, some 79, some 80, some 10] rfl (by kernel_rfl) ?_
        simp only [List.nil_append, List.cons_append, true_and, and_true, zz0, true_implies, Nat.reduceLT, Nat.reduceLeDiff, zzI, look_nil, Nat.reduceBEq, implies_true, evS_move, evS_indexAddr, zz23, zz24, F_sl22, F_sz31, Option.map_some, zz16, Option.some.injEq, exists_eq_left', exists_eq_left, eq_self, reduceCtorEq, and_self, zz19, F_off31_1, zzB, Nat.zero_add, Nat.reduceAdd, F_ok3, F_ag3, F_sz3, zz8, zzD, zzF, zzE, F_off31_3, F_zero33, F_bld33, zz7, splice, Option.getD_some, List.append_nil, zz1, zzG, zz10, F_fld33_0, F_fld33_1, F_fld33_2, F_sl23, F_sz33, zz3, newRow1, maxLen_le, Nat.reduceMul, evS_call, F_by33, zz4, zz9, Option.bind_some, evS_assign, bids, bidC, getD_mid, len_map, lt_mid, ge_mid, grow, D.agg.injEq, unDs_map, zz6, Nat.reduceEqDiff, ↓reduceIte]
        have hm : (fillsF (absQ q) pre).length + 1 ≤ 1000000 := by simp at hO6; omega
        first | refine ⟨le_maxLen hm, by omega, ?_⟩ | refine ⟨by simp, le_maxLen hm, by omega, ?_⟩
        clear hm
        refine hK2 _ ?_; try clear hK2 K2
        refine awp_keepL [8, 9, 10, 11] ?_
        simp only [zz20, zzI, look_nil, Nat.reduceBEq]
        refine awp_plain F_mixed [some 54, some 55, some 11] rfl ?_
        simp only [List.nil_append, List.cons_append, true_and, and_true, zz0, true_implies, Nat.reduceLT, Nat.reduceLeDiff, zzI, look_nil, Nat.reduceBEq, implies_true, evS_move, zz21, gr_v, zz26, evS_assign, zz6, Nat.reduceEqDiff, ↓reduceIte]
        refine ⟨post.length, _, by simp, le_SK (fun r => bif r == 10 then 80 else r) [] rfl (l' := [(8, .d (iv (restF (absQ q) (pre ++ [x])))), (9, .d (bids (pre ++ x :: post))), (10, .ref 10 (fillsF (absQ q) (pre ++ [x])).length), (11, .d (iv (pre ++ [x]).length))]) (m' := [(10, grow 33 3 10 ((fillsF (absQ q) (pre ++ [x])).map fillC))]) ?_ ?_ ?_ ?_, pre ++ [x], post, by simp, rfl, rfl⟩
        · simp only [leV, look_cons, Nat.reduceBEq, cond_true, cond_false, bids, len_map, wrap_len pre x (by simp at hO6; omega), restF_snoc]
          refine ⟨VLe.still rfl, VLe.still rfl, ?_, VLe.still rfl, trivial⟩
          rw [fillsF_snoc, hs]
          rw [show (AV.ref 80 _ : AV) = .ref ((fun r => bif r == 10 then 80 else r) 10) (fillsF (absQ q) pre ++ [(⟨x.frm, mn2 (restF (absQ q) pre) x.qty, x.price⟩ : FillV)]).length from by simp]; try exact VLe.ref_ (f := (fun r => bif r == 10 then 80 else r)) (r := 10) (by simp)
        · exact ⟨fun _ => ⟨_, rfl, RowLe.data_ (by rw [fillsF_snoc, hs] <;> simp [fillC])⟩, fun h => by simp at h, trivial⟩
        · simp [wfV, AV.ids, lookR, grow]
        · exact ⟨wf_data _ _, trivial⟩
      · intro hb
        have hz : fillsF (absQ q) (pre ++ post) = fillsF (absQ q) pre ∧ restF (absQ q) (pre ++ post) = restF (absQ q) pre := by
          rw [fillsF_app, restF_app]
          cases post with
          | nil => simp [fillsF, restF]
          | cons x t =>
            have h0 : restF (absQ q) pre = 0 := by
              rw [show decide ((pre.length : Int) < ((pre ++ x :: t).length : Int)) = true from decide_eq_true (by simp; omega)] at hb
              have := of_decide_eq_false hb; omega
            have e := fills_zero hOk2.2
            rw [h0, e.1, e.2]; simp
        clear hb
        refine awp_exit ?_
        simp only [zz6, Nat.reduceEqDiff, ↓reduceIte]
        refine hK0 _ ?_; try clear hK0 K0
        refine awp_keepL [8, 10] ?_
        simp only [zz20, zzI, look_nil, Nat.reduceBEq]
        refine awp_seq fun K0 hK0 => ?_
        refine awp_plain F_mixed [some 81, some 82, some 4, some 5, some 6] rfl ?_
        simp only [List.nil_append, List.cons_append, true_and, and_true, zz0, true_implies, Nat.reduceLT, Nat.reduceLeDiff, zzI, look_nil, Nat.reduceBEq, implies_true, evS_move, evS_assign, zz6, Nat.reduceEqDiff, ↓reduceIte]
        refine hK0 _ ?_; try clear hK0 K0
        refine awp_keepL [4, 5, 6] ?_
        simp only [zz20, zzI, look_nil, Nat.reduceBEq]
        refine awp_ret ?_
        simp only [zz6, Nat.reduceEqDiff, ↓reduceIte]
        rw [e3, e1, e2, hz.1, hz.2]
        try simp only [List.append_nil]
        refine done1 10 (by simp only [resCs, resC]; trivial) ?_ (by simp [flatA, flatAs, flatD, fillC]) (by simp [AV.ids, AV.idsL, fillC]) (by rfl) trivial rfl rfl ?_ (by simp [flatDs, flatD, fillC])
        · simp only [List.map_cons, List.map_nil, resA, S_getD, Nat.reduceLT, Nat.reduceLeDiff, look_cons, Nat.reduceBEq, cond_true, cond_false, resAll]; rfl
        · rfl
end Go.Proofs.Ytopifbpibkpmmaa
