import Derived.Test.YtopifbpibkpmmaaWpA
namespace Go.Proofs.Ytopifbpibkpmmaa
open Go.RowKit
set_option linter.unusedVariables false
set_option linter.unusedSimpArgs false

theorem sBid_ins {cf : FuncId} {cs : List D} {c : List D → List D → Int} {Pd : List D → Prop} (h : SC Try.prog cf cs c Pd 5) (P_ S_ Q_ : List (List D)) (hM : okM Pd (P_ ++ (S_ ++ Q_))) (hN : (P_ ++ (S_ ++ Q_)).length ≤ 1000000) (a b : Nat) (ha : a = P_.length) (hb : b = P_.length + S_.length) : MCalls Try.prog 74 [.m 0, .d (iv a), .d (iv b), .d (.fn cf cs)] [⟨31, 5, P_ ++ (S_ ++ Q_)⟩] [⟨31, 5, P_ ++ (isort (ltc c) S_ ++ Q_)⟩] [] (.tp []) := by
  refine mcalls_S (rs := []) Try.func74 rfl rfl 53 [(0, .ref 1000000000 ((P_ ++ (S_ ++ Q_))).length), (1, .d (iv a)), (2, .d (iv b)), (3, .d (.fn cf cs))] [(1000000000, (⟨True, 31, 5, true, false, 1000000000, ((P_ ++ (S_ ++ Q_))).map (·.map .d)⟩ : ARow))] rfl (by simp) (by rfl) (by rfl) (by rfl) (by rfl) (by rfl) ?_
  change AWp _ _ _ (S _ _ [(1000000000, (⟨True, 31, 5, true, false, 1000000000, aV ((P_ ++ (S_ ++ Q_)))⟩ : ARow))])
  have hn : P_.length + S_.length + Q_.length ≤ 1000000 := by simpa [Nat.add_assoc] using hN
  have hwa : IntKind.wrap .i64 ((a : Int) + 1) = ((a + 1 : Nat) : Int) := by rw [wrapI (by omega) (by omega)]; omega
  refine awp_seq fun K0 hK0 => ?_
  refine awp_plain F_mixed [some 10, some 11, some 8] rfl ?_
  simp only [List.nil_append, List.cons_append, true_and, and_true, zz0, true_implies, Nat.reduceLT, Nat.reduceLeDiff, zzI, look_nil, Nat.reduceBEq, implies_true, evS_move, zz21, gr_v, zz26, evS_assign, hwa, zz6, Nat.reduceEqDiff, ↓reduceIte]
  refine hK0 _ ?_; try clear hK0 K0
  refine awp_keepL [0, 1, 2, 3, 8] ?_
  simp only [zz20, zzI, look_nil, Nat.reduceBEq]
  refine awp_block ?_
  refine awp_loop (fun m s => ∃ (i : Nat) (R : List (List D)), InO (ltc c) P_ S_ Q_ i R ∧ m = b + 1 - i ∧ s = S 53 [(0, .ref 1000000000 (P_ ++ (S_ ++ Q_)).length), (1, .d (iv a)), (2, .d (iv b)), (3, .d (.fn cf cs)), (8, .d (iv i))] [(1000000000, (⟨True, 31, 5, true, false, 1000000000, aV (R)⟩ : ARow))]) (b + 1 - (a + 1)) _ (le_SK id [] rfl (l' := [(0, .ref 1000000000 (P_ ++ (S_ ++ Q_)).length), (1, .d (iv a)), (2, .d (iv b)), (3, .d (.fn cf cs)), (8, .d (iv ((a + 1 : Nat) : Int)))]) (m' := [(1000000000, (⟨True, 31, 5, true, false, 1000000000, aV ((P_ ++ (S_ ++ Q_)))⟩ : ARow))]) ?_ ?_ ?_ ?_) ⟨a + 1, _, by subst ha; exact InO.start, rfl, rfl⟩ ?_
  · simp only [leV, look_cons, Nat.reduceBEq, cond_true, cond_false]; exact ⟨VLe.refl _, VLe.refl _, VLe.refl _, VLe.refl _, VLe.refl _, trivial⟩
  · exact ⟨fun _ => ⟨_, rfl, RowLe.same rfl (aV_ids _)⟩, fun h => by simp at h, trivial⟩
  · simp [wfV, AV.ids, lookR]
  · exact ⟨fun e he r' hr' => by rw [aV_ids _ e he] at hr'; simp at hr', trivial⟩
  rintro m s ⟨i, R, hO, rfl, rfl⟩
  refine awp_seq fun K1 hK1 => ?_
  refine awp_seq fun K2 hK2 => ?_
  refine awp_plain F_mixed [some 12, some 13, some 14] rfl ?_
  simp only [List.nil_append, List.cons_append, true_and, and_true, zz0, true_implies, Nat.reduceLT, Nat.reduceLeDiff, zzI, look_nil, Nat.reduceBEq, implies_true, evS_move, zz21, gr_v, zz22, zz6, Nat.reduceEqDiff, ↓reduceIte]
  refine hK2 _ ?_; try clear hK2 K2
  refine awp_keepL [0, 1, 2, 3, 8, 14] ?_
  simp only [zz20, zzI, look_nil, Nat.reduceBEq]
  refine awp_condS _ (by decide) (by simp only [look_cons, Nat.reduceBEq, cond_true, cond_false]; rfl) ?_ ?_
  · intro hb
    have hi2 : i < b := by have := of_decide_eq_true hb; omega
    clear hb
    have hI := hO.more (by omega)
    refine awp_skip ?_
    simp only [zz6, Nat.reduceEqDiff, ↓reduceIte]
    refine hK1 _ ?_; try clear hK1 K1
    refine awp_keepL [0, 1, 2, 3, 8] ?_
    simp only [zz20, zzI, look_nil, Nat.reduceBEq]
    refine awp_seq fun K1 hK1 => ?_
    refine awp_block ?_
    refine awp_seq fun K2 hK2 => ?_
    refine awp_plain F_mixed [some 17, some 9] rfl ?_
    simp only [List.nil_append, List.cons_append, true_and, and_true, zz0, true_implies, Nat.reduceLT, Nat.reduceLeDiff, zzI, look_nil, Nat.reduceBEq, implies_true, evS_move, evS_assign, zz6, Nat.reduceEqDiff, ↓reduceIte]
    refine hK2 _ ?_; try clear hK2 K2
    refine awp_keepL [0, 1, 2, 3, 8, 9] ?_
    simp only [zz20, zzI, look_nil, Nat.reduceBEq]
    refine awp_block ?_
    refine awp_loop (fun m s => ∃ (j : Nat) (R2 : List (List D)), InI (ltc c) P_ S_ Q_ i j R2 ∧ m = j ∧ s = S 53 [(0, .ref 1000000000 (P_ ++ (S_ ++ Q_)).length), (1, .d (iv a)), (2, .d (iv b)), (3, .d (.fn cf cs)), (8, .d (iv i)), (9, .d (iv j))] [(1000000000, (⟨True, 31, 5, true, false, 1000000000, aV (R2)⟩ : ARow))]) i _ (le_SK id [] rfl (l' := [(0, .ref 1000000000 (P_ ++ (S_ ++ Q_)).length), (1, .d (iv a)), (2, .d (iv b)), (3, .d (.fn cf cs)), (8, .d (iv i)), (9, .d (iv i))]) (m' := [(1000000000, (⟨True, 31, 5, true, false, 1000000000, aV (R)⟩ : ARow))]) ?_ ?_ ?_ ?_) ⟨i, _, hI, rfl, rfl⟩ ?_
    · simp only [leV, look_cons, Nat.reduceBEq, cond_true, cond_false]; exact ⟨VLe.refl _, VLe.refl _, VLe.refl _, VLe.refl _, VLe.refl _, VLe.refl _, trivial⟩
    · exact ⟨fun _ => ⟨_, rfl, RowLe.same rfl (aV_ids _)⟩, fun h => by simp at h, trivial⟩
    · simp [wfV, AV.ids, lookR]
    · exact ⟨fun e he r' hr' => by rw [aV_ids _ e he] at hr'; simp at hr', trivial⟩
    clear hO hI
    rintro j s ⟨j0, R2, hJ, rfl, rfl⟩
    obtain ⟨hl0, hib, hji, haj, hai⟩ := hJ.len
    have hl : R2.length = (P_ ++ (S_ ++ Q_)).length := by simp only [List.length_append]; omega
    have ho := hJ.ok hM
    have hz := okM.len h ho
    have hwj : (IntKind.wrap .i64 ((j : Int) - 1)).toNat = j - 1 := by rw [wrapI (by omega) (by omega)]; omega
    have hwi : IntKind.wrap .i64 ((i : Int) + 1) = ((i + 1 : Nat) : Int) := by rw [wrapI (by omega) (by omega)]; omega
    refine awp_seq fun K3 hK3 => ?_
    refine awp_seq fun K4 hK4 => ?_
    refine awp_draw F_mixed [some 18, some 19, some 20, some 21, some 22, some 23, some 24, some 25, some 26, some 27, some 28, some 29, some 30, some 31, some 32, some 33, some 34] rfl (by kernel_rfl) ?_
    simp only [List.nil_append, List.cons_append, true_and, and_true, zz0, true_implies, Nat.reduceLT, Nat.reduceLeDiff, zzI, look_nil, Nat.reduceBEq, implies_true, Nat.reduceSub, S_getD, zz5, and_imp, imp_and, imp_self, and_self, evS_move, zz21, gr_v, zz25, evS_indexAddr, zz23, zz24, F_sl22, F_sz31, Option.map_some, zz16, Option.some.injEq, exists_eq_left', exists_eq_left, eq_self, reduceCtorEq, F_ok31, F_ag31, zz8, zzD, Nat.reduceAdd, Nat.zero_add, zzF, zzB, zzE, zz33, evS_call, evC_value, zz22, zz13, aV_len, aV_get, List.length_map, Nat.le_refl, Int.toNat_natCast, ge0, List.drop_zero, Nat.zero_add, hl, hwj, tkD R2 hz, asEc_map, asGs_map, zz6, Nat.reduceEqDiff, ↓reduceIte]
    have hjl : j < (P_ ++ (S_ ++ Q_)).length := by rw [← hl]; omega
    have hgt : decide ((j : Int) > (a : Int)) = true → a < j := fun hg => by have := of_decide_eq_true hg; omega
    refine ⟨fun hg => by omega, ⟨fun hg => by omega, fun hg => by rw [lenD hz (by omega)]; exact Nat.le_refl _⟩, ⟨fun hg => by have := hgt hg; rw [wrapI (by omega) (by omega)]; omega, fun hg => by have := hgt hg; rw [wrapI (by omega) (by omega)]; omega⟩, ⟨fun hg => by omega, fun hg => by rw [lenD hz (by omega)]; exact Nat.le_refl _⟩, ?_⟩
    refine call_goC ?_ ?_ h.go (fun hG => h.call (R2.getD j []) (R2.getD (j - 1) []) (ho _ (gd_mem (by omega))) (ho _ (gd_mem (by omega)))) (by simp [AV.ids, AV.idsL]) (by simp) ?_
    · decide
    · simp only [look_cons, Nat.reduceBEq, cond_true, cond_false, bare_d, bare_wh]
    simp only [List.nil_append, List.cons_append, true_and, and_true, zz0, true_implies, Nat.reduceLT, Nat.reduceLeDiff, zzI, look_nil, Nat.reduceBEq, implies_true, Nat.reduceSub, S_getD, zz5, and_imp, imp_and, imp_self, and_self, evS_move, zz21, gr_v, zz25, evS_indexAddr, zz23, zz24, F_sl22, F_sz31, Option.map_some, zz16, Option.some.injEq, exists_eq_left', exists_eq_left, eq_self, reduceCtorEq, F_ok31, F_ag31, zz8, zzD, Nat.reduceAdd, Nat.zero_add, zzF, zzB, zzE, zz33, evS_call, evC_value, zz22, zz13, aV_len, aV_get, List.length_map, Nat.le_refl, Int.toNat_natCast, ge0, List.drop_zero, Nat.zero_add, hl, hwj, tkD R2 hz, asEc_map, asGs_map, zz6, Nat.reduceEqDiff, ↓reduceIte, Nat.reduceSub, S_getD, Gp_some, and_imp, imp_and, imp_self, and_self, asEs_cons, asEs_nil, asE_ag, asE_d, asE_ref, asEc_cons, asEc_nil, asF_d, asF_ref, asF_ag, asGs, oksF, atsL, oksG, freeN, AV.ren, AV.renL, addRows, ORow.row, Nat.reduceMul, Nat.reduceAdd, zz9, unDs_map, Option.bind_some, Option.map_some, forall_eq', D.sl.injEq, S_mem, Option.some.injEq, exists_eq_left', exists_eq_left, exists_eq', exists_eq, List.length_cons, zz2]
    refine hK4 _ ?_; try clear hK4 K4
    refine awp_keepL [0, 1, 2, 3, 8, 9, 34] ?_
    simp only [zz20, zzI, look_nil, Nat.reduceBEq]
    refine awp_condS _ (by decide) (by simp only [look_cons, Nat.reduceBEq, cond_true, cond_false]; rfl) ?_ ?_
    · intro hb
      have hja : a < j := by
        cases hd : decide ((j : Int) > (a : Int)) with
        | true => have := of_decide_eq_true hd; omega
        | false => rw [hd] at hb; cases hb
      have hc2 : decide (c (R2.getD j []) (R2.getD (j - 1) []) < 0) = true := by rw [show decide ((j : Int) > (a : Int)) = true from decide_eq_true (by omega)] at hb; exact hb
      clear hb
      have hwj2 : IntKind.wrap .i64 ((j : Int) - 1) = ((j - 1 : Nat) : Int) := by rw [wrapI (by omega) (by omega)]; omega
      have hjl : j < (P_ ++ (S_ ++ Q_)).length := by rw [← hl]; omega
      obtain ⟨q1, q2, q3, q4, q5, q6, q7, q8, q9, q10, q11⟩ := swpF h ho (i := j) (k := j - 1) (by omega) (by omega)
      have qi := ltI (show j < (P_ ++ (S_ ++ Q_)).length by omega)
      have qk := ltI (show j - 1 < (P_ ++ (S_ ++ Q_)).length by omega)
      have qm := eq_true (show j < (P_ ++ (S_ ++ Q_)).length by omega)
      have qn := eq_true (show j - 1 < (P_ ++ (S_ ++ Q_)).length by omega)
      refine awp_skip ?_
      simp only [zz6, Nat.reduceEqDiff, ↓reduceIte]
      refine hK3 _ ?_; try clear hK3 K3
      refine awp_keepL [0, 1, 2, 3, 8, 9] ?_
      simp only [zz20, zzI, look_nil, Nat.reduceBEq]
      refine awp_seq fun K3 hK3 => ?_
      refine awp_block ?_
      refine awp_draw F_mixed [some 37, some 38, some 39, some 40, some 41, some 42, some 43, some 44, some 45, some 46, some 47, some 48, some 49, some 50, some 51, none, some 52, none] rfl (by kernel_rfl) ?_
      simp only [List.nil_append, List.cons_append, true_and, and_true, zz0, true_implies, Nat.reduceLT, Nat.reduceLeDiff, zzI, look_nil, Nat.reduceBEq, implies_true, evS_move, zz21, gr_v, zz33, evS_indexAddr, zz23, zz24, F_sl22, F_sz31, Option.map_some, zz16, Option.some.injEq, exists_eq_left', exists_eq_left, eq_self, reduceCtorEq, and_self, F_ok31, F_ag31, zz8, zzD, Nat.reduceAdd, Nat.zero_add, zzF, zzB, zzE, zz18, List.append_nil, zz1, zzG, aV_len, aV_get, aV_set, List.length_map, List.length_set, Nat.le_refl, Int.toNat_natCast, ge0, List.drop_zero, Nat.zero_add, q1, q2, q3, q4, q5, q6, q7, q8, q9, q10, q11, qi, qk, qm, qn, hwj2, hl, zz6, Nat.reduceEqDiff, ↓reduceIte]
      refine hK3 _ ?_; try clear hK3 K3
      refine awp_keepL [0, 1, 2, 3, 8, 9] ?_
      simp only [zz20, zzI, look_nil, Nat.reduceBEq]
      refine awp_plain F_mixed [some 35, some 36, some 9] rfl ?_
      simp only [List.nil_append, List.cons_append, true_and, and_true, zz0, true_implies, Nat.reduceLT, Nat.reduceLeDiff, zzI, look_nil, Nat.reduceBEq, implies_true, evS_move, zz21, gr_v, zz33, evS_assign, hwj2, zz6, Nat.reduceEqDiff, ↓reduceIte]
      refine ⟨j - 1, _, by omega, le_SK id [] rfl (l' := [(0, .ref 1000000000 (P_ ++ (S_ ++ Q_)).length), (1, .d (iv a)), (2, .d (iv b)), (3, .d (.fn cf cs)), (8, .d (iv i)), (9, .d (iv ((j - 1 : Nat) : Int)))]) (m' := [(1000000000, (⟨True, 31, 5, true, false, 1000000000, aV (swp R2 j (j - 1))⟩ : ARow))]) ?_ ?_ ?_ ?_, j - 1, _, hJ.step (by omega) (cmp_pos hc2), rfl, rfl⟩
      · simp only [leV, look_cons, Nat.reduceBEq, cond_true, cond_false, hwj2]; exact ⟨VLe.refl _, VLe.refl _, VLe.refl _, VLe.refl _, VLe.refl _, VLe.refl _, trivial⟩
      · exact ⟨fun _ => ⟨_, rfl, RowLe.same rfl (aV_ids _)⟩, fun h => by simp at h, trivial⟩
      · simp [wfV, AV.ids, lookR]
      · exact ⟨fun e he r' hr' => by rw [aV_ids _ e he] at hr'; simp at hr', trivial⟩
    · intro hb
      have hO2 := hJ.done h.swo (by
        cases hd : decide ((j : Int) > (a : Int)) with
        | true => rw [hd] at hb; exact .inr (cmp_neg hb)
        | false => have := of_decide_eq_false hd; exact .inl (by omega))
      clear hb
      refine awp_exit ?_
      simp only [zz6, Nat.reduceEqDiff, ↓reduceIte]
      refine hK1 _ ?_; try clear hK1 K1
      refine awp_keepL [0, 1, 2, 3, 8] ?_
      simp only [zz20, zzI, look_nil, Nat.reduceBEq]
      refine awp_plain F_mixed [some 15, some 16, some 8] rfl ?_
      simp only [List.nil_append, List.cons_append, true_and, and_true, zz0, true_implies, Nat.reduceLT, Nat.reduceLeDiff, zzI, look_nil, Nat.reduceBEq, implies_true, evS_move, zz21, gr_v, zz26, evS_assign, hwi, zz6, Nat.reduceEqDiff, ↓reduceIte]
      refine ⟨b + 1 - (i + 1), _, by omega, le_SK id [] rfl (l' := [(0, .ref 1000000000 (P_ ++ (S_ ++ Q_)).length), (1, .d (iv a)), (2, .d (iv b)), (3, .d (.fn cf cs)), (8, .d (iv ((i + 1 : Nat) : Int)))]) (m' := [(1000000000, (⟨True, 31, 5, true, false, 1000000000, aV (R2)⟩ : ARow))]) ?_ ?_ ?_ ?_, i + 1, R2, hO2, rfl, rfl⟩
      · simp only [leV, look_cons, Nat.reduceBEq, cond_true, cond_false, hwi]; exact ⟨VLe.refl _, VLe.refl _, VLe.refl _, VLe.refl _, VLe.refl _, trivial⟩
      · exact ⟨fun _ => ⟨_, rfl, RowLe.same rfl (aV_ids _)⟩, fun h => by simp at h, trivial⟩
      · simp [wfV, AV.ids, lookR]
      · exact ⟨fun e he r' hr' => by rw [aV_ids _ e he] at hr'; simp at hr', trivial⟩
  · intro hb
    have hi2 : b ≤ i := by have := of_decide_eq_false hb; omega
    clear hb
    obtain rfl := hO.done (by omega)
    have ho2 := hO.ok hM
    have hfl : ∀ l, l ∈ P_ ++ (isort (ltc c) S_ ++ Q_) → flatDs l := fun l hl2 => h.flat l (ho2 l hl2)
    refine awp_exit ?_
    simp only [zz6, Nat.reduceEqDiff, ↓reduceIte]
    refine doneM [] (by simp [resCs, resC, S, List.getD, look_cons, lookR, ]) ?_ (by simp [flatA, flatAs, flatD, ]) (by simp [AV.ids, AV.idsL, ]) (by decide) (by simp) ?_ ?_
    · simp only [List.map_cons, List.map_nil, resA, S_getD, S_mem, lookR_cons, lookR_nil, Nat.reduceLT, Nat.reduceLeDiff, look_cons, Nat.reduceBEq, cond_true, cond_false, resAll, List.getD_cons_zero, List.getD_cons_succ, List.drop_zero, List.drop_succ_cons, List.take_succ_cons, List.take_zero, ]; rfl
    · exact trivial
    · exact ⟨⟨_, rfl, trivial, rfl, rfl, rfl⟩, hfl, trivial⟩
end Go.Proofs.Ytopifbpibkpmmaa
