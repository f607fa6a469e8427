import Derived.Test.YtopifbpibkpmmaaSpecU
import Derived.Laws.Externs
import Derived.Laws.StructEq
import Derived.Laws.Tables
import Derived.KernelRfl
namespace Go.Proofs.Ytopifbpibkpmmaa
open Go.RowKit
set_option linter.unusedVariables false
set_option linter.unusedSimpArgs false
theorem F_mixed : Try.prog.follows .mixedOrders = true := by kernel_rfl
theorem F_sl22 : sliceT Try.prog 22 = some 31 := by kernel_rfl
theorem F_sz31 : szT Try.prog 31 = 5 := by kernel_rfl
theorem F_ok31 : tyOk Try.prog 31 = true := by kernel_rfl
theorem F_ag31 : aggT Try.prog 31 = true := by kernel_rfl
theorem F_go101 : goFn Try.prog 101 := ⟨_, Try.func101, rfl, rfl⟩
theorem sBid_swap {cf : FuncId} {cs : List D} {c : List D → List D → Int} {Pd : List D → Prop} (h : SC Try.prog cf cs c Pd 5) (M : List (List D)) (hM : okM Pd M) (hN : M.length ≤ 1000000) (a b n : Nat) (h1 : a + n ≤ b) (h2 : b + n ≤ M.length) : MCalls Try.prog 101 [.m 0, .d (iv a), .d (iv b), .d (iv n), .d (.fn cf cs)] [⟨31, 5, M⟩] [⟨31, 5, swpR M a b n⟩] [] (.tp []) := by
  refine mcalls_S (rs := []) Try.func101 rfl rfl 38 [(0, .ref 1000000000 (M).length), (1, .d (iv a)), (2, .d (iv b)), (3, .d (iv n)), (4, .d (.fn cf cs))] [(1000000000, (⟨True, 31, 5, true, false, 1000000000, (M).map (·.map .d)⟩ : ARow))] rfl (by simp) (by rfl) (by rfl) (by rfl) (by rfl) (by rfl) ?_
  change AWp _ _ _ (S _ _ [(1000000000, (⟨True, 31, 5, true, false, 1000000000, aV (M)⟩ : ARow))])
  refine awp_seq fun K0 hK0 => ?_
  refine awp_plain F_mixed [some 10] rfl ?_
  simp only [List.nil_append, List.cons_append, true_and, and_true, zz0, true_implies, Nat.reduceLT, Nat.reduceLeDiff, zzI, look_nil, Nat.reduceBEq, implies_true, evS_assign, zz6, Nat.reduceEqDiff, ↓reduceIte]
  refine hK0 _ ?_; try clear hK0 K0
  refine awp_keepL [0, 1, 2, 3, 10] ?_
  simp only [zz20, zzI, look_nil, Nat.reduceBEq]
  refine awp_block ?_
  refine awp_loop (fun m s => ∃ i : Nat, i ≤ n ∧ m = n - i ∧ s = S 38 [(0, .ref 1000000000 M.length), (1, .d (iv a)), (2, .d (iv b)), (3, .d (iv n)), (10, .d (iv i))] [(1000000000, (⟨True, 31, 5, true, false, 1000000000, aV (swpR M a b i)⟩ : ARow))]) n _ (le_SK id [] rfl (l' := [(0, .ref 1000000000 M.length), (1, .d (iv a)), (2, .d (iv b)), (3, .d (iv n)), (10, .d (iv ((0 : Nat) : Int)))]) (m' := [(1000000000, (⟨True, 31, 5, true, false, 1000000000, aV (swpR M a b 0)⟩ : ARow))]) ?_ ?_ ?_ ?_) ⟨0, by omega, by omega, rfl⟩ ?_
  · simp only [leV, look_cons, Nat.reduceBEq, cond_true, cond_false]; exact ⟨VLe.refl _, VLe.refl _, VLe.refl _, VLe.refl _, VLe.refl _, trivial⟩
  · exact ⟨fun _ => ⟨_, rfl, RowLe.same rfl (aV_ids _)⟩, fun h => by simp at h, trivial⟩
  · simp [wfV, AV.ids, lookR]
  · exact ⟨fun e he r' hr' => by rw [aV_ids _ e he] at hr'; simp at hr', trivial⟩
  rintro m s ⟨i, hi, rfl, rfl⟩
  have hl := swpR_len M a b i
  have ho := okM_swpR hM a b i (by omega) (by omega)
  refine awp_seq fun K1 hK1 => ?_
  refine awp_seq fun K2 hK2 => ?_
  refine awp_plain F_mixed [some 11, some 12, some 13] rfl ?_
  simp only [List.nil_append, List.cons_append, true_and, and_true, zz0, true_implies, Nat.reduceLT, Nat.reduceLeDiff, zzI, look_nil, Nat.reduceBEq, implies_true, evS_move, zz21, gr_v, zz22, zz6, Nat.reduceEqDiff, ↓reduceIte]
  refine hK2 _ ?_; try clear hK2 K2
  refine awp_keepL [0, 1, 2, 3, 10, 13] ?_
  simp only [zz20, zzI, look_nil, Nat.reduceBEq]
  refine awp_condS _ (by decide) (by simp only [look_cons, Nat.reduceBEq, cond_true, cond_false]; rfl) ?_ ?_
  · intro hb
    have hi2 : i < n := by have := of_decide_eq_true hb; omega
    clear hb
    have hwa : IntKind.wrap .i64 ((a : Int) + (i : Int)) = ((a + i : Nat) : Int) := by rw [wrapI (by omega) (by omega)]; omega
    have hwb : IntKind.wrap .i64 ((b : Int) + (i : Int)) = ((b + i : Nat) : Int) := by rw [wrapI (by omega) (by omega)]; omega
    have hwi : IntKind.wrap .i64 ((i : Int) + 1) = ((i + 1 : Nat) : Int) := by rw [wrapI (by omega) (by omega)]; omega
    obtain ⟨q1, q2, q3, q4, q5, q6, q7, q8, q9, q10, q11⟩ := swpF h ho (i := a + i) (k := b + i) (by omega) (by omega)
    have qi := ltI (show a + i < M.length by omega)
    have qk := ltI (show b + i < M.length by omega)
    have qm := eq_true (show a + i < M.length by omega)
    have qn := eq_true (show b + i < M.length by omega)
    refine awp_skip ?_
    simp only [zz6, Nat.reduceEqDiff, ↓reduceIte]
    refine hK1 _ ?_; try clear hK1 K1
    refine awp_keepL [0, 1, 2, 3, 10] ?_
    simp only [zz20, zzI, look_nil, Nat.reduceBEq]
    refine awp_seq fun K1 hK1 => ?_
    refine awp_block ?_
    refine awp_draw F_mixed [some 16, some 17, some 18, some 19, some 20, some 21, some 22, some 23, some 24, some 25, some 26, some 27, some 28, some 29, some 30, some 31, some 32, some 33, some 34, some 35, some 36, none, some 37, none] rfl (by kernel_rfl) ?_
    simp only [List.nil_append, List.cons_append, true_and, and_true, zz0, true_implies, Nat.reduceLT, Nat.reduceLeDiff, zzI, look_nil, Nat.reduceBEq, implies_true, evS_move, zz21, gr_v, zz26, evS_indexAddr, zz23, zz24, F_sl22, F_sz31, Option.map_some, zz16, Option.some.injEq, exists_eq_left', exists_eq_left, eq_self, reduceCtorEq, and_self, F_ok31, F_ag31, zz8, zzD, Nat.reduceAdd, Nat.zero_add, zzF, zzB, zzE, zz18, List.append_nil, zz1, zzG, aV_len, aV_get, aV_set, List.length_map, List.length_set, Nat.le_refl, Int.toNat_natCast, ge0, List.drop_zero, Nat.zero_add, q1, q2, q3, q4, q5, q6, q7, q8, q9, q10, q11, qi, qk, qm, qn, hwa, hwb, hl, zz6, Nat.reduceEqDiff, ↓reduceIte]
    refine hK1 _ ?_; try clear hK1 K1
    refine awp_keepL [0, 1, 2, 3, 10] ?_
    simp only [zz20, zzI, look_nil, Nat.reduceBEq]
    refine awp_plain F_mixed [some 14, some 15, some 10] rfl ?_
    simp only [List.nil_append, List.cons_append, true_and, and_true, zz0, true_implies, Nat.reduceLT, Nat.reduceLeDiff, zzI, look_nil, Nat.reduceBEq, implies_true, evS_move, zz21, gr_v, zz26, evS_assign, zz6, Nat.reduceEqDiff, ↓reduceIte]
    refine ⟨n - (i + 1), _, by omega, le_SK id [] rfl (l' := [(0, .ref 1000000000 M.length), (1, .d (iv a)), (2, .d (iv b)), (3, .d (iv n)), (10, .d (iv ((i + 1 : Nat) : Int)))]) (m' := [(1000000000, (⟨True, 31, 5, true, false, 1000000000, aV (swpR M a b (i + 1))⟩ : ARow))]) ?_ ?_ ?_ ?_, i + 1, by omega, rfl, rfl⟩
    · simp only [leV, look_cons, Nat.reduceBEq, cond_true, cond_false, hwi]; exact ⟨VLe.refl _, VLe.refl _, VLe.refl _, VLe.refl _, VLe.refl _, trivial⟩
    · exact ⟨fun _ => ⟨_, rfl, RowLe.same rfl (aV_ids _)⟩, fun h => by simp at h, trivial⟩
    · simp [wfV, AV.ids, lookR]
    · exact ⟨fun e he r' hr' => by rw [aV_ids _ e he] at hr'; simp at hr', trivial⟩
  · intro hb
    obtain rfl : i = n := by have := of_decide_eq_false hb; omega
    clear hb
    have hfl : ∀ l, l ∈ swpR M a b i → flatDs l := fun l hl2 => h.flat l (ho l hl2)
    refine awp_exit ?_
    simp only [zz6, Nat.reduceEqDiff, ↓reduceIte]
    refine doneM [] (by simp [resCs, resC, S, List.getD, look_cons, lookR, ]) ?_ (by simp [flatA, flatAs, flatD, ]) (by simp [AV.ids, AV.idsL, ]) (by decide) (by simp) ?_ ?_
    · simp only [List.map_cons, List.map_nil, resA, S_getD, S_mem, lookR_cons, lookR_nil, Nat.reduceLT, Nat.reduceLeDiff, look_cons, Nat.reduceBEq, cond_true, cond_false, resAll, List.getD_cons_zero, List.getD_cons_succ, List.drop_zero, List.drop_succ_cons, List.take_succ_cons, List.take_zero, ]; rfl
    · exact trivial
    · exact ⟨⟨_, rfl, trivial, rfl, rfl, rfl⟩, hfl, trivial⟩
theorem sBid_ins {cf : FuncId} {cs : List D} {c : List D → List D → Int} {Pd : List D → Prop} (h : SC Try.prog cf cs c Pd 5) (P_ S_ Q_ : List (List D)) (hM : okM Pd (P_ ++ (S_ ++ Q_))) (hN : (P_ ++ (S_ ++ Q_)).length ≤ 1000000) (a b : Nat) (ha : a = P_.length) (hb : b = P_.length + S_.length) : MCalls Try.prog 74 [.m 0, .d (iv a), .d (iv b), .d (.fn cf cs)] [⟨31, 5, P_ ++ (S_ ++ Q_)⟩] [⟨31, 5, P_ ++ (isort (ltc c) S_ ++ Q_)⟩] [] (.tp []) := by
  refine mcalls_S (rs := []) Try.func74 rfl rfl 53 [(0, .ref 1000000000 ((P_ ++ (S_ ++ Q_))).length), (1, .d (iv a)), (2, .d (iv b)), (3, .d (.fn cf cs))] [(1000000000, (⟨True, 31, 5, true, false, 1000000000, ((P_ ++ (S_ ++ Q_))).map (·.map .d)⟩ : ARow))] rfl (by simp) (by rfl) (by rfl) (by rfl) (by rfl) (by rfl) ?_
  change AWp _ _ _ (S _ _ [(1000000000, (⟨True, 31, 5, true, false, 1000000000, aV ((P_ ++ (S_ ++ Q_)))⟩ : ARow))])
  have hn : P_.length + S_.length + Q_.length ≤ 1000000 := by simpa [Nat.add_assoc] using hN
  have hwa : IntKind.wrap .i64 ((a : Int) + 1) = ((a + 1 : Nat) : Int) := by rw [wrapI (by omega) (by omega)]; omega
  refine awp_seq fun K0 hK0 => ?_
  refine awp_plain F_mixed [some 10, some 11, some 8] rfl ?_
  simp only [List.nil_append, List.cons_append, true_and, and_true, zz0, true_implies, Nat.reduceLT, Nat.reduceLeDiff, zzI, look_nil, Nat.reduceBEq, implies_true, evS_move, zz21, gr_v, zz26, evS_assign, hwa, zz6, Nat.reduceEqDiff, ↓reduceIte]
  refine hK0 _ ?_; try clear hK0 K0
  refine awp_keepL [0, 1, 2, 3, 8] ?_
  simp only [zz20, zzI, look_nil, Nat.reduceBEq]
  refine awp_block ?_
  refine awp_loop (fun m s => ∃ (i : Nat) (R : List (List D)), InO (ltc c) P_ S_ Q_ i R ∧ m = b + 1 - i ∧ s = S 53 [(0, .ref 1000000000 (P_ ++ (S_ ++ Q_)).length), (1, .d (iv a)), (2, .d (iv b)), (3, .d (.fn cf cs)), (8, .d (iv i))] [(1000000000, (⟨True, 31, 5, true, false, 1000000000, aV (R)⟩ : ARow))]) (b + 1 - (a + 1)) _ (le_SK id [] rfl (l' := [(0, .ref 1000000000 (P_ ++ (S_ ++ Q_)).length), (1, .d (iv a)), (2, .d (iv b)), (3, .d (.fn cf cs)), (8, .d (iv ((a + 1 : Nat) : Int)))]) (m' := [(1000000000, (⟨True, 31, 5, true, false, 1000000000, aV ((P_ ++ (S_ ++ Q_)))⟩ : ARow))]) ?_ ?_ ?_ ?_) ⟨a + 1, _, by subst ha; exact InO.start, rfl, rfl⟩ ?_
  · simp only [leV, look_cons, Nat.reduceBEq, cond_true, cond_false]; exact ⟨VLe.refl _, VLe.refl _, VLe.refl _, VLe.refl _, VLe.refl _, trivial⟩
  · exact ⟨fun _ => ⟨_, rfl, RowLe.same rfl (aV_ids _)⟩, fun h => by simp at h, trivial⟩
  · simp [wfV, AV.ids, lookR]
  · exact ⟨fun e he r' hr' => by rw [aV_ids _ e he] at hr'; simp at hr', trivial⟩
  rintro m s ⟨i, R, hO, rfl, rfl⟩
  refine awp_seq fun K1 hK1 => ?_
  refine awp_seq fun K2 hK2 => ?_
  refine awp_plain F_mixed [some 12, some 13, some 14] rfl ?_
  simp only [List.nil_append, List.cons_append, true_and, and_true, zz0, true_implies, Nat.reduceLT, Nat.reduceLeDiff, zzI, look_nil, Nat.reduceBEq, implies_true, evS_move, zz21, gr_v, zz22, zz6, Nat.reduceEqDiff, ↓reduceIte]
  refine hK2 _ ?_; try clear hK2 K2
  refine awp_keepL [0, 1, 2, 3, 8, 14] ?_
  simp only [zz20, zzI, look_nil, Nat.reduceBEq]
  refine awp_condS _ (by decide) (by simp only [look_cons, Nat.reduceBEq, cond_true, cond_false]; rfl) ?_ ?_
  · intro hb
    have hi2 : i < b := by have := of_decide_eq_true hb; omega
    clear hb
    have hI := hO.more (by omega)
    refine awp_skip ?_
    simp only [zz6, Nat.reduceEqDiff, ↓reduceIte]
    refine hK1 _ ?_; try clear hK1 K1
    refine awp_keepL [0, 1, 2, 3, 8] ?_
    simp only [zz20, zzI, look_nil, Nat.reduceBEq]
    refine awp_seq fun K1 hK1 => ?_
    refine awp_block ?_
    refine awp_seq fun K2 hK2 => ?_
    refine awp_plain F_mixed [some 17, some 9] rfl ?_
    simp only [List.nil_append, List.cons_append, true_and, and_true, zz0, true_implies, Nat.reduceLT, Nat.reduceLeDiff, zzI, look_nil, Nat.reduceBEq, implies_true, evS_move, evS_assign, zz6, Nat.reduceEqDiff, ↓reduceIte]
    refine hK2 _ ?_; try clear hK2 K2
    refine awp_keepL [0, 1, 2, 3, 8, 9] ?_
    simp only [zz20, zzI, look_nil, Nat.reduceBEq]
    refine awp_block ?_
    refine awp_loop (fun m s => ∃ (j : Nat) (R2 : List (List D)), InI (ltc c) P_ S_ Q_ i j R2 ∧ m = j ∧ s = S 53 [(0, .ref 1000000000 (P_ ++ (S_ ++ Q_)).length), (1, .d (iv a)), (2, .d (iv b)), (3, .d (.fn cf cs)), (8, .d (iv i)), (9, .d (iv j))] [(1000000000, (⟨True, 31, 5, true, false, 1000000000, aV (R2)⟩ : ARow))]) i _ (le_SK id [] rfl (l' := [(0, .ref 1000000000 (P_ ++ (S_ ++ Q_)).length), (1, .d (iv a)), (2, .d (iv b)), (3, .d (.fn cf cs)), (8, .d (iv i)), (9, .d (iv i))]) (m' := [(1000000000, (⟨True, 31, 5, true, false, 1000000000, aV (R)⟩ : ARow))]) ?_ ?_ ?_ ?_) ⟨i, _, hI, rfl, rfl⟩ ?_
    · simp only [leV, look_cons, Nat.reduceBEq, cond_true, cond_false]; exact ⟨VLe.refl _, VLe.refl _, VLe.refl _, VLe.refl _, VLe.refl _, VLe.refl _, trivial⟩
    · exact ⟨fun _ => ⟨_, rfl, RowLe.same rfl (aV_ids _)⟩, fun h => by simp at h, trivial⟩
    · simp [wfV, AV.ids, lookR]
    · exact ⟨fun e he r' hr' => by rw [aV_ids _ e he] at hr'; simp at hr', trivial⟩
    clear hO hI
    rintro j s ⟨j0, R2, hJ, rfl, rfl⟩
    obtain ⟨hl0, hib, hji, haj, hai⟩ := hJ.len
    have hl : R2.length = (P_ ++ (S_ ++ Q_)).length := by simp only [List.length_append]; omega
    have ho := hJ.ok hM
    have hz := okM.len h ho
    have hwj : (IntKind.wrap .i64 ((j : Int) - 1)).toNat = j - 1 := by rw [wrapI (by omega) (by omega)]; omega
    have hwi : IntKind.wrap .i64 ((i : Int) + 1) = ((i + 1 : Nat) : Int) := by rw [wrapI (by omega) (by omega)]; omega
    refine awp_seq fun K3 hK3 => ?_
    refine awp_seq fun K4 hK4 => ?_
    refine awp_draw F_mixed [some 18, some 19, some 20, some 21, some 22, some 23, some 24, some 25, some 26, some 27, some 28, some 29, some 30, some 31, some 32, some 33, some 34] rfl (by kernel_rfl) ?_
    simp only [List.nil_append, List.cons_append, true_and, and_true, zz0, true_implies, Nat.reduceLT, Nat.reduceLeDiff, zzI, look_nil, Nat.reduceBEq, implies_true, Nat.reduceSub, S_getD, zz5, and_imp, imp_and, imp_self, and_self, evS_move, zz21, gr_v, zz25, evS_indexAddr, zz23, zz24, F_sl22, F_sz31, Option.map_some, zz16, Option.some.injEq, exists_eq_left', exists_eq_left, eq_self, reduceCtorEq, F_ok31, F_ag31, zz8, zzD, Nat.reduceAdd, Nat.zero_add, zzF, zzB, zzE, zz33, evS_call, evC_value, zz22, zz13, pickK_l, pickK_r, aV_len, aV_get, List.length_map, Nat.le_refl, Int.toNat_natCast, ge0, List.drop_zero, Nat.zero_add, hl, hwj, tkD R2 hz, asEc_map, asGs_map, zz6, Nat.reduceEqDiff, ↓reduceIte]
    have hjl : j < (P_ ++ (S_ ++ Q_)).length := by rw [← hl]; omega
    have hgt : decide ((j : Int) > (a : Int)) = true → a < j := fun hg => by have := of_decide_eq_true hg; omega
    refine ⟨fun hg => by omega, ⟨fun hg => by omega, fun hg => by rw [lenD hz (by omega)]; exact Nat.le_refl _⟩, ⟨fun hg => by have := hgt hg; rw [wrapI (by omega) (by omega)]; omega, fun hg => by have := hgt hg; rw [wrapI (by omega) (by omega)]; omega⟩, ⟨fun hg => by omega, fun hg => by rw [lenD hz (by omega)]; exact Nat.le_refl _⟩, ?_⟩
    refine call_goC ?_ ?_ h.go (fun hG => h.call (R2.getD j []) (R2.getD (j - 1) []) (ho _ (gd_mem (by omega))) (ho _ (gd_mem (by omega)))) (by simp [AV.ids, AV.idsL]) (by simp) ?_
    · decide
    · simp only [look_cons, Nat.reduceBEq, cond_true, cond_false, bare_d, bare_wh]
    simp only [List.nil_append, List.cons_append, true_and, and_true, zz0, true_implies, Nat.reduceLT, Nat.reduceLeDiff, zzI, look_nil, Nat.reduceBEq, implies_true, Nat.reduceSub, S_getD, zz5, and_imp, imp_and, imp_self, and_self, evS_move, zz21, gr_v, zz25, evS_indexAddr, zz23, zz24, F_sl22, F_sz31, Option.map_some, zz16, Option.some.injEq, exists_eq_left', exists_eq_left, eq_self, reduceCtorEq, F_ok31, F_ag31, zz8, zzD, Nat.reduceAdd, Nat.zero_add, zzF, zzB, zzE, zz33, evS_call, evC_value, zz22, zz13, pickK_l, pickK_r, aV_len, aV_get, List.length_map, Nat.le_refl, Int.toNat_natCast, ge0, List.drop_zero, Nat.zero_add, hl, hwj, tkD R2 hz, asEc_map, asGs_map, zz6, Nat.reduceEqDiff, ↓reduceIte, Nat.reduceSub, S_getD, Gp_some, and_imp, imp_and, imp_self, and_self, asEs_cons, asEs_nil, asE_ag, asE_d, asE_ref, asEc_cons, asEc_nil, asF_d, asF_ref, asF_ag, asGs, oksF, atsL, oksG, freeN, AV.ren, AV.renL, addRows, ORow.row, Nat.reduceMul, Nat.reduceAdd, zz9, unDs_map, Option.bind_some, Option.map_some, forall_eq', D.sl.injEq, S_mem, Option.some.injEq, exists_eq_left', exists_eq_left, exists_eq', exists_eq, List.length_cons, zz2]
    refine hK4 _ ?_; try clear hK4 K4
    refine awp_keepL [0, 1, 2, 3, 8, 9, 34] ?_
    simp only [zz20, zzI, look_nil, Nat.reduceBEq]
    refine awp_condS _ (by decide) (by simp only [look_cons, Nat.reduceBEq, cond_true, cond_false]; rfl) ?_ ?_
    · intro hb
      have hja : a < j := by
        cases hd : decide ((j : Int) > (a : Int)) with
        | true => have := of_decide_eq_true hd; omega
        | false => rw [hd] at hb; cases hb
      have hc2 : decide (c (R2.getD j []) (R2.getD (j - 1) []) < 0) = true := by rw [show decide ((j : Int) > (a : Int)) = true from decide_eq_true (by omega)] at hb; exact hb
      clear hb
      have hwj2 : IntKind.wrap .i64 ((j : Int) - 1) = ((j - 1 : Nat) : Int) := by rw [wrapI (by omega) (by omega)]; omega
      have hjl : j < (P_ ++ (S_ ++ Q_)).length := by rw [← hl]; omega
      obtain ⟨q1, q2, q3, q4, q5, q6, q7, q8, q9, q10, q11⟩ := swpF h ho (i := j) (k := j - 1) (by omega) (by omega)
      have qi := ltI (show j < (P_ ++ (S_ ++ Q_)).length by omega)
      have qk := ltI (show j - 1 < (P_ ++ (S_ ++ Q_)).length by omega)
      have qm := eq_true (show j < (P_ ++ (S_ ++ Q_)).length by omega)
      have qn := eq_true (show j - 1 < (P_ ++ (S_ ++ Q_)).length by omega)
      refine awp_skip ?_
      simp only [zz6, Nat.reduceEqDiff, ↓reduceIte]
      refine hK3 _ ?_; try clear hK3 K3
      refine awp_keepL [0, 1, 2, 3, 8, 9] ?_
      simp only [zz20, zzI, look_nil, Nat.reduceBEq]
      refine awp_seq fun K3 hK3 => ?_
      refine awp_block ?_
      refine awp_draw F_mixed [some 37, some 38, some 39, some 40, some 41, some 42, some 43, some 44, some 45, some 46, some 47, some 48, some 49, some 50, some 51, none, some 52, none] rfl (by kernel_rfl) ?_
      simp only [List.nil_append, List.cons_append, true_and, and_true, zz0, true_implies, Nat.reduceLT, Nat.reduceLeDiff, zzI, look_nil, Nat.reduceBEq, implies_true, evS_move, zz21, gr_v, zz33, evS_indexAddr, zz23, zz24, F_sl22, F_sz31, Option.map_some, zz16, Option.some.injEq, exists_eq_left', exists_eq_left, eq_self, reduceCtorEq, and_self, F_ok31, F_ag31, zz8, zzD, Nat.reduceAdd, Nat.zero_add, zzF, zzB, zzE, zz18, List.append_nil, zz1, zzG, aV_len, aV_get, aV_set, List.length_map, List.length_set, Nat.le_refl, Int.toNat_natCast, ge0, List.drop_zero, Nat.zero_add, q1, q2, q3, q4, q5, q6, q7, q8, q9, q10, q11, qi, qk, qm, qn, hwj2, hl, zz6, Nat.reduceEqDiff, ↓reduceIte]
      refine hK3 _ ?_; try clear hK3 K3
      refine awp_keepL [0, 1, 2, 3, 8, 9] ?_
      simp only [zz20, zzI, look_nil, Nat.reduceBEq]
      refine awp_plain F_mixed [some 35, some 36, some 9] rfl ?_
      simp only [List.nil_append, List.cons_append, true_and, and_true, zz0, true_implies, Nat.reduceLT, Nat.reduceLeDiff, zzI, look_nil, Nat.reduceBEq, implies_true, evS_move, zz21, gr_v, zz33, evS_assign, hwj2, zz6, Nat.reduceEqDiff, ↓reduceIte]
      refine ⟨j - 1, _, by omega, le_SK id [] rfl (l' := [(0, .ref 1000000000 (P_ ++ (S_ ++ Q_)).length), (1, .d (iv a)), (2, .d (iv b)), (3, .d (.fn cf cs)), (8, .d (iv i)), (9, .d (iv ((j - 1 : Nat) : Int)))]) (m' := [(1000000000, (⟨True, 31, 5, true, false, 1000000000, aV (swp R2 j (j - 1))⟩ : ARow))]) ?_ ?_ ?_ ?_, j - 1, _, hJ.step (by omega) (cmp_pos hc2), rfl, rfl⟩
      · simp only [leV, look_cons, Nat.reduceBEq, cond_true, cond_false, hwj2]; exact ⟨VLe.refl _, VLe.refl _, VLe.refl _, VLe.refl _, VLe.refl _, VLe.refl _, trivial⟩
      · exact ⟨fun _ => ⟨_, rfl, RowLe.same rfl (aV_ids _)⟩, fun h => by simp at h, trivial⟩
      · simp [wfV, AV.ids, lookR]
      · exact ⟨fun e he r' hr' => by rw [aV_ids _ e he] at hr'; simp at hr', trivial⟩
    · intro hb
      have hO2 := hJ.done h.swo (by
        cases hd : decide ((j : Int) > (a : Int)) with
        | true => rw [hd] at hb; exact .inr (cmp_neg hb)
        | false => have := of_decide_eq_false hd; exact .inl (by omega))
      clear hb
      refine awp_exit ?_
      simp only [zz6, Nat.reduceEqDiff, ↓reduceIte]
      refine hK1 _ ?_; try clear hK1 K1
      refine awp_keepL [0, 1, 2, 3, 8] ?_
      simp only [zz20, zzI, look_nil, Nat.reduceBEq]
      refine awp_plain F_mixed [some 15, some 16, some 8] rfl ?_
      simp only [List.nil_append, List.cons_append, true_and, and_true, zz0, true_implies, Nat.reduceLT, Nat.reduceLeDiff, zzI, look_nil, Nat.reduceBEq, implies_true, evS_move, zz21, gr_v, zz26, evS_assign, hwi, zz6, Nat.reduceEqDiff, ↓reduceIte]
      refine ⟨b + 1 - (i + 1), _, by omega, le_SK id [] rfl (l' := [(0, .ref 1000000000 (P_ ++ (S_ ++ Q_)).length), (1, .d (iv a)), (2, .d (iv b)), (3, .d (.fn cf cs)), (8, .d (iv ((i + 1 : Nat) : Int)))]) (m' := [(1000000000, (⟨True, 31, 5, true, false, 1000000000, aV (R2)⟩ : ARow))]) ?_ ?_ ?_ ?_, i + 1, R2, hO2, rfl, rfl⟩
      · simp only [leV, look_cons, Nat.reduceBEq, cond_true, cond_false, hwi]; exact ⟨VLe.refl _, VLe.refl _, VLe.refl _, VLe.refl _, VLe.refl _, trivial⟩
      · exact ⟨fun _ => ⟨_, rfl, RowLe.same rfl (aV_ids _)⟩, fun h => by simp at h, trivial⟩
      · simp [wfV, AV.ids, lookR]
      · exact ⟨fun e he r' hr' => by rw [aV_ids _ e he] at hr'; simp at hr', trivial⟩
  · intro hb
    have hi2 : b ≤ i := by have := of_decide_eq_false hb; omega
    clear hb
    obtain rfl := hO.done (by omega)
    have ho2 := hO.ok hM
    have hfl : ∀ l, l ∈ P_ ++ (isort (ltc c) S_ ++ Q_) → flatDs l := fun l hl2 => h.flat l (ho2 l hl2)
    refine awp_exit ?_
    simp only [zz6, Nat.reduceEqDiff, ↓reduceIte]
    refine doneM [] (by simp [resCs, resC, S, List.getD, look_cons, lookR, ]) ?_ (by simp [flatA, flatAs, flatD, ]) (by simp [AV.ids, AV.idsL, ]) (by decide) (by simp) ?_ ?_
    · simp only [List.map_cons, List.map_nil, resA, S_getD, S_mem, lookR_cons, lookR_nil, Nat.reduceLT, Nat.reduceLeDiff, look_cons, Nat.reduceBEq, cond_true, cond_false, resAll, List.getD_cons_zero, List.getD_cons_succ, List.drop_zero, List.drop_succ_cons, List.take_succ_cons, List.take_zero, ]; rfl
    · exact trivial
    · exact ⟨⟨_, rfl, trivial, rfl, rfl, rfl⟩, hfl, trivial⟩
theorem sBid_rot {cf : FuncId} {cs : List D} {c : List D → List D → Int} {Pd : List D → Prop} (h : SC Try.prog cf cs c Pd 5) (P_ X_ Y_ Q_ : List (List D)) (hM : okM Pd (P_ ++ (X_ ++ (Y_ ++ Q_)))) (hN : (P_ ++ (X_ ++ (Y_ ++ Q_))).length ≤ 1000000) (hX : X_ ≠ []) (hY : Y_ ≠ []) (a m b : Nat) (ha : a = P_.length) (hm : m = P_.length + X_.length) (hb : b = P_.length + X_.length + Y_.length) : MCalls Try.prog 91 [.m 0, .d (iv a), .d (iv m), .d (iv b), .d (.fn cf cs)] [⟨31, 5, P_ ++ (X_ ++ (Y_ ++ Q_))⟩] [⟨31, 5, P_ ++ (Y_ ++ (X_ ++ Q_))⟩] [] (.tp []) := by
  refine mcalls_S (rs := []) Try.func91 rfl rfl 58 [(0, .ref 1000000000 ((P_ ++ (X_ ++ (Y_ ++ Q_)))).length), (1, .d (iv a)), (2, .d (iv m)), (3, .d (iv b)), (4, .d (.fn cf cs))] [(1000000000, (⟨True, 31, 5, true, false, 1000000000, ((P_ ++ (X_ ++ (Y_ ++ Q_)))).map (·.map .d)⟩ : ARow))] rfl (by simp) (by rfl) (by rfl) (by rfl) (by rfl) (by rfl) ?_
  change AWp _ _ _ (S _ _ [(1000000000, (⟨True, 31, 5, true, false, 1000000000, aV ((P_ ++ (X_ ++ (Y_ ++ Q_))))⟩ : ARow))])
  have hn : P_.length + X_.length + Y_.length + Q_.length ≤ 1000000 := by simpa [Nat.add_assoc] using hN
  have hwx : IntKind.wrap .i64 ((m : Int) - (a : Int)) = ((X_.length : Nat) : Int) := by rw [wrapI (by omega) (by omega)]; omega
  have hwy : IntKind.wrap .i64 ((b : Int) - (m : Int)) = ((Y_.length : Nat) : Int) := by rw [wrapI (by omega) (by omega)]; omega
  refine awp_seq fun K0 hK0 => ?_
  refine awp_plain F_mixed [some 12, some 13, some 14, some 10] rfl ?_
  simp only [List.nil_append, List.cons_append, true_and, and_true, zz0, true_implies, Nat.reduceLT, Nat.reduceLeDiff, zzI, look_nil, Nat.reduceBEq, implies_true, evS_move, zz21, gr_v, zz33, evS_assign, hwx, zz6, Nat.reduceEqDiff, ↓reduceIte]
  refine hK0 _ ?_; try clear hK0 K0
  refine awp_keepL [0, 2, 3, 4, 10] ?_
  simp only [zz20, zzI, look_nil, Nat.reduceBEq]
  refine awp_seq fun K0 hK0 => ?_
  refine awp_plain F_mixed [some 15, some 16, some 17, some 11] rfl ?_
  simp only [List.nil_append, List.cons_append, true_and, and_true, zz0, true_implies, Nat.reduceLT, Nat.reduceLeDiff, zzI, look_nil, Nat.reduceBEq, implies_true, evS_move, zz21, gr_v, zz33, evS_assign, hwy, zz6, Nat.reduceEqDiff, ↓reduceIte]
  refine hK0 _ ?_; try clear hK0 K0
  refine awp_keepL [0, 2, 4, 10, 11] ?_
  simp only [zz20, zzI, look_nil, Nat.reduceBEq]
  refine awp_seq fun K0 hK0 => ?_
  refine awp_block ?_
  refine awp_loop (fun mm s => ∃ A U V B : List (List D), U ≠ [] ∧ V ≠ [] ∧ m = A.length + U.length ∧ A ++ (V ++ (U ++ B)) = P_ ++ (Y_ ++ (X_ ++ Q_)) ∧ mm = U.length + V.length ∧ s = S 58 [(0, .ref 1000000000 (P_ ++ (X_ ++ (Y_ ++ Q_))).length), (2, .d (iv m)), (4, .d (.fn cf cs)), (10, .d (iv (U).length)), (11, .d (iv (V).length))] [(1000000000, (⟨True, 31, 5, true, false, 1000000000, aV ((A ++ (U ++ (V ++ B))))⟩ : ARow))]) (X_.length + Y_.length) _ (le_SK id [] rfl (l' := [(0, .ref 1000000000 (P_ ++ (X_ ++ (Y_ ++ Q_))).length), (2, .d (iv m)), (4, .d (.fn cf cs)), (10, .d (iv (X_).length)), (11, .d (iv (Y_).length))]) (m' := [(1000000000, (⟨True, 31, 5, true, false, 1000000000, aV ((P_ ++ (X_ ++ (Y_ ++ Q_))))⟩ : ARow))]) ?_ ?_ ?_ ?_) ⟨P_, X_, Y_, Q_, hX, hY, hm, rfl, rfl, rfl⟩ ?_
  · simp only [leV, look_cons, Nat.reduceBEq, cond_true, cond_false]; exact ⟨VLe.refl _, VLe.refl _, VLe.refl _, VLe.refl _, VLe.refl _, trivial⟩
  · exact ⟨fun _ => ⟨_, rfl, RowLe.same rfl (aV_ids _)⟩, fun h => by simp at h, trivial⟩
  · simp [wfV, AV.ids, lookR]
  · exact ⟨fun e he r' hr' => by rw [aV_ids _ e he] at hr'; simp at hr', trivial⟩
  rintro mm s ⟨A, U, V, B, hU, hV, hmu, hE, rfl, rfl⟩
  have hlen := congrArg List.length hE
  simp only [List.length_append] at hlen
  have hN2 : (A ++ (U ++ (V ++ B))).length ≤ 1000000 := by simp only [List.length_append]; omega
  have ho : okM Pd (A ++ (U ++ (V ++ B))) := by
    have hF : okM Pd (A ++ (V ++ (U ++ B))) := by rw [hE]; simp only [okM_app] at hM ⊢; exact ⟨hM.1, hM.2.2.1, hM.2.1, hM.2.2.2⟩
    simp only [okM_app] at hF ⊢
    exact ⟨hF.1, hF.2.2.1, hF.2.1, hF.2.2.2⟩
  have hl : (A ++ (U ++ (V ++ B))).length = (P_ ++ (X_ ++ (Y_ ++ Q_))).length := by simp only [List.length_append]; omega
  have hu := List.length_pos_iff.2 hU
  have hv := List.length_pos_iff.2 hV
  refine awp_seq fun K2 hK2 => ?_
  refine awp_seq fun K3 hK3 => ?_
  refine awp_plain F_mixed [some 18, some 19, some 20] rfl ?_
  simp only [List.nil_append, List.cons_append, true_and, and_true, zz0, true_implies, Nat.reduceLT, Nat.reduceLeDiff, zzI, look_nil, Nat.reduceBEq, implies_true, evS_move, zz21, gr_v, zz28, zz6, Nat.reduceEqDiff, ↓reduceIte]
  refine hK3 _ ?_; try clear hK3 K3
  refine awp_keepL [0, 2, 4, 10, 11, 20] ?_
  simp only [zz20, zzI, look_nil, Nat.reduceBEq]
  refine awp_condS _ (by decide) (by simp only [look_cons, Nat.reduceBEq, cond_true, cond_false]; rfl) ?_ ?_
  · intro hb
    have hne : U.length ≠ V.length := by intro he; rw [he] at hb; simp at hb
    clear hb
    refine awp_skip ?_
    simp only [zz6, Nat.reduceEqDiff, ↓reduceIte]
    refine hK2 _ ?_; try clear hK2 K2
    refine awp_keepL [0, 2, 4, 10, 11] ?_
    simp only [zz20, zzI, look_nil, Nat.reduceBEq]
    refine awp_block ?_
    refine awp_seq fun K2 hK2 => ?_
    refine awp_plain F_mixed [some 21, some 22, some 23] rfl ?_
    simp only [List.nil_append, List.cons_append, true_and, and_true, zz0, true_implies, Nat.reduceLT, Nat.reduceLeDiff, zzI, look_nil, Nat.reduceBEq, implies_true, evS_move, zz21, gr_v, zz25, zz6, Nat.reduceEqDiff, ↓reduceIte]
    refine hK2 _ ?_; try clear hK2 K2
    refine awp_keepL [0, 2, 4, 10, 11, 23] ?_
    simp only [zz20, zzI, look_nil, Nat.reduceBEq]
    refine awp_condS _ (by decide) (by simp only [look_cons, Nat.reduceBEq, cond_true, cond_false]; rfl) ?_ ?_
    · intro hb
      have hgt : V.length < U.length := by have := of_decide_eq_true hb; omega
      clear hb
      obtain ⟨U1, U2, rfl, hl12⟩ : ∃ U1 U2, U = U1 ++ U2 ∧ V.length = U1.length := ⟨U.take V.length, U.drop V.length, by simp, by simp; omega⟩
      have hlu : (U1 ++ U2).length = U1.length + U2.length := List.length_append
      have hU1 : U1 ≠ [] := List.length_pos_iff.1 (by omega)
      have hU2 : U2 ≠ [] := List.length_pos_iff.1 (by omega)
      have hw1 : IntKind.wrap .i64 ((m : Int) - ((U1 ++ U2).length : Int)) = ((m - (U1 ++ U2).length : Nat) : Int) := by rw [wrapI (by omega) (by omega)]; omega
      have hw2 : IntKind.wrap .i64 (((U1 ++ U2).length : Int) - (V.length : Int)) = ((U2.length : Nat) : Int) := by rw [wrapI (by omega) (by omega)]; omega
      have hsw : swpR (A ++ (U1 ++ U2 ++ (V ++ B))) (m - (U1 ++ U2).length) m V.length = (A ++ V) ++ (U2 ++ (U1 ++ B)) := by
        rw [show A ++ (U1 ++ U2 ++ (V ++ B)) = A ++ (U1 ++ (U2 ++ (V ++ B))) by simp, swpR_mid hl12.symm rfl (by omega) (by omega)]
        simp
      have hof := okM_swpR ho (m - (U1 ++ U2).length) m V.length (by rw [hl]; simp only [List.length_append] at hlen ⊢; omega) (by rw [hl]; simp only [List.length_append] at hlen ⊢; omega)
      refine awp_seq fun K3 hK3 => ?_
      refine awp_mut [some 24, some 25, some 26, some 27, some 28, some 29, some 30, some 31] rfl 7 rfl ?_
      simp only [List.nil_append, List.cons_append, true_and, and_true, zz0, true_implies, Nat.reduceLT, Nat.reduceLeDiff, zzI, look_nil, Nat.reduceBEq, implies_true, evS_move, zz21, gr_v, zz33, evS_call, evC_value, hw1, aV, hl, zzB, zz6, Nat.reduceEqDiff, ↓reduceIte]
      refine mut_go [1000000000] F_go101 (sBid_swap h (A ++ (U1 ++ U2 ++ (V ++ B))) ho hN2 (m - (U1 ++ U2).length) m V.length (by omega) (by rw [hl]; simp only [List.length_append] at hlen ⊢; omega)) (by simp [AV.ids, AV.idsL]) (by decide) (by first | exact ⟨by decide, by simp⟩ | rfl) ?_
      simp only [List.nil_append, List.cons_append, true_and, and_true, zz0, true_implies, Nat.reduceLT, Nat.reduceLeDiff, zzI, look_nil, Nat.reduceBEq, implies_true, evS_move, zz21, gr_v, zz33, evS_call, evC_value, hw1, aV, hl, zzB, zz6, Nat.reduceEqDiff, ↓reduceIte, mArgs_nil, asE_cl, asF_cl, asD_ptr, asG_ptr, asD_ep, asG_ep, List.mem_singleton, forall_eq, asEc_cons, asEc_nil, mArgs_d, mArgs_m, mRows_nil, mRows_cons, mNewL, nxM, mBase, mName, oksL, List.getElem?_cons_zero, List.getElem?_cons_succ, zzF, asE_ag, asE_d, asE_ref, asEc_cons, asEc_nil, asF_d, asF_ref, asF_ag, asGs, AV.ids, AV.idsL, List.length_singleton, List.not_mem_nil, false_implies, forall_const, atsL, asD_self, asD_nil, asD_sl, asD_agg, asD_int, asD_bool, asD_func, asD_ag, asD_ref, asG_d, asG_ag, asG_ref, freeN, AV.ren, AV.renL, addRows, ORow.row, Nat.reduceMul, Nat.reduceAdd, zz9, Option.bind_some, Option.map_some, forall_eq', D.sl.injEq, zz16, Option.some.injEq, exists_eq_left', exists_eq_left, exists_eq', exists_eq, zzD, S_func, Sk_func]
      refine ⟨fun l hl2 => h.flat l (hof l hl2), ?_⟩
      refine hK3 _ ?_; try clear hK3 K3
      refine awp_keepL [0, 2, 4, 10, 11] ?_
      simp only [zz20, zzI, look_nil, Nat.reduceBEq]
      refine awp_plain F_mixed [some 32, some 33, some 34, some 10] rfl ?_
      simp only [List.nil_append, List.cons_append, true_and, and_true, zz0, true_implies, Nat.reduceLT, Nat.reduceLeDiff, zzI, look_nil, Nat.reduceBEq, implies_true, evS_move, zz21, gr_v, zz33, evS_assign, hw2, zz6, Nat.reduceEqDiff, ↓reduceIte]
      refine ⟨U2.length + U1.length, _, by simp only [List.length_append]; omega, le_SK id [] rfl (l' := [(0, .ref 1000000000 (P_ ++ (X_ ++ (Y_ ++ Q_))).length), (2, .d (iv m)), (4, .d (.fn cf cs)), (10, .d (iv (U2).length)), (11, .d (iv (U1).length))]) (m' := [(1000000000, (⟨True, 31, 5, true, false, 1000000000, aV (((A ++ V) ++ (U2 ++ (U1 ++ B))))⟩ : ARow))]) ?_ ?_ ?_ ?_, A ++ V, U2, U1, B, hU2, hU1, by simp only [List.length_append] at hmu ⊢; omega, by rw [← hE]; simp, rfl, rfl⟩
      · simp only [leV, look_cons, Nat.reduceBEq, cond_true, cond_false, hw2, hl12]; exact ⟨VLe.refl _, VLe.refl _, VLe.refl _, VLe.refl _, VLe.refl _, trivial⟩
      · exact ⟨fun _ => ⟨_, rfl, RowLe.same (by rw [hsw]; rfl) (aV_ids _)⟩, fun h => by simp at h, trivial⟩
      · simp [wfV, AV.ids, lookR]
      · exact ⟨fun e he r' hr' => by rw [ids_data e he] at hr'; simp at hr', trivial⟩
    · intro hb
      have hgt : U.length < V.length := by have := of_decide_eq_false hb; omega
      clear hb
      obtain ⟨V1, V2, rfl, hl12⟩ : ∃ V1 V2, V = V1 ++ V2 ∧ U.length = V2.length := ⟨V.take (V.length - U.length), V.drop (V.length - U.length), by simp, by simp; omega⟩
      have hlu : (V1 ++ V2).length = V1.length + V2.length := List.length_append
      have hV1 : V1 ≠ [] := List.length_pos_iff.1 (by omega)
      have hV2 : V2 ≠ [] := List.length_pos_iff.1 (by omega)
      have hw1 : IntKind.wrap .i64 ((m : Int) - (U.length : Int)) = ((m - U.length : Nat) : Int) := by rw [wrapI (by omega) (by omega)]; omega
      have hw3 : IntKind.wrap .i64 ((m : Int) + ((V1 ++ V2).length : Int)) = ((m + (V1 ++ V2).length : Nat) : Int) := by rw [wrapI (by omega) (by omega)]; omega
      have hw4 : IntKind.wrap .i64 (((m + (V1 ++ V2).length : Nat) : Int) - (U.length : Int)) = ((m + (V1 ++ V2).length - U.length : Nat) : Int) := by rw [wrapI (by omega) (by omega)]; omega
      have hw2 : IntKind.wrap .i64 (((V1 ++ V2).length : Int) - (U.length : Int)) = ((V1.length : Nat) : Int) := by rw [wrapI (by omega) (by omega)]; omega
      have hsw : swpR (A ++ (U ++ (V1 ++ V2 ++ B))) (m - U.length) (m + (V1 ++ V2).length - U.length) U.length = A ++ (V2 ++ (V1 ++ (U ++ B))) := by
        rw [show A ++ (U ++ (V1 ++ V2 ++ B)) = A ++ (U ++ (V1 ++ (V2 ++ B))) by simp, swpR_mid rfl hl12.symm (by omega) (by omega)]
      have hof := okM_swpR ho (m - U.length) (m + (V1 ++ V2).length - U.length) U.length (by rw [hl]; simp only [List.length_append] at hlen ⊢; omega) (by rw [hl]; simp only [List.length_append] at hlen ⊢; omega)
      refine awp_seq fun K3 hK3 => ?_
      refine awp_mut [some 35, some 36, some 37, some 38, some 39, some 40, some 41, some 42, some 43, some 44, some 45, some 46] rfl 11 rfl ?_
      simp only [List.nil_append, List.cons_append, true_and, and_true, zz0, true_implies, Nat.reduceLT, Nat.reduceLeDiff, zzI, look_nil, Nat.reduceBEq, implies_true, evS_move, zz21, gr_v, zz33, zz26, evS_call, evC_value, hw1, hw3, hw4, aV, hl, zzB, zz6, Nat.reduceEqDiff, ↓reduceIte]
      refine mut_go [1000000000] F_go101 (sBid_swap h (A ++ (U ++ (V1 ++ V2 ++ B))) ho hN2 (m - U.length) (m + (V1 ++ V2).length - U.length) U.length (by omega) (by rw [hl]; simp only [List.length_append] at hlen ⊢; omega)) (by simp [AV.ids, AV.idsL]) (by decide) (by first | exact ⟨by decide, by simp⟩ | rfl) ?_
      simp only [List.nil_append, List.cons_append, true_and, and_true, zz0, true_implies, Nat.reduceLT, Nat.reduceLeDiff, zzI, look_nil, Nat.reduceBEq, implies_true, evS_move, zz21, gr_v, zz33, zz26, evS_call, evC_value, hw1, hw3, hw4, aV, hl, zzB, zz6, Nat.reduceEqDiff, ↓reduceIte, mArgs_nil, asE_cl, asF_cl, asD_ptr, asG_ptr, asD_ep, asG_ep, List.mem_singleton, forall_eq, asEc_cons, asEc_nil, mArgs_d, mArgs_m, mRows_nil, mRows_cons, mNewL, nxM, mBase, mName, oksL, List.getElem?_cons_zero, List.getElem?_cons_succ, zzF, asE_ag, asE_d, asE_ref, asEc_cons, asEc_nil, asF_d, asF_ref, asF_ag, asGs, AV.ids, AV.idsL, List.length_singleton, List.not_mem_nil, false_implies, forall_const, atsL, asD_self, asD_nil, asD_sl, asD_agg, asD_int, asD_bool, asD_func, asD_ag, asD_ref, asG_d, asG_ag, asG_ref, freeN, AV.ren, AV.renL, addRows, ORow.row, Nat.reduceMul, Nat.reduceAdd, zz9, Option.bind_some, Option.map_some, forall_eq', D.sl.injEq, zz16, Option.some.injEq, exists_eq_left', exists_eq_left, exists_eq', exists_eq, zzD, S_func, Sk_func]
      refine ⟨fun l hl2 => h.flat l (hof l hl2), ?_⟩
      refine hK3 _ ?_; try clear hK3 K3
      refine awp_keepL [0, 2, 4, 10, 11] ?_
      simp only [zz20, zzI, look_nil, Nat.reduceBEq]
      refine awp_plain F_mixed [some 47, some 48, some 49, some 11] rfl ?_
      simp only [List.nil_append, List.cons_append, true_and, and_true, zz0, true_implies, Nat.reduceLT, Nat.reduceLeDiff, zzI, look_nil, Nat.reduceBEq, implies_true, evS_move, zz21, gr_v, zz33, evS_assign, hw2, zz6, Nat.reduceEqDiff, ↓reduceIte]
      refine ⟨U.length + V1.length, _, by simp only [List.length_append]; omega, le_SK id [] rfl (l' := [(0, .ref 1000000000 (P_ ++ (X_ ++ (Y_ ++ Q_))).length), (2, .d (iv m)), (4, .d (.fn cf cs)), (10, .d (iv (V2).length)), (11, .d (iv (V1).length))]) (m' := [(1000000000, (⟨True, 31, 5, true, false, 1000000000, aV ((A ++ (V2 ++ (V1 ++ (U ++ B)))))⟩ : ARow))]) ?_ ?_ ?_ ?_, A, V2, V1, U ++ B, hV2, hV1, by omega, by rw [← hE]; simp, by rw [hl12], rfl⟩
      · simp only [leV, look_cons, Nat.reduceBEq, cond_true, cond_false, hw2, hl12]; exact ⟨VLe.refl _, VLe.refl _, VLe.refl _, VLe.refl _, VLe.refl _, trivial⟩
      · exact ⟨fun _ => ⟨_, rfl, RowLe.same (by rw [hsw]; rfl) (aV_ids _)⟩, fun h => by simp at h, trivial⟩
      · simp [wfV, AV.ids, lookR]
      · exact ⟨fun e he r' hr' => by rw [ids_data e he] at hr'; simp at hr', trivial⟩
  · intro hb
    have heq : U.length = V.length := by
      have hb2 : (U.length : Int) = V.length := by simpa using hb
      omega
    clear hb
    have hw1 : IntKind.wrap .i64 ((m : Int) - (U.length : Int)) = ((m - U.length : Nat) : Int) := by rw [wrapI (by omega) (by omega)]; omega
    have hsw : swpR (A ++ (U ++ (V ++ B))) (m - U.length) m U.length = P_ ++ (Y_ ++ (X_ ++ Q_)) := by
      rw [← hE, show A ++ (U ++ (V ++ B)) = A ++ (U ++ ([] ++ (V ++ B))) by simp, swpR_mid rfl heq.symm (by omega) (by simp; omega)]
      simp
    have hof := okM_swpR ho (m - U.length) m U.length (by rw [hl]; simp only [List.length_append]; omega) (by rw [hl]; simp only [List.length_append]; omega)
    refine awp_exit ?_
    simp only [zz6, Nat.reduceEqDiff, ↓reduceIte]
    refine hK0 _ ?_; try clear hK0 K0
    refine awp_keepL [0, 2, 4, 10] ?_
    simp only [zz20, zzI, look_nil, Nat.reduceBEq]
    refine awp_mut [some 50, some 51, some 52, some 53, some 54, some 55, some 56, some 57] rfl 7 rfl ?_
    simp only [List.nil_append, List.cons_append, true_and, and_true, zz0, true_implies, Nat.reduceLT, Nat.reduceLeDiff, zzI, look_nil, Nat.reduceBEq, implies_true, evS_move, zz21, gr_v, zz33, evS_call, evC_value, hw1, aV, hl, zzB, zz6, Nat.reduceEqDiff, ↓reduceIte]
    refine mut_go [1000000000] F_go101 (sBid_swap h (A ++ (U ++ (V ++ B))) ho hN2 (m - U.length) m U.length (by omega) (by rw [hl]; simp only [List.length_append]; omega)) (by simp [AV.ids, AV.idsL]) (by decide) (by first | exact ⟨by decide, by simp⟩ | rfl) ?_
    simp only [List.nil_append, List.cons_append, true_and, and_true, zz0, true_implies, Nat.reduceLT, Nat.reduceLeDiff, zzI, look_nil, Nat.reduceBEq, implies_true, evS_move, zz21, gr_v, zz33, evS_call, evC_value, hw1, aV, hl, zzB, zz6, Nat.reduceEqDiff, ↓reduceIte, mArgs_nil, asE_cl, asF_cl, asD_ptr, asG_ptr, asD_ep, asG_ep, List.mem_singleton, forall_eq, asEc_cons, asEc_nil, mArgs_d, mArgs_m, mRows_nil, mRows_cons, mNewL, nxM, mBase, mName, oksL, List.getElem?_cons_zero, List.getElem?_cons_succ, zzF, asE_ag, asE_d, asE_ref, asEc_cons, asEc_nil, asF_d, asF_ref, asF_ag, asGs, AV.ids, AV.idsL, List.length_singleton, List.not_mem_nil, false_implies, forall_const, atsL, asD_self, asD_nil, asD_sl, asD_agg, asD_int, asD_bool, asD_func, asD_ag, asD_ref, asG_d, asG_ag, asG_ref, freeN, AV.ren, AV.renL, addRows, ORow.row, Nat.reduceMul, Nat.reduceAdd, zz9, Option.bind_some, Option.map_some, forall_eq', D.sl.injEq, zz16, Option.some.injEq, exists_eq_left', exists_eq_left, exists_eq', exists_eq, zzD, S_func, Sk_func]
    refine ⟨fun l hl2 => h.flat l (hof l hl2), ?_⟩
    have hfl : ∀ l, l ∈ P_ ++ (Y_ ++ (X_ ++ Q_)) → flatDs l := fun l hl2 => h.flat l (by rw [hsw] at hof; exact hof l hl2)
    refine doneM [] (by simp [resCs, resC, S, List.getD, look_cons, lookR, ]) ?_ (by simp [flatA, flatAs, flatD, ]) (by simp [AV.ids, AV.idsL, ]) (by decide) (by simp) ?_ ?_
    · simp only [List.map_cons, List.map_nil, resA, S_getD, S_mem, lookR_cons, lookR_nil, Nat.reduceLT, Nat.reduceLeDiff, look_cons, Nat.reduceBEq, cond_true, cond_false, resAll, List.getD_cons_zero, List.getD_cons_succ, List.drop_zero, List.drop_succ_cons, List.take_succ_cons, List.take_zero, ]; rfl
    · exact trivial
    · exact ⟨⟨_, rfl, trivial, rfl, rfl, by rw [hsw]⟩, hfl, trivial⟩
end Go.Proofs.Ytopifbpibkpmmaa
