import Derived.Test.YtopifbpibkpmmaaSpecU
import Derived.Laws.Externs
import Derived.Laws.StructEq
import Derived.Laws.Tables
import Derived.KernelRfl
namespace Go.Proofs.Ytopifbpibkpmmaa
open Go.RowKit
set_option linter.unusedVariables false
set_option linter.unusedSimpArgs false
theorem F_mixed : Try.prog.follows .mixedOrders = true := by kernel_rfl
theorem F_sl22 : sliceT Try.prog 22 = some 31 := by kernel_rfl
theorem F_sz31 : szT Try.prog 31 = 5 := by kernel_rfl
theorem F_ok31 : tyOk Try.prog 31 = true := by kernel_rfl
theorem F_ag31 : aggT Try.prog 31 = true := by kernel_rfl
theorem sBid_swap {cf : FuncId} {cs : List D} {c : List D → List D → Int} {Pd : List D → Prop} (h : SC Try.prog cf cs c Pd 5) (M : List (List D)) (hM : okM Pd M) (hN : M.length ≤ 1000000) (a b n : Nat) (h1 : a + n ≤ b) (h2 : b + n ≤ M.length) : MCalls Try.prog 101 [.m 0, .d (iv a), .d (iv b), .d (iv n), .d (.fn cf cs)] [⟨31, 5, M⟩] [⟨31, 5, swpR M a b n⟩] [] (.tp []) := by
  refine mcalls_S (rs := []) Try.func101 rfl rfl 38 [(0, .ref 1000000000 (M).length), (1, .d (iv a)), (2, .d (iv b)), (3, .d (iv n)), (4, .d (.fn cf cs))] [(1000000000, (⟨True, 31, 5, true, false, 1000000000, (M).map (·.map .d)⟩ : ARow))] rfl (by simp) (by rfl) (by rfl) (by rfl) (by rfl) (by rfl) ?_
  change AWp _ _ _ (S _ _ [(1000000000, (⟨True, 31, 5, true, false, 1000000000, aV (M)⟩ : ARow))])
  refine awp_seq fun K0 hK0 => ?_
  refine awp_plain F_mixed [some 10] rfl ?_
  simp only [List.nil_append, List.cons_append, true_and, and_true, zz0, true_implies, Nat.reduceLT, Nat.reduceLeDiff, zzI, look_nil, Nat.reduceBEq, implies_true, evS_assign, zz6, Nat.reduceEqDiff, ↓reduceIte]
  refine hK0 _ ?_; try clear hK0 K0
  refine awp_keepL [0, 1, 2, 3, 10] ?_
  simp only [zz20, zzI, look_nil, Nat.reduceBEq]
  refine awp_block ?_
  refine awp_loop (fun m s => ∃ i : Nat, i ≤ n ∧ m = n - i ∧ s = S 38 [(0, .ref 1000000000 M.length), (1, .d (iv a)), (2, .d (iv b)), (3, .d (iv n)), (10, .d (iv i))] [(1000000000, (⟨True, 31, 5, true, false, 1000000000, aV (swpR M a b i)⟩ : ARow))]) n _ (le_SK id [] rfl (l' := [(0, .ref 1000000000 M.length), (1, .d (iv a)), (2, .d (iv b)), (3, .d (iv n)), (10, .d (iv ((0 : Nat) : Int)))]) (m' := [(1000000000, (⟨True, 31, 5, true, false, 1000000000, aV (swpR M a b 0)⟩ : ARow))]) ?_ ?_ ?_ ?_) ⟨0, by omega, by omega, rfl⟩ ?_
  · simp only [leV, look_cons, Nat.reduceBEq, cond_true, cond_false]; exact ⟨VLe.refl _, VLe.refl _, VLe.refl _, VLe.refl _, VLe.refl _, trivial⟩
  · exact ⟨fun _ => ⟨_, rfl, RowLe.same rfl (aV_ids _)⟩, fun h => by simp at h, trivial⟩
  · simp [wfV, AV.ids, lookR]
  · exact ⟨fun e he r' hr' => by rw [aV_ids _ e he] at hr'; simp at hr', trivial⟩
  rintro m s ⟨i, hi, rfl, rfl⟩
  have hl := swpR_len M a b i
  have ho := okM_swpR hM a b i (by omega) (by omega)
  refine awp_seq fun K1 hK1 => ?_
  refine awp_seq fun K2 hK2 => ?_
  refine awp_plain F_mixed [some 11, some 12, some 13] rfl ?_
  simp only [List.nil_append, List.cons_append, true_and, and_true, zz0, true_implies, Nat.reduceLT, Nat.reduceLeDiff, zzI, look_nil, Nat.reduceBEq, implies_true, evS_move, zz21, gr_v, zz22, zz6, Nat.reduceEqDiff, ↓reduceIte]
  refine hK2 _ ?_; try clear hK2 K2
  refine awp_keepL [0, 1, 2, 3, 10, 13] ?_
  simp only [zz20, zzI, look_nil, Nat.reduceBEq]
  refine awp_condS _ (by decide) (by simp only [look_cons, Nat.reduceBEq, cond_true, cond_false]; rfl) ?_ ?_
  · intro hb
    have hi2 : i < n := by have := of_decide_eq_true hb; omega
    clear hb
    have hwa : IntKind.wrap .i64 ((a : Int) + (i : Int)) = ((a + i : Nat) : Int) := by rw [wrapI (by omega) (by omega)]; omega
    have hwb : IntKind.wrap .i64 ((b : Int) + (i : Int)) = ((b + i : Nat) : Int) := by rw [wrapI (by omega) (by omega)]; omega
    have hwi : IntKind.wrap .i64 ((i : Int) + 1) = ((i + 1 : Nat) : Int) := by rw [wrapI (by omega) (by omega)]; omega
    obtain ⟨q1, q2, q3, q4, q5, q6, q7, q8, q9, q10, q11⟩ := swpF h ho (i := a + i) (k := b + i) (by omega) (by omega)
    have qi := ltI (show a + i < M.length by omega)
    have qk := ltI (show b + i < M.length by omega)
    have qm := eq_true (show a + i < M.length by omega)
    have qn := eq_true (show b + i < M.length by omega)
    refine awp_skip ?_
    simp only [zz6, Nat.reduceEqDiff, ↓reduceIte]
    refine hK1 _ ?_; try clear hK1 K1
    refine awp_keepL [0, 1, 2, 3, 10] ?_
    simp only [zz20, zzI, look_nil, Nat.reduceBEq]
    refine awp_seq fun K1 hK1 => ?_
    refine awp_block ?_
    refine awp_draw F_mixed [some 16, some 17, some 18, some 19, some 20, some 21, some 22, some 23, some 24, some 25, some 26, some 27, some 28, some 29, some 30, some 31, some 32, some 33, some 34, some 35, some 36, none, some 37, none] rfl (by kernel_rfl) ?_
    simp only [List.nil_append, List.cons_append, true_and, and_true, zz0, true_implies, Nat.reduceLT, Nat.reduceLeDiff, zzI, look_nil, Nat.reduceBEq, implies_true, evS_move, zz21, gr_v, zz26, evS_indexAddr, zz23, zz24, F_sl22, F_sz31, Option.map_some, zz16, Option.some.injEq, exists_eq_left', exists_eq_left, eq_self, reduceCtorEq, and_self, F_ok31, F_ag31, zz8, zzD, Nat.reduceAdd, Nat.zero_add, zzF, zzB, zzE, zz18, List.append_nil, zz1, zzG, aV_len, aV_get, aV_set, List.length_map, List.length_set, Nat.le_refl, Int.toNat_natCast, ge0, List.drop_zero, Nat.zero_add, q1, q2, q3, q4, q5, q6, q7, q8, q9, q10, q11, qi, qk, qm, qn, hwa, hwb, hl, zz6, Nat.reduceEqDiff, ↓reduceIte]
    refine hK1 _ ?_; try clear hK1 K1
    refine awp_keepL [0, 1, 2, 3, 10] ?_
    simp only [zz20, zzI, look_nil, Nat.reduceBEq]
    refine awp_plain F_mixed [some 14, some 15, some 10] rfl ?_
    simp only [List.nil_append, List.cons_append, true_and, and_true, zz0, true_implies, Nat.reduceLT, Nat.reduceLeDiff, zzI, look_nil, Nat.reduceBEq, implies_true, evS_move, zz21, gr_v, zz26, evS_assign, zz6, Nat.reduceEqDiff, ↓reduceIte]
    refine ⟨n - (i + 1), _, by omega, le_SK id [] rfl (l' := [(0, .ref 1000000000 M.length), (1, .d (iv a)), (2, .d (iv b)), (3, .d (iv n)), (10, .d (iv ((i + 1 : Nat) : Int)))]) (m' := [(1000000000, (⟨True, 31, 5, true, false, 1000000000, aV (swpR M a b (i + 1))⟩ : ARow))]) ?_ ?_ ?_ ?_, i + 1, by omega, rfl, rfl⟩
    · simp only [leV, look_cons, Nat.reduceBEq, cond_true, cond_false, hwi]; exact ⟨VLe.refl _, VLe.refl _, VLe.refl _, VLe.refl _, VLe.refl _, trivial⟩
    · exact ⟨fun _ => ⟨_, rfl, RowLe.same rfl (aV_ids _)⟩, fun h => by simp at h, trivial⟩
    · simp [wfV, AV.ids, lookR]
    · exact ⟨fun e he r' hr' => by rw [aV_ids _ e he] at hr'; simp at hr', trivial⟩
  · intro hb
    obtain rfl : i = n := by have := of_decide_eq_false hb; omega
    clear hb
    have hfl : ∀ l, l ∈ swpR M a b i → flatDs l := fun l hl2 => h.flat l (ho l hl2)
    refine awp_exit ?_
    simp only [zz6, Nat.reduceEqDiff, ↓reduceIte]
    refine doneM [] (by simp [resCs, resC, S, List.getD, look_cons, lookR, ]) ?_ (by simp [flatA, flatAs, flatD, ]) (by simp [AV.ids, AV.idsL, ]) (by decide) (by simp) ?_ ?_
    · simp only [List.map_cons, List.map_nil, resA, S_getD, S_mem, lookR_cons, lookR_nil, Nat.reduceLT, Nat.reduceLeDiff, look_cons, Nat.reduceBEq, cond_true, cond_false, resAll, List.getD_cons_zero, List.getD_cons_succ, List.drop_zero, List.drop_succ_cons, List.take_succ_cons, List.take_zero, ]; rfl
    · exact trivial
    · exact ⟨⟨_, rfl, trivial, rfl, rfl, rfl⟩, hfl, trivial⟩
end Go.Proofs.Ytopifbpibkpmmaa
