import Derived.Test.YtcpkhnciplfmkaaSpecNA
import Derived.Test.YtcpkhnciplfmkaaBun
import Derived.Test.YtcpkhnciplfmkaaClr
import Derived.Laws.Externs
import Derived.Laws.StructEq
import Derived.Laws.Tables
import Derived.KernelRfl
namespace Go.Proofs.Ytcpkhnciplfmkaa
open Go.RowKit
set_option linter.unusedVariables false
set_option linter.unusedSimpArgs false
open Option renaming map_some → QA, bind_some → QB
open List renaming length_append → QC, map_cons → QD, map_nil → QE, append_nil → QG, drop_zero → QH, getD_cons_zero → QI, getD_cons_succ → QJ, take_succ_cons → QK, drop_succ_cons → QL, length_singleton → QM
open Nat renaming zero_add → QN, reduceEqDiff → QO, reduceLeDiff → QP, reduceBEq → QQ, reduceLT → QR, reduceAdd → QS, reduceMul → QT, reduceSub → QU
open Int renaming toNat_natCast → QV
open AV renaming idsL → QX, ids → QY, ren → QZ, renL → Qa
open _root_ renaming reduceIte → Qb, cond_false → Qc, cond_true → Qd, reduceCtorEq → Qe, of_decide_eq_false → Qf, of_decide_eq_true → Qg
open IntKind renaming wrap → Ql
open ORow renaming row → Qm
open VLe renaming refl → Qn
open RowLe renaming same → Qu
open Go.Proofs.Ytcpkhnciplfmkaa renaming awp_plain → Qz, awp_seq → JA, evS_assign → JB, evS_move → JC, look_cons → JD, evS_call → JE, evC_value → JF, awp_block → JH, awp_skip → JI, awp_exit → JK, awp_loop → JL, gr_v → JM, addRows → JO, aV_ids → JU, evS_indexAddr → JW, S_getD → JZ
theorem F_mixed : Try.prog.follows .mixedOrders = true := by kernel_rfl
theorem F_sl22 : sliceT Try.prog 22 = some 30 := by kernel_rfl
theorem F_sz30 : szT Try.prog 30 = 3 := by kernel_rfl
theorem F_ok30 : tyOk Try.prog 30 = true := by kernel_rfl
theorem F_ag30 : aggT Try.prog 30 = true := by kernel_rfl
theorem F_go65 : goFn Try.prog 65 := ⟨_, Try.func65, rfl, rfl⟩
theorem sDue_swap {cf : FuncId} {cs : List D} {c : List D → List D → Int} {Pd : List D → Prop} (h : SC Try.prog cf cs c Pd 3) (M : List (List D)) (hM : okM Pd M) (hN : M.length ≤ 1000000) (a b n : Nat) (h1 : a + n ≤ b) (h2 : b + n ≤ M.length) : MCalls Try.prog 65 [.m 0, .d (iv a), .d (iv b), .d (iv n), .d (.fn cf cs)] [⟨30, 3, M⟩] [⟨30, 3, swpR M a b n⟩] [] (.tp []) := by
 refine mcalls_S (rs := []) Try.func65 rfl rfl 38 [(0, .ref 1000000000 (M).length), (1, .d (iv a)), (2, .d (iv b)), (3, .d (iv n)), (4, .d (.fn cf cs))] [(1000000000, (⟨True, 30, 3, true, false, 1000000000, (M).map (·.map .d)⟩ : ARow))] rfl (by simp) (by rfl) (by rfl) (by rfl) (by rfl) (by rfl) ?_
 change AWp _ _ _ (S _ _ [(1000000000, (⟨True, 30, 3, true, false, 1000000000, aV (M)⟩ : ARow))])
 refine JA fun K0 hK0 => ?_
 refine Qz F_mixed [some 10] rfl ?_
 simp only [zzK, QR, QP, QQ, JB, zz6, QO, ↓Qb]
 refine hK0 _ ?_; try clear hK0 K0
 refine kpA [0, 1, 2, 3, 10] ?_
 refine JH ?_
 refine JL (fun m s => ∃ i : Nat, i ≤ n ∧ m = n - i ∧ s = S 38 [(0, .ref 1000000000 M.length), (1, .d (iv a)), (2, .d (iv b)), (3, .d (iv n)), (10, .d (iv i))] [(1000000000, (⟨True, 30, 3, true, false, 1000000000, aV (swpR M a b i)⟩ : ARow))]) n _ (le_SK id [] rfl (l' := [(0, .ref 1000000000 M.length), (1, .d (iv a)), (2, .d (iv b)), (3, .d (iv n)), (10, .d (iv ((0 : Nat) : Int)))]) (m' := [(1000000000, (⟨True, 30, 3, true, false, 1000000000, aV (swpR M a b 0)⟩ : ARow))]) ?_ ?_ ?_ ?_) ⟨0, by omega, by omega, rfl⟩ ?_
 ·simp only [leV, JD, QQ, Qd, Qc]; exact ⟨Qn _, Qn _, Qn _, Qn _, Qn _, trivial⟩
 ·exact ⟨fun _ => ⟨_, rfl, Qu rfl (JU _)⟩, fun h => by simp at h, trivial⟩
 ·simp [wfV, QY, lookR]
 ·exact ⟨fun e he r' hr' => by rw [JU _ e he] at hr'; simp at hr', trivial⟩
 rintro m s ⟨i, hi, rfl, rfl⟩
 have hl := swpR_len M a b i
 have ho := okM_swpR hM a b i (by omega) (by omega)
 refine JA fun K1 hK1 => ?_
 refine JA fun K2 hK2 => ?_
 refine Qz F_mixed [some 11, some 12, some 13] rfl ?_
 simp only [zzK, QR, QP, QQ, JC, zz21, JM, zz22, zz6, QO, ↓Qb]
 refine hK2 _ ?_; try clear hK2 K2
 refine kpA [0, 1, 2, 3, 10, 13] ?_
 refine cnA ?_ ?_
 ·intro hb
  have hi2 : i < n := by have := Qg hb; omega
  clear hb
  have hwa : Ql .i64 ((a : Int) + (i : Int)) = ((a + i : Nat) : Int) := by rw [wrapI (by omega) (by omega)]; omega
  have hwb : Ql .i64 ((b : Int) + (i : Int)) = ((b + i : Nat) : Int) := by rw [wrapI (by omega) (by omega)]; omega
  have hwi : Ql .i64 ((i : Int) + 1) = ((i + 1 : Nat) : Int) := by rw [wrapI (by omega) (by omega)]; omega
  obtain ⟨q1, q2, q3, q4, q5, q6, q7, q8, q9, q10, q11⟩ := swpF h ho (i := a + i) (k := b + i) (by omega) (by omega)
  have qi := ltI (show a + i < M.length by omega)
  have qk := ltI (show b + i < M.length by omega)
  have qm := eq_true (show a + i < M.length by omega)
  have qn := eq_true (show b + i < M.length by omega)
  refine JI ?_
  simp only [zz6, QO, ↓Qb]
  refine hK1 _ ?_; try clear hK1 K1
  refine kpA [0, 1, 2, 3, 10] ?_
  refine JA fun K1 hK1 => ?_
  refine JH ?_
  refine awp_draw F_mixed [some 16, some 17, some 18, some 19, some 20, some 21, some 22, some 23, some 24, some 25, some 26, some 27, some 28, some 29, some 30, some 31, some 32, some 33, some 34, some 35, some 36, none, some 37, none] rfl (by kernel_rfl) ?_
  simp only [zzK, QR, QP, QQ, JC, zz21, JM, zz26, JW, zz23, zz24, F_sl22, F_sz30, QA, zzC, yyE, Qe, F_ok30, F_ag30, zz8, zzD, QS, QN, zzH, zz18, QG, zz1, zzG, aV_len, aV_get, aV_set, List.length_map, List.length_set, Nat.le_refl, QV, ge0, QH, QN, q1, q2, q3, q4, q5, q6, q7, q8, q9, q10, q11, qi, qk, qm, qn, hwa, hwb, hl, zz6, QO, ↓Qb]
  refine hK1 _ ?_; try clear hK1 K1
  refine kpA [0, 1, 2, 3, 10] ?_
  refine Qz F_mixed [some 14, some 15, some 10] rfl ?_
  simp only [zzK, QR, QP, QQ, JC, zz21, JM, zz26, JB, zz6, QO, ↓Qb]
  refine ⟨n - (i + 1), _, by omega, le_SK id [] rfl (l' := [(0, .ref 1000000000 M.length), (1, .d (iv a)), (2, .d (iv b)), (3, .d (iv n)), (10, .d (iv ((i + 1 : Nat) : Int)))]) (m' := [(1000000000, (⟨True, 30, 3, true, false, 1000000000, aV (swpR M a b (i + 1))⟩ : ARow))]) ?_ ?_ ?_ ?_, i + 1, by omega, rfl, rfl⟩
  ·simp only [leV, JD, QQ, Qd, Qc, hwi]; exact ⟨Qn _, Qn _, Qn _, Qn _, Qn _, trivial⟩
  ·exact ⟨fun _ => ⟨_, rfl, Qu rfl (JU _)⟩, fun h => by simp at h, trivial⟩
  ·simp [wfV, QY, lookR]
  ·exact ⟨fun e he r' hr' => by rw [JU _ e he] at hr'; simp at hr', trivial⟩
 ·intro hb
  obtain rfl : i = n := by have := Qf hb; omega
  clear hb
  have hfl : ∀ l, l ∈ swpR M a b i → flatDs l := fun l hl2 => h.flat l (ho l hl2)
  refine JK ?_
  simp only [zz6, QO, ↓Qb]
  refine doneM [] (by simp [resCs, resC, S, List.getD, JD, lookR, ]) ?_ (by simp [flatA, flatAs, flatD, ]) (by simp [QY, QX, ]) (by decide) (by simp) ?_ ?_
  ·simp only [QD, QE, resA, JZ, S_mem, lookR_cons, lookR_nil, QR, QP, JD, QQ, Qd, Qc, resAll, QI, QJ, QH, QL, QK, List.take_zero, ]; rfl
  ·exact trivial
  ·exact ⟨⟨_, rfl, trivial, rfl, rfl, rfl⟩, hfl, trivial⟩
theorem sDue_ins {cf : FuncId} {cs : List D} {c : List D → List D → Int} {Pd : List D → Prop} (h : SC Try.prog cf cs c Pd 3) (P_ S_ Q_ : List (List D)) (hM : okM Pd (P_ ++ (S_ ++ Q_))) (hN : (P_ ++ (S_ ++ Q_)).length ≤ 1000000) (a b : Nat) (ha : a = P_.length) (hb : b = P_.length + S_.length) : MCalls Try.prog 59 [.m 0, .d (iv a), .d (iv b), .d (.fn cf cs)] [⟨30, 3, P_ ++ (S_ ++ Q_)⟩] [⟨30, 3, P_ ++ (isort (ltc c) S_ ++ Q_)⟩] [] (.tp []) := by
 refine mcalls_S (rs := []) Try.func59 rfl rfl 53 [(0, .ref 1000000000 ((P_ ++ (S_ ++ Q_))).length), (1, .d (iv a)), (2, .d (iv b)), (3, .d (.fn cf cs))] [(1000000000, (⟨True, 30, 3, true, false, 1000000000, ((P_ ++ (S_ ++ Q_))).map (·.map .d)⟩ : ARow))] rfl (by simp) (by rfl) (by rfl) (by rfl) (by rfl) (by rfl) ?_
 change AWp _ _ _ (S _ _ [(1000000000, (⟨True, 30, 3, true, false, 1000000000, aV ((P_ ++ (S_ ++ Q_)))⟩ : ARow))])
 have hn : P_.length + S_.length + Q_.length ≤ 1000000 := by simpa [Nat.add_assoc] using hN
 have hwa : Ql .i64 ((a : Int) + 1) = ((a + 1 : Nat) : Int) := by rw [wrapI (by omega) (by omega)]; omega
 refine JA fun K0 hK0 => ?_
 refine Qz F_mixed [some 10, some 11, some 8] rfl ?_
 simp only [zzK, QR, QP, QQ, JC, zz21, JM, zz26, JB, hwa, zz6, QO, ↓Qb]
 refine hK0 _ ?_; try clear hK0 K0
 refine kpA [0, 1, 2, 3, 8] ?_
 refine JH ?_
 refine JL (fun m s => ∃ (i : Nat) (R : List (List D)), InO (ltc c) P_ S_ Q_ i R ∧ m = b + 1 - i ∧ s = S 53 [(0, .ref 1000000000 (P_ ++ (S_ ++ Q_)).length), (1, .d (iv a)), (2, .d (iv b)), (3, .d (.fn cf cs)), (8, .d (iv i))] [(1000000000, (⟨True, 30, 3, true, false, 1000000000, aV (R)⟩ : ARow))]) (b + 1 - (a + 1)) _ (le_SK id [] rfl (l' := [(0, .ref 1000000000 (P_ ++ (S_ ++ Q_)).length), (1, .d (iv a)), (2, .d (iv b)), (3, .d (.fn cf cs)), (8, .d (iv ((a + 1 : Nat) : Int)))]) (m' := [(1000000000, (⟨True, 30, 3, true, false, 1000000000, aV ((P_ ++ (S_ ++ Q_)))⟩ : ARow))]) ?_ ?_ ?_ ?_) ⟨a + 1, _, by subst ha; exact InO.start, rfl, rfl⟩ ?_
 ·simp only [leV, JD, QQ, Qd, Qc]; exact ⟨Qn _, Qn _, Qn _, Qn _, Qn _, trivial⟩
 ·exact ⟨fun _ => ⟨_, rfl, Qu rfl (JU _)⟩, fun h => by simp at h, trivial⟩
 ·simp [wfV, QY, lookR]
 ·exact ⟨fun e he r' hr' => by rw [JU _ e he] at hr'; simp at hr', trivial⟩
 rintro m s ⟨i, R, hO, rfl, rfl⟩
 refine JA fun K1 hK1 => ?_
 refine JA fun K2 hK2 => ?_
 refine Qz F_mixed [some 12, some 13, some 14] rfl ?_
 simp only [zzK, QR, QP, QQ, JC, zz21, JM, zz22, zz6, QO, ↓Qb]
 refine hK2 _ ?_; try clear hK2 K2
 refine kpA [0, 1, 2, 3, 8, 14] ?_
 refine cnA ?_ ?_
 ·intro hb
  have hi2 : i < b := by have := Qg hb; omega
  clear hb
  have hI := hO.more (by omega)
  refine JI ?_
  simp only [zz6, QO, ↓Qb]
  refine hK1 _ ?_; try clear hK1 K1
  refine kpA [0, 1, 2, 3, 8] ?_
  refine JA fun K1 hK1 => ?_
  refine JH ?_
  refine JA fun K2 hK2 => ?_
  refine Qz F_mixed [some 17, some 9] rfl ?_
  simp only [zzK, QR, QP, QQ, JC, JB, zz6, QO, ↓Qb]
  refine hK2 _ ?_; try clear hK2 K2
  refine kpA [0, 1, 2, 3, 8, 9] ?_
  refine JH ?_
  refine JL (fun m s => ∃ (j : Nat) (R2 : List (List D)), InI (ltc c) P_ S_ Q_ i j R2 ∧ m = j ∧ s = S 53 [(0, .ref 1000000000 (P_ ++ (S_ ++ Q_)).length), (1, .d (iv a)), (2, .d (iv b)), (3, .d (.fn cf cs)), (8, .d (iv i)), (9, .d (iv j))] [(1000000000, (⟨True, 30, 3, true, false, 1000000000, aV (R2)⟩ : ARow))]) i _ (le_SK id [] rfl (l' := [(0, .ref 1000000000 (P_ ++ (S_ ++ Q_)).length), (1, .d (iv a)), (2, .d (iv b)), (3, .d (.fn cf cs)), (8, .d (iv i)), (9, .d (iv i))]) (m' := [(1000000000, (⟨True, 30, 3, true, false, 1000000000, aV (R)⟩ : ARow))]) ?_ ?_ ?_ ?_) ⟨i, _, hI, rfl, rfl⟩ ?_
  ·simp only [leV, JD, QQ, Qd, Qc]; exact ⟨Qn _, Qn _, Qn _, Qn _, Qn _, Qn _, trivial⟩
  ·exact ⟨fun _ => ⟨_, rfl, Qu rfl (JU _)⟩, fun h => by simp at h, trivial⟩
  ·simp [wfV, QY, lookR]
  ·exact ⟨fun e he r' hr' => by rw [JU _ e he] at hr'; simp at hr', trivial⟩
  clear hO hI
  rintro j s ⟨j0, R2, hJ, rfl, rfl⟩
  obtain ⟨hl0, hib, hji, haj, hai⟩ := hJ.len
  have hl : R2.length = (P_ ++ (S_ ++ Q_)).length := by simp only [QC]; omega
  have ho := hJ.ok hM
  have hz := okM.len h ho
  have hwj : (Ql .i64 ((j : Int) - 1)).toNat = j - 1 := by rw [wrapI (by omega) (by omega)]; omega
  have hwi : Ql .i64 ((i : Int) + 1) = ((i + 1 : Nat) : Int) := by rw [wrapI (by omega) (by omega)]; omega
  refine JA fun K3 hK3 => ?_
  refine JA fun K4 hK4 => ?_
  refine awp_draw F_mixed [some 18, some 19, some 20, some 21, some 22, some 23, some 24, some 25, some 26, some 27, some 28, some 29, some 30, some 31, some 32, some 33, some 34] rfl (by kernel_rfl) ?_
  simp only [zzK, QR, QP, QQ, QU, JZ, zz5, and_imp, imp_and, imp_self, JC, zz21, JM, zz25, JW, zz23, zz24, F_sl22, F_sz30, QA, zzC, yyE, Qe, F_ok30, F_ag30, zz8, zzD, QS, QN, zzH, zz33, JE, JF, zz22, zz13, pickK_l, pickK_r, aV_len, aV_get, List.length_map, Nat.le_refl, QV, ge0, QH, QN, hl, hwj, tkD R2 hz, asEc_map, asGs_map, zz6, QO, ↓Qb]
  have hjl : j < (P_ ++ (S_ ++ Q_)).length := by rw [← hl]; omega
  have hgt : decide ((j : Int) > (a : Int)) = true → a < j := fun hg => by have := Qg hg; omega
  refine ⟨fun hg => by omega, ⟨fun hg => by omega, fun hg => by rw [lenD hz (by omega)]; exact Nat.le_refl _⟩, ⟨fun hg => by have := hgt hg; rw [wrapI (by omega) (by omega)]; omega, fun hg => by have := hgt hg; rw [wrapI (by omega) (by omega)]; omega⟩, ⟨fun hg => by omega, fun hg => by rw [lenD hz (by omega)]; exact Nat.le_refl _⟩, ?_⟩
  refine call_goC ?_ ?_ h.go (fun hG => h.call (R2.getD j []) (R2.getD (j - 1) []) (ho _ (gd_mem (by omega))) (ho _ (gd_mem (by omega)))) (by simp [QY, QX]) (by simp) ?_
  ·decide
  ·simp only [JD, QQ, Qd, Qc, bare_d, bare_wh]
  simp only [zzK, QR, QP, QQ, QU, JZ, zz5, and_imp, imp_and, imp_self, JC, zz21, JM, zz25, JW, zz23, zz24, F_sl22, F_sz30, QA, zzC, yyE, Qe, F_ok30, F_ag30, zz8, zzD, QS, QN, zzH, zz33, JE, JF, zz22, zz13, pickK_l, pickK_r, aV_len, aV_get, List.length_map, Nat.le_refl, QV, ge0, QH, QN, hl, hwj, tkD R2 hz, asEc_map, asGs_map, zz6, QO, ↓Qb, QU, JZ, Gp_some, and_imp, imp_and, imp_self, asEs_cons, asEs_nil, asE_ag, asE_d, asE_ref, asEc_cons, asEc_nil, asF_d, asF_ref, asF_ag, asGs, oksF, atsL, oksG, freeN, QZ, Qa, JO, Qm, QT, QS, zz9, unDs_map, QB, QA, S_mem, yyF, List.length_cons, zz2]
  refine hK4 _ ?_; try clear hK4 K4
  refine kpA [0, 1, 2, 3, 8, 9, 34] ?_
  refine cnA ?_ ?_
  ·intro hb
   have hja : a < j := by
    cases hd : decide ((j : Int) > (a : Int)) with
    | true => have := Qg hd; omega
    | false => rw [hd] at hb; cases hb
   have hc2 : decide (c (R2.getD j []) (R2.getD (j - 1) []) < 0) = true := by rw [show decide ((j : Int) > (a : Int)) = true from decide_eq_true (by omega)] at hb; exact hb
   clear hb
   have hwj2 : Ql .i64 ((j : Int) - 1) = ((j - 1 : Nat) : Int) := by rw [wrapI (by omega) (by omega)]; omega
   have hjl : j < (P_ ++ (S_ ++ Q_)).length := by rw [← hl]; omega
   obtain ⟨q1, q2, q3, q4, q5, q6, q7, q8, q9, q10, q11⟩ := swpF h ho (i := j) (k := j - 1) (by omega) (by omega)
   have qi := ltI (show j < (P_ ++ (S_ ++ Q_)).length by omega)
   have qk := ltI (show j - 1 < (P_ ++ (S_ ++ Q_)).length by omega)
   have qm := eq_true (show j < (P_ ++ (S_ ++ Q_)).length by omega)
   have qn := eq_true (show j - 1 < (P_ ++ (S_ ++ Q_)).length by omega)
   refine JI ?_
   simp only [zz6, QO, ↓Qb]
   refine hK3 _ ?_; try clear hK3 K3
   refine kpA [0, 1, 2, 3, 8, 9] ?_
   refine JA fun K3 hK3 => ?_
   refine JH ?_
   refine awp_draw F_mixed [some 37, some 38, some 39, some 40, some 41, some 42, some 43, some 44, some 45, some 46, some 47, some 48, some 49, some 50, some 51, none, some 52, none] rfl (by kernel_rfl) ?_
   simp only [zzK, QR, QP, QQ, JC, zz21, JM, zz33, JW, zz23, zz24, F_sl22, F_sz30, QA, zzC, yyE, Qe, F_ok30, F_ag30, zz8, zzD, QS, QN, zzH, zz18, QG, zz1, zzG, aV_len, aV_get, aV_set, List.length_map, List.length_set, Nat.le_refl, QV, ge0, QH, QN, q1, q2, q3, q4, q5, q6, q7, q8, q9, q10, q11, qi, qk, qm, qn, hwj2, hl, zz6, QO, ↓Qb]
   refine hK3 _ ?_; try clear hK3 K3
   refine kpA [0, 1, 2, 3, 8, 9] ?_
   refine Qz F_mixed [some 35, some 36, some 9] rfl ?_
   simp only [zzK, QR, QP, QQ, JC, zz21, JM, zz33, JB, hwj2, zz6, QO, ↓Qb]
   refine ⟨j - 1, _, by omega, le_SK id [] rfl (l' := [(0, .ref 1000000000 (P_ ++ (S_ ++ Q_)).length), (1, .d (iv a)), (2, .d (iv b)), (3, .d (.fn cf cs)), (8, .d (iv i)), (9, .d (iv ((j - 1 : Nat) : Int)))]) (m' := [(1000000000, (⟨True, 30, 3, true, false, 1000000000, aV (swp R2 j (j - 1))⟩ : ARow))]) ?_ ?_ ?_ ?_, j - 1, _, hJ.step (by omega) (cmp_pos hc2), rfl, rfl⟩
   ·simp only [leV, JD, QQ, Qd, Qc, hwj2]; exact ⟨Qn _, Qn _, Qn _, Qn _, Qn _, Qn _, trivial⟩
   ·exact ⟨fun _ => ⟨_, rfl, Qu rfl (JU _)⟩, fun h => by simp at h, trivial⟩
   ·simp [wfV, QY, lookR]
   ·exact ⟨fun e he r' hr' => by rw [JU _ e he] at hr'; simp at hr', trivial⟩
  ·intro hb
   have hO2 := hJ.done h.swo (by
    cases hd : decide ((j : Int) > (a : Int)) with
    | true => rw [hd] at hb; exact .inr (cmp_neg hb)
    | false => have := Qf hd; exact .inl (by omega))
   clear hb
   refine JK ?_
   simp only [zz6, QO, ↓Qb]
   refine hK1 _ ?_; try clear hK1 K1
   refine kpA [0, 1, 2, 3, 8] ?_
   refine Qz F_mixed [some 15, some 16, some 8] rfl ?_
   simp only [zzK, QR, QP, QQ, JC, zz21, JM, zz26, JB, hwi, zz6, QO, ↓Qb]
   refine ⟨b + 1 - (i + 1), _, by omega, le_SK id [] rfl (l' := [(0, .ref 1000000000 (P_ ++ (S_ ++ Q_)).length), (1, .d (iv a)), (2, .d (iv b)), (3, .d (.fn cf cs)), (8, .d (iv ((i + 1 : Nat) : Int)))]) (m' := [(1000000000, (⟨True, 30, 3, true, false, 1000000000, aV (R2)⟩ : ARow))]) ?_ ?_ ?_ ?_, i + 1, R2, hO2, rfl, rfl⟩
   ·simp only [leV, JD, QQ, Qd, Qc, hwi]; exact ⟨Qn _, Qn _, Qn _, Qn _, Qn _, trivial⟩
   ·exact ⟨fun _ => ⟨_, rfl, Qu rfl (JU _)⟩, fun h => by simp at h, trivial⟩
   ·simp [wfV, QY, lookR]
   ·exact ⟨fun e he r' hr' => by rw [JU _ e he] at hr'; simp at hr', trivial⟩
 ·intro hb
  have hi2 : b ≤ i := by have := Qf hb; omega
  clear hb
  obtain rfl := hO.done (by omega)
  have ho2 := hO.ok hM
  have hfl : ∀ l, l ∈ P_ ++ (isort (ltc c) S_ ++ Q_) → flatDs l := fun l hl2 => h.flat l (ho2 l hl2)
  refine JK ?_
  simp only [zz6, QO, ↓Qb]
  refine doneM [] (by simp [resCs, resC, S, List.getD, JD, lookR, ]) ?_ (by simp [flatA, flatAs, flatD, ]) (by simp [QY, QX, ]) (by decide) (by simp) ?_ ?_
  ·simp only [QD, QE, resA, JZ, S_mem, lookR_cons, lookR_nil, QR, QP, JD, QQ, Qd, Qc, resAll, QI, QJ, QH, QL, QK, List.take_zero, ]; rfl
  ·exact trivial
  ·exact ⟨⟨_, rfl, trivial, rfl, rfl, rfl⟩, hfl, trivial⟩
theorem sDue_rot {cf : FuncId} {cs : List D} {c : List D → List D → Int} {Pd : List D → Prop} (h : SC Try.prog cf cs c Pd 3) (P_ X_ Y_ Q_ : List (List D)) (hM : okM Pd (P_ ++ (X_ ++ (Y_ ++ Q_)))) (hN : (P_ ++ (X_ ++ (Y_ ++ Q_))).length ≤ 1000000) (hX : X_ ≠ []) (hY : Y_ ≠ []) (a m b : Nat) (ha : a = P_.length) (hm : m = P_.length + X_.length) (hb : b = P_.length + X_.length + Y_.length) : MCalls Try.prog 62 [.m 0, .d (iv a), .d (iv m), .d (iv b), .d (.fn cf cs)] [⟨30, 3, P_ ++ (X_ ++ (Y_ ++ Q_))⟩] [⟨30, 3, P_ ++ (Y_ ++ (X_ ++ Q_))⟩] [] (.tp []) := by
 refine mcalls_S (rs := []) Try.func62 rfl rfl 58 [(0, .ref 1000000000 ((P_ ++ (X_ ++ (Y_ ++ Q_)))).length), (1, .d (iv a)), (2, .d (iv m)), (3, .d (iv b)), (4, .d (.fn cf cs))] [(1000000000, (⟨True, 30, 3, true, false, 1000000000, ((P_ ++ (X_ ++ (Y_ ++ Q_)))).map (·.map .d)⟩ : ARow))] rfl (by simp) (by rfl) (by rfl) (by rfl) (by rfl) (by rfl) ?_
 change AWp _ _ _ (S _ _ [(1000000000, (⟨True, 30, 3, true, false, 1000000000, aV ((P_ ++ (X_ ++ (Y_ ++ Q_))))⟩ : ARow))])
 have hn : P_.length + X_.length + Y_.length + Q_.length ≤ 1000000 := by simpa [Nat.add_assoc] using hN
 have hwx : Ql .i64 ((m : Int) - (a : Int)) = ((X_.length : Nat) : Int) := by rw [wrapI (by omega) (by omega)]; omega
 have hwy : Ql .i64 ((b : Int) - (m : Int)) = ((Y_.length : Nat) : Int) := by rw [wrapI (by omega) (by omega)]; omega
 refine JA fun K0 hK0 => ?_
 refine Qz F_mixed [some 12, some 13, some 14, some 10] rfl ?_
 simp only [zzK, QR, QP, QQ, JC, zz21, JM, zz33, JB, hwx, zz6, QO, ↓Qb]
 refine hK0 _ ?_; try clear hK0 K0
 refine kpA [0, 2, 3, 4, 10] ?_
 refine JA fun K0 hK0 => ?_
 refine Qz F_mixed [some 15, some 16, some 17, some 11] rfl ?_
 simp only [zzK, QR, QP, QQ, JC, zz21, JM, zz33, JB, hwy, zz6, QO, ↓Qb]
 refine hK0 _ ?_; try clear hK0 K0
 refine kpA [0, 2, 4, 10, 11] ?_
 refine JA fun K0 hK0 => ?_
 refine JH ?_
 refine JL (fun mm s => ∃ A U V B : List (List D), U ≠ [] ∧ V ≠ [] ∧ m = A.length + U.length ∧ A ++ (V ++ (U ++ B)) = P_ ++ (Y_ ++ (X_ ++ Q_)) ∧ mm = U.length + V.length ∧ s = S 58 [(0, .ref 1000000000 (P_ ++ (X_ ++ (Y_ ++ Q_))).length), (2, .d (iv m)), (4, .d (.fn cf cs)), (10, .d (iv (U).length)), (11, .d (iv (V).length))] [(1000000000, (⟨True, 30, 3, true, false, 1000000000, aV ((A ++ (U ++ (V ++ B))))⟩ : ARow))]) (X_.length + Y_.length) _ (le_SK id [] rfl (l' := [(0, .ref 1000000000 (P_ ++ (X_ ++ (Y_ ++ Q_))).length), (2, .d (iv m)), (4, .d (.fn cf cs)), (10, .d (iv (X_).length)), (11, .d (iv (Y_).length))]) (m' := [(1000000000, (⟨True, 30, 3, true, false, 1000000000, aV ((P_ ++ (X_ ++ (Y_ ++ Q_))))⟩ : ARow))]) ?_ ?_ ?_ ?_) ⟨P_, X_, Y_, Q_, hX, hY, hm, rfl, rfl, rfl⟩ ?_
 ·simp only [leV, JD, QQ, Qd, Qc]; exact ⟨Qn _, Qn _, Qn _, Qn _, Qn _, trivial⟩
 ·exact ⟨fun _ => ⟨_, rfl, Qu rfl (JU _)⟩, fun h => by simp at h, trivial⟩
 ·simp [wfV, QY, lookR]
 ·exact ⟨fun e he r' hr' => by rw [JU _ e he] at hr'; simp at hr', trivial⟩
 rintro mm s ⟨A, U, V, B, hU, hV, hmu, hE, rfl, rfl⟩
 have hlen := congrArg List.length hE
 simp only [QC] at hlen
 have hN2 : (A ++ (U ++ (V ++ B))).length ≤ 1000000 := by simp only [QC]; omega
 have ho : okM Pd (A ++ (U ++ (V ++ B))) := by
  have hF : okM Pd (A ++ (V ++ (U ++ B))) := by rw [hE]; simp only [okM_app] at hM ⊢; exact ⟨hM.1, hM.2.2.1, hM.2.1, hM.2.2.2⟩
  simp only [okM_app] at hF ⊢
  exact ⟨hF.1, hF.2.2.1, hF.2.1, hF.2.2.2⟩
 have hl : (A ++ (U ++ (V ++ B))).length = (P_ ++ (X_ ++ (Y_ ++ Q_))).length := by simp only [QC]; omega
 have hu := List.length_pos_iff.2 hU
 have hv := List.length_pos_iff.2 hV
 refine JA fun K2 hK2 => ?_
 refine JA fun K3 hK3 => ?_
 refine Qz F_mixed [some 18, some 19, some 20] rfl ?_
 simp only [zzK, QR, QP, QQ, JC, zz21, JM, zz28, zz6, QO, ↓Qb]
 refine hK3 _ ?_; try clear hK3 K3
 refine kpA [0, 2, 4, 10, 11, 20] ?_
 refine cnA ?_ ?_
 ·intro hb
  have hne : U.length ≠ V.length := by intro he; rw [he] at hb; simp at hb
  clear hb
  refine JI ?_
  simp only [zz6, QO, ↓Qb]
  refine hK2 _ ?_; try clear hK2 K2
  refine kpA [0, 2, 4, 10, 11] ?_
  refine JH ?_
  refine JA fun K2 hK2 => ?_
  refine Qz F_mixed [some 21, some 22, some 23] rfl ?_
  simp only [zzK, QR, QP, QQ, JC, zz21, JM, zz25, zz6, QO, ↓Qb]
  refine hK2 _ ?_; try clear hK2 K2
  refine kpA [0, 2, 4, 10, 11, 23] ?_
  refine cnA ?_ ?_
  ·intro hb
   have hgt : V.length < U.length := by have := Qg hb; omega
   clear hb
   obtain ⟨U1, U2, rfl, hl12⟩ : ∃ U1 U2, U = U1 ++ U2 ∧ V.length = U1.length := ⟨U.take V.length, U.drop V.length, by simp, by simp; omega⟩
   have hlu : (U1 ++ U2).length = U1.length + U2.length := QC
   have hU1 : U1 ≠ [] := List.length_pos_iff.1 (by omega)
   have hU2 : U2 ≠ [] := List.length_pos_iff.1 (by omega)
   have hw1 : Ql .i64 ((m : Int) - ((U1 ++ U2).length : Int)) = ((m - (U1 ++ U2).length : Nat) : Int) := by rw [wrapI (by omega) (by omega)]; omega
   have hw2 : Ql .i64 (((U1 ++ U2).length : Int) - (V.length : Int)) = ((U2.length : Nat) : Int) := by rw [wrapI (by omega) (by omega)]; omega
   have hsw : swpR (A ++ (U1 ++ U2 ++ (V ++ B))) (m - (U1 ++ U2).length) m V.length = (A ++ V) ++ (U2 ++ (U1 ++ B)) := by
    rw [show A ++ (U1 ++ U2 ++ (V ++ B)) = A ++ (U1 ++ (U2 ++ (V ++ B))) by simp, swpR_mid hl12.symm rfl (by omega) (by omega)]
    simp
   have hof := okM_swpR ho (m - (U1 ++ U2).length) m V.length (by rw [hl]; simp only [QC] at hlen ⊢; omega) (by rw [hl]; simp only [QC] at hlen ⊢; omega)
   refine JA fun K3 hK3 => ?_
   refine awp_mut [some 24, some 25, some 26, some 27, some 28, some 29, some 30, some 31] rfl 7 rfl ?_
   simp only [zzK, QR, QP, QQ, JC, zz21, JM, zz33, JE, JF, hw1, aV, hl, zzB, zz6, QO, ↓Qb]
   refine mut_go [1000000000] F_go65 (sDue_swap h (A ++ (U1 ++ U2 ++ (V ++ B))) ho hN2 (m - (U1 ++ U2).length) m V.length (by omega) (by rw [hl]; simp only [QC] at hlen ⊢; omega)) (by simp [QY, QX]) (by decide) (by first | exact ⟨by decide, by simp⟩ | rfl) ?_
   simp only [zzK, QR, QP, QQ, JC, zz21, JM, zz33, JE, JF, hw1, aV, hl, zzB, zz6, QO, ↓Qb, mArgs_nil, asE_cl, asF_cl, asD_ptr, asG_ptr, asD_ep, asG_ep, List.mem_singleton, forall_eq, asEc_cons, asEc_nil, mArgs_d, mArgs_m, mRows_nil, mRows_cons, mNewL, nxM, mBase, mName, oksL, List.getElem?_cons_zero, List.getElem?_cons_succ, zzF, asE_ag, asE_d, asE_ref, asEc_cons, asEc_nil, asF_d, asF_ref, asF_ag, asGs, QY, QX, QM, List.not_mem_nil, false_implies, forall_const, atsL, asD_self, asD_nil, asD_sl, asD_agg, asD_int, asD_bool, asD_func, asD_ag, asD_ref, asG_d, asG_ag, asG_ref, freeN, QZ, Qa, JO, Qm, QT, QS, zz9, QB, QA, zzC, yyF, zzD, S_func, Sk_func]
   refine ⟨fun l hl2 => h.flat l (hof l hl2), ?_⟩
   refine hK3 _ ?_; try clear hK3 K3
   refine kpA [0, 2, 4, 10, 11] ?_
   refine Qz F_mixed [some 32, some 33, some 34, some 10] rfl ?_
   simp only [zzK, QR, QP, QQ, JC, zz21, JM, zz33, JB, hw2, zz6, QO, ↓Qb]
   refine ⟨U2.length + U1.length, _, by simp only [QC]; omega, le_SK id [] rfl (l' := [(0, .ref 1000000000 (P_ ++ (X_ ++ (Y_ ++ Q_))).length), (2, .d (iv m)), (4, .d (.fn cf cs)), (10, .d (iv (U2).length)), (11, .d (iv (U1).length))]) (m' := [(1000000000, (⟨True, 30, 3, true, false, 1000000000, aV (((A ++ V) ++ (U2 ++ (U1 ++ B))))⟩ : ARow))]) ?_ ?_ ?_ ?_, A ++ V, U2, U1, B, hU2, hU1, by simp only [QC] at hmu ⊢; omega, by rw [← hE]; simp, rfl, rfl⟩
   ·simp only [leV, JD, QQ, Qd, Qc, hw2, hl12]; exact ⟨Qn _, Qn _, Qn _, Qn _, Qn _, trivial⟩
   ·exact ⟨fun _ => ⟨_, rfl, Qu (by rw [hsw]; rfl) (JU _)⟩, fun h => by simp at h, trivial⟩
   ·simp [wfV, QY, lookR]
   ·exact ⟨fun e he r' hr' => by rw [ids_data e he] at hr'; simp at hr', trivial⟩
  ·intro hb
   have hgt : U.length < V.length := by have := Qf hb; omega
   clear hb
   obtain ⟨V1, V2, rfl, hl12⟩ : ∃ V1 V2, V = V1 ++ V2 ∧ U.length = V2.length := ⟨V.take (V.length - U.length), V.drop (V.length - U.length), by simp, by simp; omega⟩
   have hlu : (V1 ++ V2).length = V1.length + V2.length := QC
   have hV1 : V1 ≠ [] := List.length_pos_iff.1 (by omega)
   have hV2 : V2 ≠ [] := List.length_pos_iff.1 (by omega)
   have hw1 : Ql .i64 ((m : Int) - (U.length : Int)) = ((m - U.length : Nat) : Int) := by rw [wrapI (by omega) (by omega)]; omega
   have hw3 : Ql .i64 ((m : Int) + ((V1 ++ V2).length : Int)) = ((m + (V1 ++ V2).length : Nat) : Int) := by rw [wrapI (by omega) (by omega)]; omega
   have hw4 : Ql .i64 (((m + (V1 ++ V2).length : Nat) : Int) - (U.length : Int)) = ((m + (V1 ++ V2).length - U.length : Nat) : Int) := by rw [wrapI (by omega) (by omega)]; omega
   have hw2 : Ql .i64 (((V1 ++ V2).length : Int) - (U.length : Int)) = ((V1.length : Nat) : Int) := by rw [wrapI (by omega) (by omega)]; omega
   have hsw : swpR (A ++ (U ++ (V1 ++ V2 ++ B))) (m - U.length) (m + (V1 ++ V2).length - U.length) U.length = A ++ (V2 ++ (V1 ++ (U ++ B))) := by
    rw [show A ++ (U ++ (V1 ++ V2 ++ B)) = A ++ (U ++ (V1 ++ (V2 ++ B))) by simp, swpR_mid rfl hl12.symm (by omega) (by omega)]
   have hof := okM_swpR ho (m - U.length) (m + (V1 ++ V2).length - U.length) U.length (by rw [hl]; simp only [QC] at hlen ⊢; omega) (by rw [hl]; simp only [QC] at hlen ⊢; omega)
   refine JA fun K3 hK3 => ?_
   refine awp_mut [some 35, some 36, some 37, some 38, some 39, some 40, some 41, some 42, some 43, some 44, some 45, some 46] rfl 11 rfl ?_
   simp only [zzK, QR, QP, QQ, JC, zz21, JM, zz33, zz26, JE, JF, hw1, hw3, hw4, aV, hl, zzB, zz6, QO, ↓Qb]
   refine mut_go [1000000000] F_go65 (sDue_swap h (A ++ (U ++ (V1 ++ V2 ++ B))) ho hN2 (m - U.length) (m + (V1 ++ V2).length - U.length) U.length (by omega) (by rw [hl]; simp only [QC] at hlen ⊢; omega)) (by simp [QY, QX]) (by decide) (by first | exact ⟨by decide, by simp⟩ | rfl) ?_
   simp only [zzK, QR, QP, QQ, JC, zz21, JM, zz33, zz26, JE, JF, hw1, hw3, hw4, aV, hl, zzB, zz6, QO, ↓Qb, mArgs_nil, asE_cl, asF_cl, asD_ptr, asG_ptr, asD_ep, asG_ep, List.mem_singleton, forall_eq, asEc_cons, asEc_nil, mArgs_d, mArgs_m, mRows_nil, mRows_cons, mNewL, nxM, mBase, mName, oksL, List.getElem?_cons_zero, List.getElem?_cons_succ, zzF, asE_ag, asE_d, asE_ref, asEc_cons, asEc_nil, asF_d, asF_ref, asF_ag, asGs, QY, QX, QM, List.not_mem_nil, false_implies, forall_const, atsL, asD_self, asD_nil, asD_sl, asD_agg, asD_int, asD_bool, asD_func, asD_ag, asD_ref, asG_d, asG_ag, asG_ref, freeN, QZ, Qa, JO, Qm, QT, QS, zz9, QB, QA, zzC, yyF, zzD, S_func, Sk_func]
   refine ⟨fun l hl2 => h.flat l (hof l hl2), ?_⟩
   refine hK3 _ ?_; try clear hK3 K3
   refine kpA [0, 2, 4, 10, 11] ?_
   refine Qz F_mixed [some 47, some 48, some 49, some 11] rfl ?_
   simp only [zzK, QR, QP, QQ, JC, zz21, JM, zz33, JB, hw2, zz6, QO, ↓Qb]
   refine ⟨U.length + V1.length, _, by simp only [QC]; omega, le_SK id [] rfl (l' := [(0, .ref 1000000000 (P_ ++ (X_ ++ (Y_ ++ Q_))).length), (2, .d (iv m)), (4, .d (.fn cf cs)), (10, .d (iv (V2).length)), (11, .d (iv (V1).length))]) (m' := [(1000000000, (⟨True, 30, 3, true, false, 1000000000, aV ((A ++ (V2 ++ (V1 ++ (U ++ B)))))⟩ : ARow))]) ?_ ?_ ?_ ?_, A, V2, V1, U ++ B, hV2, hV1, by omega, by rw [← hE]; simp, by rw [hl12], rfl⟩
   ·simp only [leV, JD, QQ, Qd, Qc, hw2, hl12]; exact ⟨Qn _, Qn _, Qn _, Qn _, Qn _, trivial⟩
   ·exact ⟨fun _ => ⟨_, rfl, Qu (by rw [hsw]; rfl) (JU _)⟩, fun h => by simp at h, trivial⟩
   ·simp [wfV, QY, lookR]
   ·exact ⟨fun e he r' hr' => by rw [ids_data e he] at hr'; simp at hr', trivial⟩
 ·intro hb
  have heq : U.length = V.length := by
   have hb2 : (U.length : Int) = V.length := by simpa using hb
   omega
  clear hb
  have hw1 : Ql .i64 ((m : Int) - (U.length : Int)) = ((m - U.length : Nat) : Int) := by rw [wrapI (by omega) (by omega)]; omega
  have hsw : swpR (A ++ (U ++ (V ++ B))) (m - U.length) m U.length = P_ ++ (Y_ ++ (X_ ++ Q_)) := by
   rw [← hE, show A ++ (U ++ (V ++ B)) = A ++ (U ++ ([] ++ (V ++ B))) by simp, swpR_mid rfl heq.symm (by omega) (by simp; omega)]
   simp
  have hof := okM_swpR ho (m - U.length) m U.length (by rw [hl]; simp only [QC]; omega) (by rw [hl]; simp only [QC]; omega)
  refine JK ?_
  simp only [zz6, QO, ↓Qb]
  refine hK0 _ ?_; try clear hK0 K0
  refine kpA [0, 2, 4, 10] ?_
  refine awp_mut [some 50, some 51, some 52, some 53, some 54, some 55, some 56, some 57] rfl 7 rfl ?_
  simp only [zzK, QR, QP, QQ, JC, zz21, JM, zz33, JE, JF, hw1, aV, hl, zzB, zz6, QO, ↓Qb]
  refine mut_go [1000000000] F_go65 (sDue_swap h (A ++ (U ++ (V ++ B))) ho hN2 (m - U.length) m U.length (by omega) (by rw [hl]; simp only [QC]; omega)) (by simp [QY, QX]) (by decide) (by first | exact ⟨by decide, by simp⟩ | rfl) ?_
  simp only [zzK, QR, QP, QQ, JC, zz21, JM, zz33, JE, JF, hw1, aV, hl, zzB, zz6, QO, ↓Qb, mArgs_nil, asE_cl, asF_cl, asD_ptr, asG_ptr, asD_ep, asG_ep, List.mem_singleton, forall_eq, asEc_cons, asEc_nil, mArgs_d, mArgs_m, mRows_nil, mRows_cons, mNewL, nxM, mBase, mName, oksL, List.getElem?_cons_zero, List.getElem?_cons_succ, zzF, asE_ag, asE_d, asE_ref, asEc_cons, asEc_nil, asF_d, asF_ref, asF_ag, asGs, QY, QX, QM, List.not_mem_nil, false_implies, forall_const, atsL, asD_self, asD_nil, asD_sl, asD_agg, asD_int, asD_bool, asD_func, asD_ag, asD_ref, asG_d, asG_ag, asG_ref, freeN, QZ, Qa, JO, Qm, QT, QS, zz9, QB, QA, zzC, yyF, zzD, S_func, Sk_func]
  refine ⟨fun l hl2 => h.flat l (hof l hl2), ?_⟩
  have hfl : ∀ l, l ∈ P_ ++ (Y_ ++ (X_ ++ Q_)) → flatDs l := fun l hl2 => h.flat l (by rw [hsw] at hof; exact hof l hl2)
  refine doneM [] (by simp [resCs, resC, S, List.getD, JD, lookR, ]) ?_ (by simp [flatA, flatAs, flatD, ]) (by simp [QY, QX, ]) (by decide) (by simp) ?_ ?_
  ·simp only [QD, QE, resA, JZ, S_mem, lookR_cons, lookR_nil, QR, QP, JD, QQ, Qd, Qc, resAll, QI, QJ, QH, QL, QK, List.take_zero, ]; rfl
  ·exact trivial
  ·exact ⟨⟨_, rfl, trivial, rfl, rfl, by rw [hsw]⟩, hfl, trivial⟩
end Go.Proofs.Ytcpkhnciplfmkaa
