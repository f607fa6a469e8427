import Derived.Test.YtopifbpibkpmmaaSpecTP
import Derived.Test.YtopifbpibkpmmaaBun
import Derived.Laws.Externs
import Derived.Laws.StructEq
import Derived.Laws.Tables
import Derived.KernelRfl
import Derived.Shelf.Spec.BitsCarry
namespace Go.Proofs.Ytopifbpibkpmmaa
open Go.RowKit
set_option linter.unusedVariables false
set_option linter.unusedSimpArgs false
open Option renaming map_some → QA, bind_some → QB
open List renaming length_append → QC, map_cons → QD, map_nil → QE, length_cons → QF, append_nil → QG, drop_zero → QH, getD_cons_zero → QI, getD_cons_succ → QJ, take_succ_cons → QK, drop_succ_cons → QL, length_singleton → QM
open Nat renaming zero_add → QN, reduceEqDiff → QO, reduceLeDiff → QP, reduceBEq → QQ, reduceLT → QR, reduceAdd → QS, reduceMul → QT, reduceSub → QU
open Int renaming toNat_natCast → QV
open AV renaming idsL → QX, ids → QY, ren → QZ, renL → Qa
open _root_ renaming reduceIte → Qb, cond_false → Qc, cond_true → Qd, reduceCtorEq → Qe, of_decide_eq_false → Qf, of_decide_eq_true → Qg, imp_self → Qh, imp_and → Qi, and_imp → Qj, not_false_eq_true → Qk
open IntKind renaming wrap → Ql
open ORow renaming row → Qm
open VLe renaming refl → Qn
open RowLe renaming same → Qu
open Go.Proofs.Ytopifbpibkpmmaa renaming awp_plain → Qz, awp_seq → JA, evS_assign → JB, evS_move → JC, look_cons → JD, evS_call → JE, evC_value → JF, awp_block → JH, awp_skip → JI, awp_ret → JJ, awp_exit → JK, awp_loop → JL, gr_v → JM, len_map → JN, addRows → JO, resAll → JP, pickK_l → JQ, pickK_r → JR, call_go → JT, aV_ids → JU, freeN → JV, evS_indexAddr → JW, S_getD → JZ, flatA → Ja, flatAs → Jb, flatD → Jc
theorem F_mixed : Try.prog.follows .mixedOrders = true := by kernel_rfl
theorem F_sl22 : sliceT Try.prog 22 = some 31 := by kernel_rfl
theorem F_sz31 : szT Try.prog 31 = 5 := by kernel_rfl
theorem F_ok31 : tyOk Try.prog 31 = true := by kernel_rfl
theorem F_ag31 : aggT Try.prog 31 = true := by kernel_rfl
theorem F_go74 : goFn Try.prog 74 := ⟨_, Try.func74, rfl, rfl⟩
theorem F_go48 : goFn Try.prog 48 := ⟨_, Try.func48, rfl, rfl⟩
theorem F_sl114 : sliceT Try.prog 114 = some 118 := by kernel_rfl
theorem F_sz118 : szT Try.prog 118 = 3 := by kernel_rfl
theorem F_ok118 : tyOk Try.prog 118 = true := by kernel_rfl
theorem F_ag118 : aggT Try.prog 118 = true := by kernel_rfl
theorem F_go98 : goFn Try.prog 98 := ⟨_, Try.func98, rfl, rfl⟩
theorem F_go88 : goFn Try.prog 88 := ⟨_, Try.func88, rfl, rfl⟩
theorem F_sl90 : sliceT Try.prog 90 = some 3 := by kernel_rfl
theorem F_sz3 : szT Try.prog 3 = 1 := by kernel_rfl
theorem F_ok3 : tyOk Try.prog 3 = true := by kernel_rfl
theorem F_ag3 : aggT Try.prog 3 = false := by kernel_rfl
theorem F_cv75_3 : ∀ (k : IntKind) (x : Int), pureCv Try.prog 75 3 (.int k x) = True := fun _ _ => pure_cv (by kernel_rfl) (by kernel_rfl)
theorem F_cvV3 : ∀ (k : IntKind) (x : Int), cvV Try.prog 3 (.int k x) = .int .i64 (Ql .i64 x) := fun _ _ => by rw [show cvV Try.prog 3 = fun a => (match a with | .int _ n => .int (Try.prog.intKind 3) ((Try.prog.intKind 3).wrap n) | _ => undef) from rfl, show Try.prog.intKind 3 = .i64 from by kernel_rfl]
theorem F_cv3_75 : ∀ (k : IntKind) (x : Int), pureCv Try.prog 3 75 (.int k x) = True := fun _ _ => pure_cv (by kernel_rfl) (by kernel_rfl)
theorem F_cvV75 : ∀ (k : IntKind) (x : Int), cvV Try.prog 75 (.int k x) = .int .u64 (Ql .u64 x) := fun _ _ => by rw [show cvV Try.prog 75 = fun a => (match a with | .int _ n => .int (Try.prog.intKind 75) ((Try.prog.intKind 75).wrap n) | _ => undef) from rfl, show Try.prog.intKind 75 = .u64 from by kernel_rfl]
theorem F_zero3 : zeroT Try.prog 3 = some [(.int .i64 0)] := by kernel_rfl
theorem F_go51 : goFn Try.prog 51 := ⟨_, Try.func51, rfl, rfl⟩
theorem F_go96 : goFn Try.prog 96 := ⟨_, Try.func96, rfl, rfl⟩
theorem F_go49 : goFn Try.prog 49 := ⟨_, Try.func49, rfl, rfl⟩
theorem sBid_ins {cf : FuncId} {cs : List D} {c : List D → List D → Int} {Pd : List D → Prop} (h : SC Try.prog cf cs c Pd 5) (P_ S_ Q_ : List (List D)) (hM : okM Pd (P_ ++ (S_ ++ Q_))) (hN : (P_ ++ (S_ ++ Q_)).length ≤ 1000000) (a b : Nat) (ha : a = P_.length) (hb : b = P_.length + S_.length) : MCalls Try.prog 74 [.m 0, .d (iv a), .d (iv b), .d (.fn cf cs)] [⟨31, 5, P_ ++ (S_ ++ Q_)⟩] [⟨31, 5, P_ ++ (isort (ltc c) S_ ++ Q_)⟩] [] (.tp []) := by
 refine mcalls_S (rs := []) Try.func74 rfl rfl 53 [(0, .ref 1000000000 ((P_ ++ (S_ ++ Q_))).length), (1, .d (iv a)), (2, .d (iv b)), (3, .d (.fn cf cs))] [(1000000000, (⟨True, 31, 5, true, false, 1000000000, ((P_ ++ (S_ ++ Q_))).map (·.map .d)⟩ : ARow))] rfl (by simp) (by rfl) (by rfl) (by rfl) (by rfl) (by rfl) ?_
 change AWp _ _ _ (S _ _ [(1000000000, (⟨True, 31, 5, true, false, 1000000000, aV ((P_ ++ (S_ ++ Q_)))⟩ : ARow))])
 have hn : P_.length + S_.length + Q_.length ≤ 1000000 := by simpa [Nat.add_assoc] using hN
 have hwa : Ql .i64 ((a : Int) + 1) = ((a + 1 : Nat) : Int) := by rw [wrapI (by omega) (by omega)]; omega
 refine JA fun K0 hK0 => ?_
 refine Qz F_mixed [some 10, some 11, some 8] rfl ?_
 simp only [zzK, QR, QP, QQ, JC, zz21, JM, zz26, JB, hwa, zz6, QO, ↓Qb]
 refine hK0 _ ?_; try clear hK0 K0
 refine kpA [0, 1, 2, 3, 8] ?_
 refine JH ?_
 refine JL (fun m s => ∃ (i : Nat) (R : List (List D)), InO (ltc c) P_ S_ Q_ i R ∧ m = b + 1 - i ∧ s = S 53 [(0, .ref 1000000000 (P_ ++ (S_ ++ Q_)).length), (1, .d (iv a)), (2, .d (iv b)), (3, .d (.fn cf cs)), (8, .d (iv i))] [(1000000000, (⟨True, 31, 5, true, false, 1000000000, aV (R)⟩ : ARow))]) (b + 1 - (a + 1)) _ (le_SK id [] rfl (l' := [(0, .ref 1000000000 (P_ ++ (S_ ++ Q_)).length), (1, .d (iv a)), (2, .d (iv b)), (3, .d (.fn cf cs)), (8, .d (iv ((a + 1 : Nat) : Int)))]) (m' := [(1000000000, (⟨True, 31, 5, true, false, 1000000000, aV ((P_ ++ (S_ ++ Q_)))⟩ : ARow))]) ?_ ?_ ?_ ?_) ⟨a + 1, _, by subst ha; exact InO.start, rfl, rfl⟩ ?_
 ·simp only [leV, JD, QQ, Qd, Qc]; exact ⟨Qn _, Qn _, Qn _, Qn _, Qn _, trivial⟩
 ·exact ⟨fun _ => ⟨_, rfl, Qu rfl (JU _)⟩, fun h => by simp at h, trivial⟩
 ·simp [wfV, QY, lookR]
 ·exact ⟨fun e he r' hr' => by rw [JU _ e he] at hr'; simp at hr', trivial⟩
 rintro m s ⟨i, R, hO, rfl, rfl⟩
 refine JA fun K1 hK1 => ?_
 refine JA fun K2 hK2 => ?_
 refine Qz F_mixed [some 12, some 13, some 14] rfl ?_
 simp only [zzK, QR, QP, QQ, JC, zz21, JM, zz22, zz6, QO, ↓Qb]
 refine hK2 _ ?_; try clear hK2 K2
 refine kpA [0, 1, 2, 3, 8, 14] ?_
 refine cnA ?_ ?_
 ·intro hb
  have hi2 : i < b := by have := Qg hb; omega
  clear hb
  have hI := hO.more (by omega)
  refine JI ?_
  simp only [zz6, QO, ↓Qb]
  refine hK1 _ ?_; try clear hK1 K1
  refine kpA [0, 1, 2, 3, 8] ?_
  refine JA fun K1 hK1 => ?_
  refine JH ?_
  refine JA fun K2 hK2 => ?_
  refine Qz F_mixed [some 17, some 9] rfl ?_
  simp only [zzK, QR, QP, QQ, JC, JB, zz6, QO, ↓Qb]
  refine hK2 _ ?_; try clear hK2 K2
  refine kpA [0, 1, 2, 3, 8, 9] ?_
  refine JH ?_
  refine JL (fun m s => ∃ (j : Nat) (R2 : List (List D)), InI (ltc c) P_ S_ Q_ i j R2 ∧ m = j ∧ s = S 53 [(0, .ref 1000000000 (P_ ++ (S_ ++ Q_)).length), (1, .d (iv a)), (2, .d (iv b)), (3, .d (.fn cf cs)), (8, .d (iv i)), (9, .d (iv j))] [(1000000000, (⟨True, 31, 5, true, false, 1000000000, aV (R2)⟩ : ARow))]) i _ (le_SK id [] rfl (l' := [(0, .ref 1000000000 (P_ ++ (S_ ++ Q_)).length), (1, .d (iv a)), (2, .d (iv b)), (3, .d (.fn cf cs)), (8, .d (iv i)), (9, .d (iv i))]) (m' := [(1000000000, (⟨True, 31, 5, true, false, 1000000000, aV (R)⟩ : ARow))]) ?_ ?_ ?_ ?_) ⟨i, _, hI, rfl, rfl⟩ ?_
  ·simp only [leV, JD, QQ, Qd, Qc]; exact ⟨Qn _, Qn _, Qn _, Qn _, Qn _, Qn _, trivial⟩
  ·exact ⟨fun _ => ⟨_, rfl, Qu rfl (JU _)⟩, fun h => by simp at h, trivial⟩
  ·simp [wfV, QY, lookR]
  ·exact ⟨fun e he r' hr' => by rw [JU _ e he] at hr'; simp at hr', trivial⟩
  clear hO hI
  rintro j s ⟨j0, R2, hJ, rfl, rfl⟩
  obtain ⟨hl0, hib, hji, haj, hai⟩ := hJ.len
  have hl : R2.length = (P_ ++ (S_ ++ Q_)).length := by simp only [QC]; omega
  have ho := hJ.ok hM
  have hz := okM.len h ho
  have hwj : (Ql .i64 ((j : Int) - 1)).toNat = j - 1 := by rw [wrapI (by omega) (by omega)]; omega
  have hwi : Ql .i64 ((i : Int) + 1) = ((i + 1 : Nat) : Int) := by rw [wrapI (by omega) (by omega)]; omega
  refine JA fun K3 hK3 => ?_
  refine JA fun K4 hK4 => ?_
  refine awp_draw F_mixed [some 18, some 19, some 20, some 21, some 22, some 23, some 24, some 25, some 26, some 27, some 28, some 29, some 30, some 31, some 32, some 33, some 34] rfl (by kernel_rfl) ?_
  simp only [zzK, QR, QP, QQ, QU, JZ, zz5, Qj, Qi, Qh, JC, zz21, JM, zz25, JW, zz23, zz24, F_sl22, F_sz31, QA, zzC, yyE, Qe, F_ok31, F_ag31, zz8, zzD, QS, QN, zzH, zz33, JE, JF, zz22, zz13, JQ, JR, aV_len, aV_get, List.length_map, Nat.le_refl, QV, ge0, QH, QN, hl, hwj, tkD R2 hz, asEc_map, asGs_map, zz6, QO, ↓Qb]
  have hjl : j < (P_ ++ (S_ ++ Q_)).length := by rw [← hl]; omega
  have hgt : decide ((j : Int) > (a : Int)) = true → a < j := fun hg => by have := Qg hg; omega
  refine ⟨fun hg => by omega, ⟨fun hg => by omega, fun hg => by rw [lenD hz (by omega)]; exact Nat.le_refl _⟩, ⟨fun hg => by have := hgt hg; rw [wrapI (by omega) (by omega)]; omega, fun hg => by have := hgt hg; rw [wrapI (by omega) (by omega)]; omega⟩, ⟨fun hg => by omega, fun hg => by rw [lenD hz (by omega)]; exact Nat.le_refl _⟩, ?_⟩
  refine call_goC ?_ ?_ h.go (fun hG => h.call (R2.getD j []) (R2.getD (j - 1) []) (ho _ (gd_mem (by omega))) (ho _ (gd_mem (by omega)))) (by simp [QY, QX]) (by simp) ?_
  ·decide
  ·simp only [JD, QQ, Qd, Qc, bare_d, bare_wh]
  simp only [zzK, QR, QP, QQ, QU, JZ, zz5, Qj, Qi, Qh, JC, zz21, JM, zz25, JW, zz23, zz24, F_sl22, F_sz31, QA, zzC, yyE, Qe, F_ok31, F_ag31, zz8, zzD, QS, QN, zzH, zz33, JE, JF, zz22, zz13, JQ, JR, aV_len, aV_get, List.length_map, Nat.le_refl, QV, ge0, QH, QN, hl, hwj, tkD R2 hz, asEc_map, asGs_map, zz6, QO, ↓Qb, QU, JZ, Gp_some, Qj, Qi, Qh, asEs_cons, asEs_nil, asE_ag, asE_d, asE_ref, asEc_cons, asEc_nil, asF_d, asF_ref, asF_ag, asGs, oksF, atsL, oksG, JV, QZ, Qa, JO, Qm, QT, QS, zz9, unDs_map, QB, QA, S_mem, yyF, QF, zz2]
  refine hK4 _ ?_; try clear hK4 K4
  refine kpA [0, 1, 2, 3, 8, 9, 34] ?_
  refine cnA ?_ ?_
  ·intro hb
   have hja : a < j := by
    cases hd : decide ((j : Int) > (a : Int)) with
    | true => have := Qg hd; omega
    | false => rw [hd] at hb; cases hb
   have hc2 : decide (c (R2.getD j []) (R2.getD (j - 1) []) < 0) = true := by rw [show decide ((j : Int) > (a : Int)) = true from decide_eq_true (by omega)] at hb; exact hb
   clear hb
   have hwj2 : Ql .i64 ((j : Int) - 1) = ((j - 1 : Nat) : Int) := by rw [wrapI (by omega) (by omega)]; omega
   have hjl : j < (P_ ++ (S_ ++ Q_)).length := by rw [← hl]; omega
   obtain ⟨q1, q2, q3, q4, q5, q6, q7, q8, q9, q10, q11⟩ := swpF h ho (i := j) (k := j - 1) (by omega) (by omega)
   have qi := ltI (show j < (P_ ++ (S_ ++ Q_)).length by omega)
   have qk := ltI (show j - 1 < (P_ ++ (S_ ++ Q_)).length by omega)
   have qm := eq_true (show j < (P_ ++ (S_ ++ Q_)).length by omega)
   have qn := eq_true (show j - 1 < (P_ ++ (S_ ++ Q_)).length by omega)
   refine JI ?_
   simp only [zz6, QO, ↓Qb]
   refine hK3 _ ?_; try clear hK3 K3
   refine kpA [0, 1, 2, 3, 8, 9] ?_
   refine JA fun K3 hK3 => ?_
   refine JH ?_
   refine awp_draw F_mixed [some 37, some 38, some 39, some 40, some 41, some 42, some 43, some 44, some 45, some 46, some 47, some 48, some 49, some 50, some 51, none, some 52, none] rfl (by kernel_rfl) ?_
   simp only [zzK, QR, QP, QQ, JC, zz21, JM, zz33, JW, zz23, zz24, F_sl22, F_sz31, QA, zzC, yyE, Qe, F_ok31, F_ag31, zz8, zzD, QS, QN, zzH, zz18, QG, zz1, zzG, aV_len, aV_get, aV_set, List.length_map, List.length_set, Nat.le_refl, QV, ge0, QH, QN, q1, q2, q3, q4, q5, q6, q7, q8, q9, q10, q11, qi, qk, qm, qn, hwj2, hl, zz6, QO, ↓Qb]
   refine hK3 _ ?_; try clear hK3 K3
   refine kpA [0, 1, 2, 3, 8, 9] ?_
   refine Qz F_mixed [some 35, some 36, some 9] rfl ?_
   simp only [zzK, QR, QP, QQ, JC, zz21, JM, zz33, JB, hwj2, zz6, QO, ↓Qb]
   refine ⟨j - 1, _, by omega, le_SK id [] rfl (l' := [(0, .ref 1000000000 (P_ ++ (S_ ++ Q_)).length), (1, .d (iv a)), (2, .d (iv b)), (3, .d (.fn cf cs)), (8, .d (iv i)), (9, .d (iv ((j - 1 : Nat) : Int)))]) (m' := [(1000000000, (⟨True, 31, 5, true, false, 1000000000, aV (swp R2 j (j - 1))⟩ : ARow))]) ?_ ?_ ?_ ?_, j - 1, _, hJ.step (by omega) (cmp_pos hc2), rfl, rfl⟩
   ·simp only [leV, JD, QQ, Qd, Qc, hwj2]; exact ⟨Qn _, Qn _, Qn _, Qn _, Qn _, Qn _, trivial⟩
   ·exact ⟨fun _ => ⟨_, rfl, Qu rfl (JU _)⟩, fun h => by simp at h, trivial⟩
   ·simp [wfV, QY, lookR]
   ·exact ⟨fun e he r' hr' => by rw [JU _ e he] at hr'; simp at hr', trivial⟩
  ·intro hb
   have hO2 := hJ.done h.swo (by
    cases hd : decide ((j : Int) > (a : Int)) with
    | true => rw [hd] at hb; exact .inr (cmp_neg hb)
    | false => have := Qf hd; exact .inl (by omega))
   clear hb
   refine JK ?_
   simp only [zz6, QO, ↓Qb]
   refine hK1 _ ?_; try clear hK1 K1
   refine kpA [0, 1, 2, 3, 8] ?_
   refine Qz F_mixed [some 15, some 16, some 8] rfl ?_
   simp only [zzK, QR, QP, QQ, JC, zz21, JM, zz26, JB, hwi, zz6, QO, ↓Qb]
   refine ⟨b + 1 - (i + 1), _, by omega, le_SK id [] rfl (l' := [(0, .ref 1000000000 (P_ ++ (S_ ++ Q_)).length), (1, .d (iv a)), (2, .d (iv b)), (3, .d (.fn cf cs)), (8, .d (iv ((i + 1 : Nat) : Int)))]) (m' := [(1000000000, (⟨True, 31, 5, true, false, 1000000000, aV (R2)⟩ : ARow))]) ?_ ?_ ?_ ?_, i + 1, R2, hO2, rfl, rfl⟩
   ·simp only [leV, JD, QQ, Qd, Qc, hwi]; exact ⟨Qn _, Qn _, Qn _, Qn _, Qn _, trivial⟩
   ·exact ⟨fun _ => ⟨_, rfl, Qu rfl (JU _)⟩, fun h => by simp at h, trivial⟩
   ·simp [wfV, QY, lookR]
   ·exact ⟨fun e he r' hr' => by rw [JU _ e he] at hr'; simp at hr', trivial⟩
 ·intro hb
  have hi2 : b ≤ i := by have := Qf hb; omega
  clear hb
  obtain rfl := hO.done (by omega)
  have ho2 := hO.ok hM
  have hfl : ∀ l, l ∈ P_ ++ (isort (ltc c) S_ ++ Q_) → flatDs l := fun l hl2 => h.flat l (ho2 l hl2)
  refine JK ?_
  simp only [zz6, QO, ↓Qb]
  refine doneM [] (by simp [resCs, resC, S, List.getD, JD, lookR, ]) ?_ (by simp [Ja, Jb, Jc, ]) (by simp [QY, QX, ]) (by decide) (by simp) ?_ ?_
  ·simp only [QD, QE, resA, JZ, S_mem, lookR_cons, lookR_nil, QR, QP, JD, QQ, Qd, Qc, JP, QI, QJ, QH, QL, QK, List.take_zero, ]; rfl
  ·exact trivial
  ·exact ⟨⟨_, rfl, trivial, rfl, rfl, rfl⟩, hfl, trivial⟩
set_option maxRecDepth 100000 in
set_option maxHeartbeats 4000000 in
theorem sBid_stable {cf : FuncId} {cs : List D} {c : List D → List D → Int} {Pd : List D → Prop} (h : SC Try.prog cf cs c Pd 5) (M : List (List D)) (hM : okM Pd M) (hN : M.length ≤ 19) (n : Nat) (hn : n = M.length) : MCalls Try.prog 48 [.m 0, .d (iv n), .d (.fn cf cs)] [⟨31, 5, M⟩] [⟨31, 5, isort (ltc c) M⟩] [] (.tp []) := by
 refine mcalls_S (rs := []) Try.func48 rfl rfl 63 [(0, .ref 1000000000 (M).length), (1, .d (iv n)), (2, .d (.fn cf cs))] [(1000000000, (⟨True, 31, 5, true, false, 1000000000, (M).map (·.map .d)⟩ : ARow))] rfl (by simp) (by rfl) (by rfl) (by rfl) (by rfl) (by rfl) ?_
 subst hn
 change AWp _ _ _ (S _ _ [(1000000000, (⟨True, 31, 5, true, false, 1000000000, aV (M)⟩ : ARow))])
 refine JA fun K0 hK0 => ?_
 refine Qz F_mixed [some 6] rfl ?_
 simp only [zzK, QR, QP, QQ, JB, zz6, QO, ↓Qb]
 refine hK0 _ ?_; try clear hK0 K0
 refine kpA [0, 1, 2, 6] ?_
 refine JA fun K0 hK0 => ?_
 refine Qz F_mixed [some 10, some 7, some 8] rfl ?_
 simp only [zzK, QR, QP, QQ, JC, JB, zz6, QO, ↓Qb]
 refine hK0 _ ?_; try clear hK0 K0
 refine kpA [0, 1, 2, 6, 7, 8] ?_
 refine JA fun K0 hK0 => ?_
 refine JH ?_
 refine JL (fun mm s => mm = 0 ∧ s = S 63 [(0, .ref 1000000000 M.length), (1, .d (iv M.length)), (2, .d (.fn cf cs)), (6, .d (iv 20)), (7, .d (iv ((0 : Nat) : Int))), (8, .d (iv 20))] [(1000000000, (⟨True, 31, 5, true, false, 1000000000, aV (M)⟩ : ARow))]) 0 _ (le_SK id [] rfl (l' := [(0, .ref 1000000000 M.length), (1, .d (iv M.length)), (2, .d (.fn cf cs)), (6, .d (iv 20)), (7, .d (iv ((0 : Nat) : Int))), (8, .d (iv 20))]) (m' := [(1000000000, (⟨True, 31, 5, true, false, 1000000000, aV (M)⟩ : ARow))]) ?_ ?_ ?_ ?_) ⟨rfl, rfl⟩ ?_
 ·simp only [leV, JD, QQ, Qd, Qc]; exact ⟨Qn _, Qn _, Qn _, Qn _, Qn _, Qn _, trivial⟩
 ·exact ⟨fun _ => ⟨_, rfl, Qu rfl (JU _)⟩, fun h => by simp at h, trivial⟩
 ·simp [wfV, QY, lookR]
 ·exact ⟨fun e he r' hr' => by rw [JU _ e he] at hr'; simp at hr', trivial⟩
 rintro mm s ⟨rfl, rfl⟩
 refine JA fun K2 hK2 => ?_
 refine JA fun K3 hK3 => ?_
 refine Qz F_mixed [some 11, some 12, some 13] rfl ?_
 simp only [zzK, QR, QP, QQ, JC, zz21, JM, b_leq, pure_leq, zz6, QO, ↓Qb]
 refine hK3 _ ?_; try clear hK3 K3
 refine kpA [0, 1, 2, 6, 7, 8, 13] ?_
 refine cnA ?_ ?_
 ·intro hb
  exfalso
  have := Qg hb
  omega
 ·intro hb
  clear hb
  have hok2 : okM Pd ([] ++ (M ++ [])) := by simpa using hM
  have ho3 : okM Pd (isort (ltc c) M) := okM_isort hM
  have hof : okM Pd ([] ++ (isort (ltc c) M ++ [])) := by simpa using ho3
  have hl2 : (M ++ []).length = M.length := by simp
  refine JK ?_
  simp only [zz6, QO, ↓Qb]
  refine hK0 _ ?_; try clear hK0 K0
  refine kpA [0, 1, 2, 6, 7] ?_
  refine JA fun K0 hK0 => ?_
  rw [show aV M = List.map (fun e : List D => e.map AV.d) ([] ++ (M ++ [])) by rw [QG]; rfl]
  refine awp_mut [some 23, some 24, some 25, some 26, some 27] rfl 4 rfl ?_
  simp only [zzK, QR, QP, QQ, JC, JE, JF, hl2, zzB, zz6, QO, ↓Qb]
  refine mut_go [1000000000] F_go74 (sBid_ins h [] M [] hok2 (by simp; omega) 0 M.length rfl (by simp)) (by simp [QY, QX]) (by decide) (by first | exact ⟨by decide, by simp⟩ | rfl) ?_
  simp only [zzK, QR, QP, QQ, JC, JE, JF, hl2, zzB, zz6, QO, ↓Qb, mArgs_nil, asE_cl, asF_cl, asD_ptr, asG_ptr, asD_ep, asG_ep, List.mem_singleton, forall_eq, asEc_cons, asEc_nil, mArgs_d, mArgs_m, mRows_nil, mRows_cons, mNewL, nxM, mBase, mName, oksL, List.getElem?_cons_zero, List.getElem?_cons_succ, zzF, asE_ag, asE_d, asE_ref, asEc_cons, asEc_nil, asF_d, asF_ref, asF_ag, asGs, QY, QX, QM, List.not_mem_nil, false_implies, forall_const, atsL, asD_self, asD_nil, asD_sl, asD_agg, asD_int, asD_bool, asD_func, asD_ag, asD_ref, asG_d, asG_ag, asG_ref, JV, QZ, Qa, JO, Qm, QT, QS, zz9, QB, QA, zzC, yyF, zzD, S_func, Sk_func]
  refine ⟨fun l hl2 => h.flat l (hof l hl2), ?_⟩
  refine hK0 _ ?_; try clear hK0 K0
  refine kpA [0, 1, 2, 6] ?_
  refine JH ?_
  refine JL (fun mm s => mm = 0 ∧ s = S 63 [(0, .ref 1000000000 M.length), (1, .d (iv M.length)), (2, .d (.fn cf cs)), (6, .d (iv 20))] [(1000000000, (⟨True, 31, 5, true, false, 1000000000, aV ((isort (ltc c) M))⟩ : ARow))]) 0 _ (le_SK id [] rfl (l' := [(0, .ref 1000000000 M.length), (1, .d (iv M.length)), (2, .d (.fn cf cs)), (6, .d (iv 20))]) (m' := [(1000000000, (⟨True, 31, 5, true, false, 1000000000, aV ((isort (ltc c) M))⟩ : ARow))]) ?_ ?_ ?_ ?_) ⟨rfl, rfl⟩ ?_
  ·simp only [leV, JD, QQ, Qd, Qc]; exact ⟨Qn _, Qn _, Qn _, Qn _, trivial⟩
  ·exact ⟨fun _ => ⟨_, rfl, Qu (by rw [QG]; rfl) (JU _)⟩, fun h => by simp at h, trivial⟩
  ·simp [wfV, QY, lookR]
  ·exact ⟨fun e he r' hr' => by rw [ids_data e he] at hr'; simp at hr', trivial⟩
  rintro mm s ⟨rfl, rfl⟩
  refine JA fun K1 hK1 => ?_
  refine JA fun K2 hK2 => ?_
  refine Qz F_mixed [some 28, some 29, some 30] rfl ?_
  simp only [zzK, QR, QP, QQ, JC, zz21, JM, zz22, zz6, QO, ↓Qb]
  refine hK2 _ ?_; try clear hK2 K2
  refine kpA [0, 1, 2, 6, 30] ?_
  refine cnA ?_ ?_
  ·intro hb
   exfalso
   have := Qg hb
   omega
  ·intro hb
   clear hb
   have hfl : ∀ l, l ∈ isort (ltc c) M → flatDs l := fun l hl2 => h.flat l (ho3 l hl2)
   refine JK ?_
   simp only [zz6, QO, ↓Qb]
   refine doneM [] (by simp [resCs, resC, S, List.getD, JD, lookR, ]) ?_ (by simp [Ja, Jb, Jc, ]) (by simp [QY, QX, ]) (by decide) (by simp) ?_ ?_
   ·simp only [QD, QE, resA, JZ, S_mem, lookR_cons, lookR_nil, QR, QP, JD, QQ, Qd, Qc, JP, QI, QJ, QH, QL, QK, List.take_zero, ]; rfl
   ·exact trivial
   ·exact ⟨⟨_, rfl, trivial, rfl, rfl, rfl⟩, hfl, trivial⟩
theorem sBid_sort {cf : FuncId} {cs : List D} {c : List D → List D → Int} {Pd : List D → Prop} (h : SC Try.prog cf cs c Pd 5) (M : List (List D)) (hM : okM Pd M) (hN : M.length ≤ 19) : MCalls Try.prog 28 [.m 0, .d (.fn cf cs)] [⟨31, 5, M⟩] [⟨31, 5, isort (ltc c) M⟩] [] (.tp []) := by
 refine mcalls_S (rs := []) Try.func28 rfl rfl 9 [(0, .ref 1000000000 (M).length), (1, .d (.fn cf cs))] [(1000000000, (⟨True, 31, 5, true, false, 1000000000, (M).map (·.map .d)⟩ : ARow))] rfl (by simp) (by rfl) (by rfl) (by rfl) (by rfl) (by rfl) ?_
 refine awp_mut [some 4, some 5, some 6, some 7, some 8] rfl 4 rfl ?_
 simp only [zzK, QR, QP, QQ, JC, JE, zz12, F_sl22, Option.isSome_some, JF, JN, zzB, zz6, QO, ↓Qb]
 refine mut_go [1000000000] F_go48 (sBid_stable h M hM hN M.length rfl) (by simp [QY, QX]) (by decide) (by first | exact ⟨by decide, by simp⟩ | rfl) ?_
 simp only [zzK, QR, QP, QQ, JC, JE, zz12, F_sl22, Option.isSome_some, JF, JN, zzB, zz6, QO, ↓Qb, mArgs_nil, asE_cl, asF_cl, asD_ptr, asG_ptr, asD_ep, asG_ep, List.mem_singleton, forall_eq, asEc_cons, asEc_nil, mArgs_d, mArgs_m, mRows_nil, mRows_cons, mNewL, nxM, mBase, mName, oksL, List.getElem?_cons_zero, List.getElem?_cons_succ, zzF, asE_ag, asE_d, asE_ref, asEc_cons, asEc_nil, asF_d, asF_ref, asF_ag, asGs, QY, QX, QM, List.not_mem_nil, false_implies, forall_const, atsL, asD_self, asD_nil, asD_sl, asD_agg, asD_int, asD_bool, asD_func, asD_ag, asD_ref, asG_d, asG_ag, asG_ref, JV, QZ, Qa, JO, Qm, QT, QS, zz9, QB, QA, zzC, yyF, zzD, S_func, Sk_func]
 refine ⟨fun l hl2 => h.flat l (okM_isort hM l hl2), ?_⟩
 have hfl : ∀ l, l ∈ isort (ltc c) M → flatDs l := fun l hl2 => h.flat l (okM_isort hM l hl2)
 refine doneM [] (by simp [resCs, resC, S, List.getD, JD, lookR, ]) ?_ (by simp [Ja, Jb, Jc, ]) (by simp [QY, QX, ]) (by decide) (by simp) ?_ ?_
 ·simp only [QD, QE, resA, JZ, S_mem, lookR_cons, lookR_nil, QR, QP, JD, QQ, Qd, Qc, JP, QI, QJ, QH, QL, QK, List.take_zero, ]; rfl
 ·exact trivial
 ·exact ⟨⟨_, rfl, trivial, rfl, rfl, rfl⟩, hfl, trivial⟩
theorem sRest_ins {cf : FuncId} {cs : List D} {c : List D → List D → Int} {Pd : List D → Prop} (h : SC Try.prog cf cs c Pd 3) (P_ S_ Q_ : List (List D)) (hM : okM Pd (P_ ++ (S_ ++ Q_))) (hN : (P_ ++ (S_ ++ Q_)).length ≤ 1000000) (a b : Nat) (ha : a = P_.length) (hb : b = P_.length + S_.length) : MCalls Try.prog 98 [.m 0, .d (iv a), .d (iv b), .d (.fn cf cs)] [⟨118, 3, P_ ++ (S_ ++ Q_)⟩] [⟨118, 3, P_ ++ (isort (ltc c) S_ ++ Q_)⟩] [] (.tp []) := by
 refine mcalls_S (rs := []) Try.func98 rfl rfl 53 [(0, .ref 1000000000 ((P_ ++ (S_ ++ Q_))).length), (1, .d (iv a)), (2, .d (iv b)), (3, .d (.fn cf cs))] [(1000000000, (⟨True, 118, 3, true, false, 1000000000, ((P_ ++ (S_ ++ Q_))).map (·.map .d)⟩ : ARow))] rfl (by simp) (by rfl) (by rfl) (by rfl) (by rfl) (by rfl) ?_
 change AWp _ _ _ (S _ _ [(1000000000, (⟨True, 118, 3, true, false, 1000000000, aV ((P_ ++ (S_ ++ Q_)))⟩ : ARow))])
 have hn : P_.length + S_.length + Q_.length ≤ 1000000 := by simpa [Nat.add_assoc] using hN
 have hwa : Ql .i64 ((a : Int) + 1) = ((a + 1 : Nat) : Int) := by rw [wrapI (by omega) (by omega)]; omega
 refine JA fun K0 hK0 => ?_
 refine Qz F_mixed [some 10, some 11, some 8] rfl ?_
 simp only [zzK, QR, QP, QQ, JC, zz21, JM, zz26, JB, hwa, zz6, QO, ↓Qb]
 refine hK0 _ ?_; try clear hK0 K0
 refine kpA [0, 1, 2, 3, 8] ?_
 refine JH ?_
 refine JL (fun m s => ∃ (i : Nat) (R : List (List D)), InO (ltc c) P_ S_ Q_ i R ∧ m = b + 1 - i ∧ s = S 53 [(0, .ref 1000000000 (P_ ++ (S_ ++ Q_)).length), (1, .d (iv a)), (2, .d (iv b)), (3, .d (.fn cf cs)), (8, .d (iv i))] [(1000000000, (⟨True, 118, 3, true, false, 1000000000, aV (R)⟩ : ARow))]) (b + 1 - (a + 1)) _ (le_SK id [] rfl (l' := [(0, .ref 1000000000 (P_ ++ (S_ ++ Q_)).length), (1, .d (iv a)), (2, .d (iv b)), (3, .d (.fn cf cs)), (8, .d (iv ((a + 1 : Nat) : Int)))]) (m' := [(1000000000, (⟨True, 118, 3, true, false, 1000000000, aV ((P_ ++ (S_ ++ Q_)))⟩ : ARow))]) ?_ ?_ ?_ ?_) ⟨a + 1, _, by subst ha; exact InO.start, rfl, rfl⟩ ?_
 ·simp only [leV, JD, QQ, Qd, Qc]; exact ⟨Qn _, Qn _, Qn _, Qn _, Qn _, trivial⟩
 ·exact ⟨fun _ => ⟨_, rfl, Qu rfl (JU _)⟩, fun h => by simp at h, trivial⟩
 ·simp [wfV, QY, lookR]
 ·exact ⟨fun e he r' hr' => by rw [JU _ e he] at hr'; simp at hr', trivial⟩
 rintro m s ⟨i, R, hO, rfl, rfl⟩
 refine JA fun K1 hK1 => ?_
 refine JA fun K2 hK2 => ?_
 refine Qz F_mixed [some 12, some 13, some 14] rfl ?_
 simp only [zzK, QR, QP, QQ, JC, zz21, JM, zz22, zz6, QO, ↓Qb]
 refine hK2 _ ?_; try clear hK2 K2
 refine kpA [0, 1, 2, 3, 8, 14] ?_
 refine cnA ?_ ?_
 ·intro hb
  have hi2 : i < b := by have := Qg hb; omega
  clear hb
  have hI := hO.more (by omega)
  refine JI ?_
  simp only [zz6, QO, ↓Qb]
  refine hK1 _ ?_; try clear hK1 K1
  refine kpA [0, 1, 2, 3, 8] ?_
  refine JA fun K1 hK1 => ?_
  refine JH ?_
  refine JA fun K2 hK2 => ?_
  refine Qz F_mixed [some 17, some 9] rfl ?_
  simp only [zzK, QR, QP, QQ, JC, JB, zz6, QO, ↓Qb]
  refine hK2 _ ?_; try clear hK2 K2
  refine kpA [0, 1, 2, 3, 8, 9] ?_
  refine JH ?_
  refine JL (fun m s => ∃ (j : Nat) (R2 : List (List D)), InI (ltc c) P_ S_ Q_ i j R2 ∧ m = j ∧ s = S 53 [(0, .ref 1000000000 (P_ ++ (S_ ++ Q_)).length), (1, .d (iv a)), (2, .d (iv b)), (3, .d (.fn cf cs)), (8, .d (iv i)), (9, .d (iv j))] [(1000000000, (⟨True, 118, 3, true, false, 1000000000, aV (R2)⟩ : ARow))]) i _ (le_SK id [] rfl (l' := [(0, .ref 1000000000 (P_ ++ (S_ ++ Q_)).length), (1, .d (iv a)), (2, .d (iv b)), (3, .d (.fn cf cs)), (8, .d (iv i)), (9, .d (iv i))]) (m' := [(1000000000, (⟨True, 118, 3, true, false, 1000000000, aV (R)⟩ : ARow))]) ?_ ?_ ?_ ?_) ⟨i, _, hI, rfl, rfl⟩ ?_
  ·simp only [leV, JD, QQ, Qd, Qc]; exact ⟨Qn _, Qn _, Qn _, Qn _, Qn _, Qn _, trivial⟩
  ·exact ⟨fun _ => ⟨_, rfl, Qu rfl (JU _)⟩, fun h => by simp at h, trivial⟩
  ·simp [wfV, QY, lookR]
  ·exact ⟨fun e he r' hr' => by rw [JU _ e he] at hr'; simp at hr', trivial⟩
  clear hO hI
  rintro j s ⟨j0, R2, hJ, rfl, rfl⟩
  obtain ⟨hl0, hib, hji, haj, hai⟩ := hJ.len
  have hl : R2.length = (P_ ++ (S_ ++ Q_)).length := by simp only [QC]; omega
  have ho := hJ.ok hM
  have hz := okM.len h ho
  have hwj : (Ql .i64 ((j : Int) - 1)).toNat = j - 1 := by rw [wrapI (by omega) (by omega)]; omega
  have hwi : Ql .i64 ((i : Int) + 1) = ((i + 1 : Nat) : Int) := by rw [wrapI (by omega) (by omega)]; omega
  refine JA fun K3 hK3 => ?_
  refine JA fun K4 hK4 => ?_
  refine awp_draw F_mixed [some 18, some 19, some 20, some 21, some 22, some 23, some 24, some 25, some 26, some 27, some 28, some 29, some 30, some 31, some 32, some 33, some 34] rfl (by kernel_rfl) ?_
  simp only [zzK, QR, QP, QQ, QU, JZ, zz5, Qj, Qi, Qh, JC, zz21, JM, zz25, JW, zz23, zz24, F_sl114, F_sz118, QA, zzC, yyE, Qe, F_ok118, F_ag118, zz8, zzD, QS, QN, zzH, zz33, JE, JF, zz22, zz13, JQ, JR, aV_len, aV_get, List.length_map, Nat.le_refl, QV, ge0, QH, QN, hl, hwj, tkD R2 hz, asEc_map, asGs_map, zz6, QO, ↓Qb]
  have hjl : j < (P_ ++ (S_ ++ Q_)).length := by rw [← hl]; omega
  have hgt : decide ((j : Int) > (a : Int)) = true → a < j := fun hg => by have := Qg hg; omega
  refine ⟨fun hg => by omega, ⟨fun hg => by omega, fun hg => by rw [lenD hz (by omega)]; exact Nat.le_refl _⟩, ⟨fun hg => by have := hgt hg; rw [wrapI (by omega) (by omega)]; omega, fun hg => by have := hgt hg; rw [wrapI (by omega) (by omega)]; omega⟩, ⟨fun hg => by omega, fun hg => by rw [lenD hz (by omega)]; exact Nat.le_refl _⟩, ?_⟩
  refine call_goC ?_ ?_ h.go (fun hG => h.call (R2.getD j []) (R2.getD (j - 1) []) (ho _ (gd_mem (by omega))) (ho _ (gd_mem (by omega)))) (by simp [QY, QX]) (by simp) ?_
  ·decide
  ·simp only [JD, QQ, Qd, Qc, bare_d, bare_wh]
  simp only [zzK, QR, QP, QQ, QU, JZ, zz5, Qj, Qi, Qh, JC, zz21, JM, zz25, JW, zz23, zz24, F_sl114, F_sz118, QA, zzC, yyE, Qe, F_ok118, F_ag118, zz8, zzD, QS, QN, zzH, zz33, JE, JF, zz22, zz13, JQ, JR, aV_len, aV_get, List.length_map, Nat.le_refl, QV, ge0, QH, QN, hl, hwj, tkD R2 hz, asEc_map, asGs_map, zz6, QO, ↓Qb, QU, JZ, Gp_some, Qj, Qi, Qh, asEs_cons, asEs_nil, asE_ag, asE_d, asE_ref, asEc_cons, asEc_nil, asF_d, asF_ref, asF_ag, asGs, oksF, atsL, oksG, JV, QZ, Qa, JO, Qm, QT, QS, zz9, unDs_map, QB, QA, S_mem, yyF, QF, zz2]
  refine hK4 _ ?_; try clear hK4 K4
  refine kpA [0, 1, 2, 3, 8, 9, 34] ?_
  refine cnA ?_ ?_
  ·intro hb
   have hja : a < j := by
    cases hd : decide ((j : Int) > (a : Int)) with
    | true => have := Qg hd; omega
    | false => rw [hd] at hb; cases hb
   have hc2 : decide (c (R2.getD j []) (R2.getD (j - 1) []) < 0) = true := by rw [show decide ((j : Int) > (a : Int)) = true from decide_eq_true (by omega)] at hb; exact hb
   clear hb
   have hwj2 : Ql .i64 ((j : Int) - 1) = ((j - 1 : Nat) : Int) := by rw [wrapI (by omega) (by omega)]; omega
   have hjl : j < (P_ ++ (S_ ++ Q_)).length := by rw [← hl]; omega
   obtain ⟨q1, q2, q3, q4, q5, q6, q7, q8, q9, q10, q11⟩ := swpF h ho (i := j) (k := j - 1) (by omega) (by omega)
   have qi := ltI (show j < (P_ ++ (S_ ++ Q_)).length by omega)
   have qk := ltI (show j - 1 < (P_ ++ (S_ ++ Q_)).length by omega)
   have qm := eq_true (show j < (P_ ++ (S_ ++ Q_)).length by omega)
   have qn := eq_true (show j - 1 < (P_ ++ (S_ ++ Q_)).length by omega)
   refine JI ?_
   simp only [zz6, QO, ↓Qb]
   refine hK3 _ ?_; try clear hK3 K3
   refine kpA [0, 1, 2, 3, 8, 9] ?_
   refine JA fun K3 hK3 => ?_
   refine JH ?_
   refine awp_draw F_mixed [some 37, some 38, some 39, some 40, some 41, some 42, some 43, some 44, some 45, some 46, some 47, some 48, some 49, some 50, some 51, none, some 52, none] rfl (by kernel_rfl) ?_
   simp only [zzK, QR, QP, QQ, JC, zz21, JM, zz33, JW, zz23, zz24, F_sl114, F_sz118, QA, zzC, yyE, Qe, F_ok118, F_ag118, zz8, zzD, QS, QN, zzH, zz18, QG, zz1, zzG, aV_len, aV_get, aV_set, List.length_map, List.length_set, Nat.le_refl, QV, ge0, QH, QN, q1, q2, q3, q4, q5, q6, q7, q8, q9, q10, q11, qi, qk, qm, qn, hwj2, hl, zz6, QO, ↓Qb]
   refine hK3 _ ?_; try clear hK3 K3
   refine kpA [0, 1, 2, 3, 8, 9] ?_
   refine Qz F_mixed [some 35, some 36, some 9] rfl ?_
   simp only [zzK, QR, QP, QQ, JC, zz21, JM, zz33, JB, hwj2, zz6, QO, ↓Qb]
   refine ⟨j - 1, _, by omega, le_SK id [] rfl (l' := [(0, .ref 1000000000 (P_ ++ (S_ ++ Q_)).length), (1, .d (iv a)), (2, .d (iv b)), (3, .d (.fn cf cs)), (8, .d (iv i)), (9, .d (iv ((j - 1 : Nat) : Int)))]) (m' := [(1000000000, (⟨True, 118, 3, true, false, 1000000000, aV (swp R2 j (j - 1))⟩ : ARow))]) ?_ ?_ ?_ ?_, j - 1, _, hJ.step (by omega) (cmp_pos hc2), rfl, rfl⟩
   ·simp only [leV, JD, QQ, Qd, Qc, hwj2]; exact ⟨Qn _, Qn _, Qn _, Qn _, Qn _, Qn _, trivial⟩
   ·exact ⟨fun _ => ⟨_, rfl, Qu rfl (JU _)⟩, fun h => by simp at h, trivial⟩
   ·simp [wfV, QY, lookR]
   ·exact ⟨fun e he r' hr' => by rw [JU _ e he] at hr'; simp at hr', trivial⟩
  ·intro hb
   have hO2 := hJ.done h.swo (by
    cases hd : decide ((j : Int) > (a : Int)) with
    | true => rw [hd] at hb; exact .inr (cmp_neg hb)
    | false => have := Qf hd; exact .inl (by omega))
   clear hb
   refine JK ?_
   simp only [zz6, QO, ↓Qb]
   refine hK1 _ ?_; try clear hK1 K1
   refine kpA [0, 1, 2, 3, 8] ?_
   refine Qz F_mixed [some 15, some 16, some 8] rfl ?_
   simp only [zzK, QR, QP, QQ, JC, zz21, JM, zz26, JB, hwi, zz6, QO, ↓Qb]
   refine ⟨b + 1 - (i + 1), _, by omega, le_SK id [] rfl (l' := [(0, .ref 1000000000 (P_ ++ (S_ ++ Q_)).length), (1, .d (iv a)), (2, .d (iv b)), (3, .d (.fn cf cs)), (8, .d (iv ((i + 1 : Nat) : Int)))]) (m' := [(1000000000, (⟨True, 118, 3, true, false, 1000000000, aV (R2)⟩ : ARow))]) ?_ ?_ ?_ ?_, i + 1, R2, hO2, rfl, rfl⟩
   ·simp only [leV, JD, QQ, Qd, Qc, hwi]; exact ⟨Qn _, Qn _, Qn _, Qn _, Qn _, trivial⟩
   ·exact ⟨fun _ => ⟨_, rfl, Qu rfl (JU _)⟩, fun h => by simp at h, trivial⟩
   ·simp [wfV, QY, lookR]
   ·exact ⟨fun e he r' hr' => by rw [JU _ e he] at hr'; simp at hr', trivial⟩
 ·intro hb
  have hi2 : b ≤ i := by have := Qf hb; omega
  clear hb
  obtain rfl := hO.done (by omega)
  have ho2 := hO.ok hM
  have hfl : ∀ l, l ∈ P_ ++ (isort (ltc c) S_ ++ Q_) → flatDs l := fun l hl2 => h.flat l (ho2 l hl2)
  refine JK ?_
  simp only [zz6, QO, ↓Qb]
  refine doneM [] (by simp [resCs, resC, S, List.getD, JD, lookR, ]) ?_ (by simp [Ja, Jb, Jc, ]) (by simp [QY, QX, ]) (by decide) (by simp) ?_ ?_
  ·simp only [QD, QE, resA, JZ, S_mem, lookR_cons, lookR_nil, QR, QP, JD, QQ, Qd, Qc, JP, QI, QJ, QH, QL, QK, List.take_zero, ]; rfl
  ·exact trivial
  ·exact ⟨⟨_, rfl, trivial, rfl, rfl, rfl⟩, hfl, trivial⟩
set_option maxRecDepth 100000 in
set_option maxHeartbeats 4000000 in
theorem sRest_stable {cf : FuncId} {cs : List D} {c : List D → List D → Int} {Pd : List D → Prop} (h : SC Try.prog cf cs c Pd 3) (M : List (List D)) (hM : okM Pd M) (hN : M.length ≤ 19) (n : Nat) (hn : n = M.length) : MCalls Try.prog 88 [.m 0, .d (iv n), .d (.fn cf cs)] [⟨118, 3, M⟩] [⟨118, 3, isort (ltc c) M⟩] [] (.tp []) := by
 refine mcalls_S (rs := []) Try.func88 rfl rfl 63 [(0, .ref 1000000000 (M).length), (1, .d (iv n)), (2, .d (.fn cf cs))] [(1000000000, (⟨True, 118, 3, true, false, 1000000000, (M).map (·.map .d)⟩ : ARow))] rfl (by simp) (by rfl) (by rfl) (by rfl) (by rfl) (by rfl) ?_
 subst hn
 change AWp _ _ _ (S _ _ [(1000000000, (⟨True, 118, 3, true, false, 1000000000, aV (M)⟩ : ARow))])
 refine JA fun K0 hK0 => ?_
 refine Qz F_mixed [some 6] rfl ?_
 simp only [zzK, QR, QP, QQ, JB, zz6, QO, ↓Qb]
 refine hK0 _ ?_; try clear hK0 K0
 refine kpA [0, 1, 2, 6] ?_
 refine JA fun K0 hK0 => ?_
 refine Qz F_mixed [some 10, some 7, some 8] rfl ?_
 simp only [zzK, QR, QP, QQ, JC, JB, zz6, QO, ↓Qb]
 refine hK0 _ ?_; try clear hK0 K0
 refine kpA [0, 1, 2, 6, 7, 8] ?_
 refine JA fun K0 hK0 => ?_
 refine JH ?_
 refine JL (fun mm s => mm = 0 ∧ s = S 63 [(0, .ref 1000000000 M.length), (1, .d (iv M.length)), (2, .d (.fn cf cs)), (6, .d (iv 20)), (7, .d (iv ((0 : Nat) : Int))), (8, .d (iv 20))] [(1000000000, (⟨True, 118, 3, true, false, 1000000000, aV (M)⟩ : ARow))]) 0 _ (le_SK id [] rfl (l' := [(0, .ref 1000000000 M.length), (1, .d (iv M.length)), (2, .d (.fn cf cs)), (6, .d (iv 20)), (7, .d (iv ((0 : Nat) : Int))), (8, .d (iv 20))]) (m' := [(1000000000, (⟨True, 118, 3, true, false, 1000000000, aV (M)⟩ : ARow))]) ?_ ?_ ?_ ?_) ⟨rfl, rfl⟩ ?_
 ·simp only [leV, JD, QQ, Qd, Qc]; exact ⟨Qn _, Qn _, Qn _, Qn _, Qn _, Qn _, trivial⟩
 ·exact ⟨fun _ => ⟨_, rfl, Qu rfl (JU _)⟩, fun h => by simp at h, trivial⟩
 ·simp [wfV, QY, lookR]
 ·exact ⟨fun e he r' hr' => by rw [JU _ e he] at hr'; simp at hr', trivial⟩
 rintro mm s ⟨rfl, rfl⟩
 refine JA fun K2 hK2 => ?_
 refine JA fun K3 hK3 => ?_
 refine Qz F_mixed [some 11, some 12, some 13] rfl ?_
 simp only [zzK, QR, QP, QQ, JC, zz21, JM, b_leq, pure_leq, zz6, QO, ↓Qb]
 refine hK3 _ ?_; try clear hK3 K3
 refine kpA [0, 1, 2, 6, 7, 8, 13] ?_
 refine cnA ?_ ?_
 ·intro hb
  exfalso
  have := Qg hb
  omega
 ·intro hb
  clear hb
  have hok2 : okM Pd ([] ++ (M ++ [])) := by simpa using hM
  have ho3 : okM Pd (isort (ltc c) M) := okM_isort hM
  have hof : okM Pd ([] ++ (isort (ltc c) M ++ [])) := by simpa using ho3
  have hl2 : (M ++ []).length = M.length := by simp
  refine JK ?_
  simp only [zz6, QO, ↓Qb]
  refine hK0 _ ?_; try clear hK0 K0
  refine kpA [0, 1, 2, 6, 7] ?_
  refine JA fun K0 hK0 => ?_
  rw [show aV M = List.map (fun e : List D => e.map AV.d) ([] ++ (M ++ [])) by rw [QG]; rfl]
  refine awp_mut [some 23, some 24, some 25, some 26, some 27] rfl 4 rfl ?_
  simp only [zzK, QR, QP, QQ, JC, JE, JF, hl2, zzB, zz6, QO, ↓Qb]
  refine mut_go [1000000000] F_go98 (sRest_ins h [] M [] hok2 (by simp; omega) 0 M.length rfl (by simp)) (by simp [QY, QX]) (by decide) (by first | exact ⟨by decide, by simp⟩ | rfl) ?_
  simp only [zzK, QR, QP, QQ, JC, JE, JF, hl2, zzB, zz6, QO, ↓Qb, mArgs_nil, asE_cl, asF_cl, asD_ptr, asG_ptr, asD_ep, asG_ep, List.mem_singleton, forall_eq, asEc_cons, asEc_nil, mArgs_d, mArgs_m, mRows_nil, mRows_cons, mNewL, nxM, mBase, mName, oksL, List.getElem?_cons_zero, List.getElem?_cons_succ, zzF, asE_ag, asE_d, asE_ref, asEc_cons, asEc_nil, asF_d, asF_ref, asF_ag, asGs, QY, QX, QM, List.not_mem_nil, false_implies, forall_const, atsL, asD_self, asD_nil, asD_sl, asD_agg, asD_int, asD_bool, asD_func, asD_ag, asD_ref, asG_d, asG_ag, asG_ref, JV, QZ, Qa, JO, Qm, QT, QS, zz9, QB, QA, zzC, yyF, zzD, S_func, Sk_func]
  refine ⟨fun l hl2 => h.flat l (hof l hl2), ?_⟩
  refine hK0 _ ?_; try clear hK0 K0
  refine kpA [0, 1, 2, 6] ?_
  refine JH ?_
  refine JL (fun mm s => mm = 0 ∧ s = S 63 [(0, .ref 1000000000 M.length), (1, .d (iv M.length)), (2, .d (.fn cf cs)), (6, .d (iv 20))] [(1000000000, (⟨True, 118, 3, true, false, 1000000000, aV ((isort (ltc c) M))⟩ : ARow))]) 0 _ (le_SK id [] rfl (l' := [(0, .ref 1000000000 M.length), (1, .d (iv M.length)), (2, .d (.fn cf cs)), (6, .d (iv 20))]) (m' := [(1000000000, (⟨True, 118, 3, true, false, 1000000000, aV ((isort (ltc c) M))⟩ : ARow))]) ?_ ?_ ?_ ?_) ⟨rfl, rfl⟩ ?_
  ·simp only [leV, JD, QQ, Qd, Qc]; exact ⟨Qn _, Qn _, Qn _, Qn _, trivial⟩
  ·exact ⟨fun _ => ⟨_, rfl, Qu (by rw [QG]; rfl) (JU _)⟩, fun h => by simp at h, trivial⟩
  ·simp [wfV, QY, lookR]
  ·exact ⟨fun e he r' hr' => by rw [ids_data e he] at hr'; simp at hr', trivial⟩
  rintro mm s ⟨rfl, rfl⟩
  refine JA fun K1 hK1 => ?_
  refine JA fun K2 hK2 => ?_
  refine Qz F_mixed [some 28, some 29, some 30] rfl ?_
  simp only [zzK, QR, QP, QQ, JC, zz21, JM, zz22, zz6, QO, ↓Qb]
  refine hK2 _ ?_; try clear hK2 K2
  refine kpA [0, 1, 2, 6, 30] ?_
  refine cnA ?_ ?_
  ·intro hb
   exfalso
   have := Qg hb
   omega
  ·intro hb
   clear hb
   have hfl : ∀ l, l ∈ isort (ltc c) M → flatDs l := fun l hl2 => h.flat l (ho3 l hl2)
   refine JK ?_
   simp only [zz6, QO, ↓Qb]
   refine doneM [] (by simp [resCs, resC, S, List.getD, JD, lookR, ]) ?_ (by simp [Ja, Jb, Jc, ]) (by simp [QY, QX, ]) (by decide) (by simp) ?_ ?_
   ·simp only [QD, QE, resA, JZ, S_mem, lookR_cons, lookR_nil, QR, QP, JD, QQ, Qd, Qc, JP, QI, QJ, QH, QL, QK, List.take_zero, ]; rfl
   ·exact trivial
   ·exact ⟨⟨_, rfl, trivial, rfl, rfl, rfl⟩, hfl, trivial⟩
theorem sRest_sort {cf : FuncId} {cs : List D} {c : List D → List D → Int} {Pd : List D → Prop} (h : SC Try.prog cf cs c Pd 3) (M : List (List D)) (hM : okM Pd M) (hN : M.length ≤ 19) : MCalls Try.prog 66 [.m 0, .d (.fn cf cs)] [⟨118, 3, M⟩] [⟨118, 3, isort (ltc c) M⟩] [] (.tp []) := by
 refine mcalls_S (rs := []) Try.func66 rfl rfl 9 [(0, .ref 1000000000 (M).length), (1, .d (.fn cf cs))] [(1000000000, (⟨True, 118, 3, true, false, 1000000000, (M).map (·.map .d)⟩ : ARow))] rfl (by simp) (by rfl) (by rfl) (by rfl) (by rfl) (by rfl) ?_
 refine awp_mut [some 4, some 5, some 6, some 7, some 8] rfl 4 rfl ?_
 simp only [zzK, QR, QP, QQ, JC, JE, zz12, F_sl114, Option.isSome_some, JF, JN, zzB, zz6, QO, ↓Qb]
 refine mut_go [1000000000] F_go88 (sRest_stable h M hM hN M.length rfl) (by simp [QY, QX]) (by decide) (by first | exact ⟨by decide, by simp⟩ | rfl) ?_
 simp only [zzK, QR, QP, QQ, JC, JE, zz12, F_sl114, Option.isSome_some, JF, JN, zzB, zz6, QO, ↓Qb, mArgs_nil, asE_cl, asF_cl, asD_ptr, asG_ptr, asD_ep, asG_ep, List.mem_singleton, forall_eq, asEc_cons, asEc_nil, mArgs_d, mArgs_m, mRows_nil, mRows_cons, mNewL, nxM, mBase, mName, oksL, List.getElem?_cons_zero, List.getElem?_cons_succ, zzF, asE_ag, asE_d, asE_ref, asEc_cons, asEc_nil, asF_d, asF_ref, asF_ag, asGs, QY, QX, QM, List.not_mem_nil, false_implies, forall_const, atsL, asD_self, asD_nil, asD_sl, asD_agg, asD_int, asD_bool, asD_func, asD_ag, asD_ref, asG_d, asG_ag, asG_ref, JV, QZ, Qa, JO, Qm, QT, QS, zz9, QB, QA, zzC, yyF, zzD, S_func, Sk_func]
 refine ⟨fun l hl2 => h.flat l (okM_isort hM l hl2), ?_⟩
 have hfl : ∀ l, l ∈ isort (ltc c) M → flatDs l := fun l hl2 => h.flat l (okM_isort hM l hl2)
 refine doneM [] (by simp [resCs, resC, S, List.getD, JD, lookR, ]) ?_ (by simp [Ja, Jb, Jc, ]) (by simp [QY, QX, ]) (by decide) (by simp) ?_ ?_
 ·simp only [QD, QE, resA, JZ, S_mem, lookR_cons, lookR_nil, QR, QP, JD, QQ, Qd, Qc, JP, QI, QJ, QH, QL, QK, List.take_zero, ]; rfl
 ·exact trivial
 ·exact ⟨⟨_, rfl, trivial, rfl, rfl, rfl⟩, hfl, trivial⟩
theorem add64 (x y c : Int) (hx : 0 ≤ x) (hy : 0 ≤ y) (hc0 : 0 ≤ c) (hc : c ≤ 1) : extOk Try.prog 86 [.int .u64 x, .int .u64 y, .int .u64 c] (.tuple #[.int .u64 ((x + y + c) % 18446744073709551616), .int .u64 ((x + y + c) / 18446744073709551616)]) := fun w => by
 rw [run_callFunc_extern Try.func86 (by kernel_rfl) (by kernel_rfl) (by kernel_rfl) (e := add64Entry) (by kernel_rfl), run_add64 x y c hx hy hc0 hc]
 rfl
theorem Right_ (l : List Int) (hl : l.length < 4611686018427387904) : ACalls Try.prog 51 [ints l] [] (bv (l.all rightN)) := by
 refine acalls_S (rs := [.tmp 2]) Try.func51 rfl rfl 18 [(0, .d (ints l))] rfl (by simp) rfl ?_
 refine JA fun K0 hK0 => ?_
 refine Qz F_mixed [some 2] rfl ?_
 simp only [zzK, QR, QP, QQ, JB, zz6, QO, ↓Qb]
 refine hK0 _ ?_; try clear hK0 K0
 refine kpA [0] ?_
 refine JA fun K0 hK0 => ?_
 refine JA fun K1 hK1 => ?_
 refine Qz F_mixed [some 5, some 6, some 7] rfl ?_
 simp only [zzK, QR, QP, QQ, JC, JE, zz12, F_sl90, Option.isSome_some, ints, JN, zz6, QO, ↓Qb]
 refine hK1 _ ?_; try clear hK1 K1
 refine kpA [5, 6, 7] ?_
 refine JH ?_
 refine JL (fun m s => ∃ pre post : List Int, l = pre ++ post ∧ pre.all rightN = true ∧ m = post.length ∧ s = S 18 [(5, .d (ints l)), (6, .d (iv l.length)), (7, .d (iv pre.length))] []) l.length _ (le_S0 (l' := [(5, .d (ints l)), (6, .d (iv l.length)), (7, .d (iv 0))]) ?_ ?_) ⟨[], l, rfl, rfl, rfl, rfl⟩ ?_
 ·simp only [leL, JD, QQ, Qd, Qc, ints, JN]; trivial
 ·simp [wfV, QY]
 rintro m s ⟨pre, post, rfl, hp, rfl, rfl⟩
 refine JA fun K2 hK2 => ?_
 refine Qz F_mixed [some 8] rfl ?_
 simp only [zzK, QR, QP, QQ, zz21, JM, zz22, zz6, QO, ↓Qb]
 refine hK2 _ ?_; try clear hK2 K2
 refine kpA [5, 6, 7, 8] ?_
 refine JA fun K2 hK2 => ?_
 refine cnA ?_ ?_
 ·intro hb
  obtain ⟨x, post, rfl⟩ := more_of hb; clear hb
  refine JI ?_
  simp only [zz6, QO, ↓Qb]
  refine hK2 _ ?_; try clear hK2 K2
  refine kpA [5, 6, 7] ?_
  refine JA fun K2 hK2 => ?_
  refine JH ?_
  refine JA fun K3 hK3 => ?_
  refine Qz F_mixed [some 9, some 10, some 4] rfl ?_
  simp only [zzK, QR, QP, QQ, JW, zz23, zz24, F_sl90, F_sz3, QA, zzC, yyE, Qe, F_ok3, F_ag3, zz8, zzD, QS, QN, zzH, JB, ints, getD_mid, JN, lt_mid, ge_mid, zz6, QO, ↓Qb]
  refine hK3 _ ?_; try clear hK3 K3
  refine kpA [4, 5, 6, 7] ?_
  refine JA fun K3 hK3 => ?_
  refine Qz F_mixed [some 11, some 12, some 13, some 14, some 15, some 16] rfl ?_
  simp only [zzK, QR, QP, QQ, QU, JZ, zz5, Qj, Qi, Qh, and_self, JC, zz21, JM, zz22, zz25, zz13, JQ, JR, zz6, QO, ↓Qb]
  refine hK3 _ ?_; try clear hK3 K3
  refine kpA [5, 6, 7, 16] ?_
  refine cnA ?_ ?_
  ·intro hb
   refine JA fun K4 hK4 => ?_
   refine Qz F_mixed [some 2] rfl ?_
   simp only [zzK, QR, QP, QQ, JB, zz6, QO, ↓Qb]
   refine hK4 _ ?_; try clear hK4 K4
   refine kpA [2] ?_
   refine JJ ?_
   simp only [zz6, QO, ↓Qb]
   refine dnA ?_
   simp only [QD, QE, resA, JZ, QR, QP, JD, QQ, Qd, Qc, JP]
   simp only [List.all_append, List.all_cons, rightN, hb]; simp
  ·intro hb
   refine JI ?_
   simp only [zz6, QO, ↓Qb]
   refine hK2 _ ?_; try clear hK2 K2
   refine kpA [5, 6, 7] ?_
   refine Qz F_mixed [some 17, some 7] rfl ?_
   simp only [zzK, QR, QP, QQ, zz21, JM, zz26, JC, zz6, QO, ↓Qb]
   refine ⟨post.length, _, by simp, le_S0 (l' := [(5, .d (ints (pre ++ x :: post))), (6, .d (iv (pre ++ x :: post).length)), (7, .d (iv (pre ++ [x]).length))]) ?_ ?_, pre ++ [x], post, by simp, by simp [hp, rightN, hb], rfl, rfl⟩
   ·simp only [leL, JD, QQ, Qd, Qc, wrap_len pre x (by simp at hl; omega), ints]; trivial
   ·simp [wfV, QY]
 ·intro hb
  obtain rfl := none_of hb; clear hb
  refine JK ?_
  simp only [zz6, QO, ↓Qb]
  refine hK0 _ ?_; try clear hK0 K0
  refine kpA [] ?_
  refine JA fun K0 hK0 => ?_
  refine Qz F_mixed [some 2] rfl ?_
  simp only [zzK, QR, QP, QQ, JB, zz6, QO, ↓Qb]
  refine hK0 _ ?_; try clear hK0 K0
  refine kpA [2] ?_
  refine JJ ?_
  simp only [zz6, QO, ↓Qb]
  refine dnA ?_
  simp only [QD, QE, resA, JZ, QR, QP, JD, QQ, Qd, Qc, JP]
  simp only [QG, hp]
theorem within_ (t : Int) (h0 : -85070591730234615865843651857942052864 ≤ t) (h1 : t < 85070591730234615865843651857942052864) : ACalls Try.prog 96 [.v (.int .u64 (hiN t)), .v (.int .u64 (loN t))] [] (.tp [.d (iv (bif rightN t then t else 0)), .d (iv (bif rightN t then 0 else 1))]) := by
 refine acalls_S (rs := [.tmp 4, .tmp 5]) Try.func96 rfl rfl 21 [(0, .d (.v (.int .u64 (hiN t)))), (1, .d (.v (.int .u64 (loN t))))] rfl (by simp) rfl ?_
 refine JA fun K0 hK0 => ?_
 refine Qz F_mixed [some 4, some 5] rfl ?_
 simp only [zzK, QR, QP, QQ, JB, zz6, QO, ↓Qb]
 refine hK0 _ ?_; try clear hK0 K0
 refine kpA [0, 1] ?_
 refine JA fun K0 hK0 => ?_
 refine Qz F_mixed [some 7, some 8, some 6] rfl ?_
 simp only [zzK, QR, QP, QQ, JC, zz27, JM, F_cv75_3, F_cvV3, JB, zz6, QO, ↓Qb]
 refine hK0 _ ?_; try clear hK0 K0
 refine kpA [0, 6] ?_
 refine JA fun K0 hK0 => ?_
 refine JA fun K1 hK1 => ?_
 refine Qz F_mixed [some 9, some 10, some 11, some 12, some 13, some 14, some 15, some 16, some 17, some 18, some 19] rfl ?_
 simp only [zzK, QR, QP, QQ, QU, JZ, zz5, Qj, Qi, Qh, JC, zz21, JM, b_shr, pure_shr, Int.reduceLT, Qk, zz27, F_cv3_75, F_cvV75, zz28, F_sl90, F_zero3, F_sz3, zz3, newRow1, zz1, zzG, zzD, zzC, QA, yyE, Qe, QS, QN, zzH, maxLen_le, QT, JE, JF, zz29, zz30, zz13, JQ, JR, ints, QD, zz6, QO, ↓Qb]
 refine JT F_go51 (fun hG => Right_ [Ql .i64 (loN t)] (by simp)) (by simp [QY, QX]) (by simp) ?_
 simp only [zzK, QR, QP, QQ, QU, JZ, zz5, Qj, Qi, Qh, JC, zz21, JM, b_shr, pure_shr, Int.reduceLT, Qk, zz27, F_cv3_75, F_cvV75, zz28, F_sl90, F_zero3, F_sz3, zz3, newRow1, zz1, zzG, zzD, zzC, QA, yyE, Qe, QS, QN, zzH, maxLen_le, QT, JE, JF, zz29, zz30, zz13, JQ, JR, ints, QD, zz6, QO, ↓Qb, atsL, oksG, JV, QZ, Qa, JO, Qm, QT, QS, zz9, QB, QA, S_mem, yyF, QF, zz2]
 refine hK1 _ ?_; try clear hK1 K1
 refine kpA [6, 19] ?_
 refine cnA ?_ ?_
 ·intro hb
  rw [within_law h0 h1] at hb
  refine JA fun K2 hK2 => ?_
  refine Qz F_mixed [some 4, some 5] rfl ?_
  simp only [zzK, QR, QP, QQ, JB, zz6, QO, ↓Qb]
  refine hK2 _ ?_; try clear hK2 K2
  refine kpA [4, 5] ?_
  refine JJ ?_
  simp only [zz6, QO, ↓Qb]
  refine dnA ?_
  simp only [QD, QE, resA, JZ, QR, QP, JD, QQ, Qd, Qc, JP]
  simp only [Bool.not_eq_true'] at hb; simp only [hb]; rfl
 ·intro hb
  rw [within_law h0 h1] at hb
  refine JI ?_
  simp only [zz6, QO, ↓Qb]
  refine hK0 _ ?_; try clear hK0 K0
  refine kpA [6] ?_
  refine JA fun K0 hK0 => ?_
  refine Qz F_mixed [some 20, some 4, some 5] rfl ?_
  simp only [zzK, QR, QP, QQ, JC, JB, zz6, QO, ↓Qb]
  refine hK0 _ ?_; try clear hK0 K0
  refine kpA [4, 5] ?_
  refine JJ ?_
  simp only [zz6, QO, ↓Qb]
  refine dnA ?_
  simp only [QD, QE, resA, JZ, QR, QP, JD, QQ, Qd, Qc, JP]
  simp only [Bool.not_eq_false'] at hb; simp only [hb, within_val h0 h1 hb]; rfl
theorem Sum_ (l : List Int) (hl : l.length < 4611686018427387904) : ACalls Try.prog 85 [ints l] [] (.tp [.d (iv (sumV l)), .d (iv (sumE l))]) := by
 refine acalls_S (rs := [.tmp 2, .tmp 3]) Try.func85 rfl rfl 40 [(0, .d (ints l))] rfl (by simp) rfl ?_
 refine JA fun K0 hK0 => ?_
 refine Qz F_mixed [some 2, some 3] rfl ?_
 simp only [zzK, QR, QP, QQ, JB, zz6, QO, ↓Qb]
 refine hK0 _ ?_; try clear hK0 K0
 refine kpA [0] ?_
 refine JA fun K0 hK0 => ?_
 refine JA fun K1 hK1 => ?_
 refine Qz F_mixed [some 9, some 10, some 11] rfl ?_
 simp only [zzK, QR, QP, QQ, JC, JE, JF, zz29, JM, zz30, zz6, QO, ↓Qb]
 refine JT F_go51 (fun hG => Right_ l hl) (by simp [QY, QX]) (by simp) ?_
 simp only [zzK, QR, QP, QQ, JC, JE, JF, zz29, JM, zz30, zz6, QO, ↓Qb, atsL, oksG, JV, QZ, Qa, JO, Qm, QT, QS, zz9, QB, QA, zzC, yyF, zzD, zz2]
 refine hK1 _ ?_; try clear hK1 K1
 refine kpA [0, 11] ?_
 refine cnA ?_ ?_
 ·intro hb
  simp only [Bool.not_eq_true'] at hb
  refine JA fun K2 hK2 => ?_
  refine Qz F_mixed [some 2, some 3] rfl ?_
  simp only [zzK, QR, QP, QQ, JB, zz6, QO, ↓Qb]
  refine hK2 _ ?_; try clear hK2 K2
  refine kpA [2, 3] ?_
  refine JJ ?_
  simp only [zz6, QO, ↓Qb]
  refine dnA ?_
  simp only [QD, QE, resA, JZ, QR, QP, JD, QQ, Qd, Qc, JP]
  simp only [sumV, sumE, hb]; rfl
 ·intro hb
  simp only [Bool.not_eq_false'] at hb
  have hall := hb; clear hb
  refine JI ?_
  simp only [zz6, QO, ↓Qb]
  refine hK0 _ ?_; try clear hK0 K0
  refine kpA [0] ?_
  refine JA fun K0 hK0 => ?_
  refine Qz F_mixed [some 4, some 5] rfl ?_
  simp only [zzK, QR, QP, QQ, JB, zz6, QO, ↓Qb]
  refine hK0 _ ?_; try clear hK0 K0
  refine kpA [0, 4, 5] ?_
  refine JA fun K0 hK0 => ?_
  refine JA fun K1 hK1 => ?_
  refine Qz F_mixed [some 12, some 13, some 14] rfl ?_
  simp only [zzK, QR, QP, QQ, JC, JE, zz12, F_sl90, Option.isSome_some, ints, JN, zz6, QO, ↓Qb]
  refine hK1 _ ?_; try clear hK1 K1
  refine kpA [4, 5, 12, 13, 14] ?_
  refine JH ?_
  refine JL (fun m s => ∃ pre post : List Int, l = pre ++ post ∧ m = post.length ∧ s = S 40 [(4, .d (.v (.int .u64 (hiN pre.sum)))), (5, .d (.v (.int .u64 (loN pre.sum)))), (12, .d (ints l)), (13, .d (iv l.length)), (14, .d (iv pre.length))] []) l.length _ (le_S0 (l' := [(4, .d (.v (.int .u64 (hiN ([] : List Int).sum)))), (5, .d (.v (.int .u64 (loN ([] : List Int).sum)))), (12, .d (ints l)), (13, .d (iv l.length)), (14, .d (iv 0))]) ?_ ?_) ⟨[], l, rfl, rfl, rfl⟩ ?_
  ·simp only [leL, JD, QQ, Qd, Qc, ints, JN, List.sum_nil]; simp [loN, hiN]
  ·simp [wfV, QY]
  rintro m s ⟨pre, post, rfl, rfl, rfl⟩
  refine JA fun K2 hK2 => ?_
  refine Qz F_mixed [some 15] rfl ?_
  simp only [zzK, QR, QP, QQ, zz21, JM, zz22, zz6, QO, ↓Qb]
  refine hK2 _ ?_; try clear hK2 K2
  refine kpA [4, 5, 12, 13, 14, 15] ?_
  refine JA fun K2 hK2 => ?_
  refine cnA ?_ ?_
  ·intro hb
   obtain ⟨x, post, rfl⟩ := more_of hb; clear hb
   have hr : rightN x = true := by simp at hall; exact hall.2.1
   refine JI ?_
   simp only [zz6, QO, ↓Qb]
   refine hK2 _ ?_; try clear hK2 K2
   refine kpA [4, 5, 12, 13, 14] ?_
   refine JA fun K2 hK2 => ?_
   refine JH ?_
   refine JA fun K3 hK3 => ?_
   refine Qz F_mixed [some 16, some 17, some 7] rfl ?_
   simp only [zzK, QR, QP, QQ, JW, zz23, zz24, F_sl90, F_sz3, QA, zzC, yyE, Qe, F_ok3, F_ag3, zz8, zzD, QS, QN, zzH, JB, ints, getD_mid, JN, lt_mid, ge_mid, zz6, QO, ↓Qb]
   refine hK3 _ ?_; try clear hK3 K3
   refine kpA [4, 5, 7, 12, 13, 14] ?_
   refine JA fun K3 hK3 => ?_
   refine Qz F_mixed [some 8] rfl ?_
   simp only [zzK, QR, QP, QQ, JB, zz6, QO, ↓Qb]
   refine hK3 _ ?_; try clear hK3 K3
   refine kpA [4, 5, 7, 12, 13, 14] ?_
   refine JA fun K3 hK3 => ?_
   refine Qz F_mixed [some 19, some 20, some 21, some 22, some 18, some 23, some 24, some 5, some 8] rfl ?_
   simp only [zzK, QR, QP, QQ, JC, zz27, JM, F_cv3_75, F_cvV75, JE, JF, zz14, zzD, QS, QN, zzF, JB, zz6, QO, ↓Qb]
   refine call_ext _ _ (add64 (loN pre.sum) (Ql .u64 x) 0 (lo_nn _) (wu_nn _) (by decide) (by decide)) ?_
   simp only [zzK, QR, QP, QQ, JC, zz27, JM, F_cv3_75, F_cvV75, JE, JF, zz14, zzD, QS, QN, zzF, JB, zz6, QO, ↓Qb, grsL, JM, QB, QA, Option.some.injEq, oksL, ofV_pair, ofV_int, ofV_bool]
   refine hK3 _ ?_; try clear hK3 K3
   refine kpA [4, 5, 7, 8, 12, 13, 14] ?_
   refine Qz F_mixed [some 26, some 27, some 28, some 29, some 30, some 31, some 25, some 32, some 33, some 4] rfl ?_
   simp only [zzK, QR, QP, QQ, JC, zz21, JM, b_shr, pure_shr, Int.reduceLT, Qk, zz27, F_cv3_75, F_cvV75, JE, JF, zz14, zzD, QS, QN, zzF, JB, zz6, QO, ↓Qb]
   refine call_ext _ _ (add64 (hiN pre.sum) (Ql .u64 (x.fdiv (2 ^ (min (Int.toNat 63) (IntKind.bits .i64))))) ((loN pre.sum + Ql .u64 x + 0) / 18446744073709551616) (hi_nn _) (wu_nn _) (carry0 _ _) (carry1 _ _)) ?_
   simp only [zzK, QR, QP, QQ, JC, zz21, JM, b_shr, pure_shr, Int.reduceLT, Qk, zz27, F_cv3_75, F_cvV75, JE, JF, zz14, zzD, QS, QN, zzF, JB, zz6, QO, ↓Qb, grsL, JM, QB, QA, Option.some.injEq, oksL, ofV_pair, ofV_int, ofV_bool]
   refine hK2 _ ?_; try clear hK2 K2
   refine kpA [4, 5, 12, 13, 14] ?_
   refine Qz F_mixed [some 34, some 14] rfl ?_
   simp only [zzK, QR, QP, QQ, zz21, JM, zz26, JC, zz6, QO, ↓Qb]
   have hx : -9223372036854775808 ≤ x ∧ x < 9223372036854775808 := by
    simp [rightN] at hr; omega
   refine ⟨post.length, _, by simp, le_S0 (l' := [(4, .d (.v (.int .u64 (hiN (pre ++ [x]).sum)))), (5, .d (.v (.int .u64 (loN (pre ++ [x]).sum)))), (12, .d (ints (pre ++ x :: post))), (13, .d (iv (pre ++ x :: post).length)), (14, .d (iv (pre ++ [x]).length))]) ?_ ?_, pre ++ [x], post, by simp, rfl, rfl⟩
   ·simp only [leL, JD, QQ, Qd, Qc, wrap_len pre x (by simp at hl; omega), ints, List.sum_append, List.sum_cons, List.sum_nil, Int.add_zero]
    rw [← add_lo, ← add_hi _ hx.1 hx.2]
    simp only [Int.add_zero]; trivial
   ·simp [wfV, QY]
  ·intro hb
   obtain rfl := none_of hb; clear hb
   simp only [QG] at hl hall ⊢
   refine JK ?_
   simp only [zz6, QO, ↓Qb]
   refine hK0 _ ?_; try clear hK0 K0
   refine kpA [4, 5] ?_
   refine JA fun K0 hK0 => ?_
   refine Qz F_mixed [some 35, some 36, some 37, some 38, some 39, some 2, some 3] rfl ?_
   simp only [zzK, QR, QP, QQ, JC, JE, JF, zz14, zzD, QS, QN, zzF, JB, zz6, QO, ↓Qb]
   refine JT F_go96 (fun hG => within_ pre.sum (sum_bound hall hl).1 (sum_bound hall hl).2) (by simp [QY, QX]) (by simp) ?_
   simp only [zzK, QR, QP, QQ, JC, JE, JF, zz14, zzD, QS, QN, zzF, JB, zz6, QO, ↓Qb, atsL, oksG, JV, QZ, Qa, JO, Qm, QT, QS, zz9, QB, QA, zzC, yyF, QF, zz2]
   refine hK0 _ ?_; try clear hK0 K0
   refine kpA [2, 3] ?_
   refine JJ ?_
   simp only [zz6, QO, ↓Qb]
   refine dnA ?_
   simp only [QD, QE, resA, JZ, QR, QP, JD, QQ, Qd, Qc, JP]
   simp only [QG, sumV, sumE, hall, Bool.true_and, Qd]
theorem isNaN_ (n : Int) : ACalls Try.prog 49 [iv n] [] (bv false) := by
 refine acalls_S (rs := [.tmp 2]) Try.func49 rfl rfl 6 [(0, .d (iv n))] rfl (by simp) rfl ?_
 refine JA fun K0 hK0 => ?_
 refine Qz F_mixed [some 2] rfl ?_
 simp only [zzK, QR, QP, QQ, JB, zz6, QO, ↓Qb]
 refine hK0 _ ?_; try clear hK0 K0
 refine kpA [0] ?_
 refine JA fun K0 hK0 => ?_
 refine Qz F_mixed [some 3, some 4, some 5, some 2] rfl ?_
 simp only [zzK, QR, QP, QQ, JC, zz21, JM, zz28, JB, zz6, QO, ↓Qb]
 refine hK0 _ ?_; try clear hK0 K0
 refine kpA [2] ?_
 refine JJ ?_
 simp only [zz6, QO, ↓Qb]
 refine dnA ?_
 simp only [QD, QE, resA, JZ, QR, QP, JD, QQ, Qd, Qc, JP]
 simp
theorem Compare_ (a b : Int) : ACalls Try.prog 30 [iv a, iv b] [] (.d (iv (cmpI a b))) := by
 refine acalls_S (rs := [.tmp 4]) Try.func30 rfl rfl 20 [(0, .d (iv a)), (1, .d (iv b))] rfl (by simp) rfl ?_
 refine JA fun K0 hK0 => ?_
 refine Qz F_mixed [some 4] rfl ?_
 simp only [zzK, QR, QP, QQ, JB, zz6, QO, ↓Qb]
 refine hK0 _ ?_; try clear hK0 K0
 refine kpA [0, 1] ?_
 refine JA fun K0 hK0 => ?_
 refine Qz F_mixed [some 7, some 8, some 5] rfl ?_
 simp only [zzK, QR, QP, QQ, JC, JE, JF, JB, zz6, QO, ↓Qb]
 refine JT F_go49 (fun hG => isNaN_ a) (by simp [QY, QX]) (by simp) ?_
 simp only [zzK, QR, QP, QQ, JC, JE, JF, JB, zz6, QO, ↓Qb, atsL, oksG, JV, QZ, Qa, JO, Qm, QT, QS, zz9, QB, QA, zzC, yyF, zzD, zz2]
 refine hK0 _ ?_; try clear hK0 K0
 refine kpA [0, 1, 5] ?_
 refine JA fun K0 hK0 => ?_
 refine Qz F_mixed [some 9, some 10, some 6] rfl ?_
 simp only [zzK, QR, QP, QQ, JC, JE, JF, JB, zz6, QO, ↓Qb]
 refine JT F_go49 (fun hG => isNaN_ b) (by simp [QY, QX]) (by simp) ?_
 simp only [zzK, QR, QP, QQ, JC, JE, JF, JB, zz6, QO, ↓Qb, atsL, oksG, JV, QZ, Qa, JO, Qm, QT, QS, zz9, QB, QA, zzC, yyF, zzD, zz2]
 refine hK0 _ ?_; try clear hK0 K0
 refine kpA [0, 1, 5, 6] ?_
 refine JA fun K0 hK0 => ?_
 refine JA fun K1 hK1 => ?_
 refine Qz F_mixed [some 11] rfl ?_
 simp only [zzK, QR, QP, QQ, JC, zz6, QO, ↓Qb]
 refine hK1 _ ?_; try clear hK1 K1
 refine kpA [0, 1, 6, 11] ?_
 refine cnA ?_ ?_
 ·intro hb
  cases hb
 ·intro hb
  clear hb
  refine JI ?_
  simp only [zz6, QO, ↓Qb]
  refine hK0 _ ?_; try clear hK0 K0
  refine kpA [0, 1, 6] ?_
  refine JA fun K0 hK0 => ?_
  refine JA fun K1 hK1 => ?_
  refine Qz F_mixed [some 13] rfl ?_
  simp only [zzK, QR, QP, QQ, JC, zz6, QO, ↓Qb]
  refine hK1 _ ?_; try clear hK1 K1
  refine kpA [0, 1, 13] ?_
  refine cnA ?_ ?_
  ·intro hb
   cases hb
  ·intro hb
   clear hb
   refine JI ?_
   simp only [zz6, QO, ↓Qb]
   refine hK0 _ ?_; try clear hK0 K0
   refine kpA [0, 1] ?_
   refine JA fun K0 hK0 => ?_
   refine JA fun K1 hK1 => ?_
   refine Qz F_mixed [some 14, some 15, some 16] rfl ?_
   simp only [zzK, QR, QP, QQ, JC, zz21, JM, zz22, zz6, QO, ↓Qb]
   refine hK1 _ ?_; try clear hK1 K1
   refine kpA [0, 1, 16] ?_
   refine cnA ?_ ?_
   ·intro hb
    have e : cmpI a b = -1 := by simp only [cmpI, hb, Qd]
    refine JA fun K2 hK2 => ?_
    refine Qz F_mixed [some 4] rfl ?_
    simp only [zzK, QR, QP, QQ, JB, zz6, QO, ↓Qb]
    refine hK2 _ ?_; try clear hK2 K2
    refine kpA [4] ?_
    refine JJ ?_
    simp only [zz6, QO, ↓Qb]
    refine dnA ?_
    simp only [QD, QE, resA, JZ, QR, QP, JD, QQ, Qd, Qc, JP]
    rw [e]
   ·intro hb
    skip
    refine JI ?_
    simp only [zz6, QO, ↓Qb]
    refine hK0 _ ?_; try clear hK0 K0
    refine kpA [0, 1] ?_
    refine JA fun K0 hK0 => ?_
    refine JA fun K1 hK1 => ?_
    refine Qz F_mixed [some 17, some 18, some 19] rfl ?_
    simp only [zzK, QR, QP, QQ, JC, zz21, JM, zz25, zz6, QO, ↓Qb]
    refine hK1 _ ?_; try clear hK1 K1
    refine kpA [19] ?_
    refine cnA ?_ ?_
    ·intro hb
     rename_i hb0
     have e : cmpI a b = 1 := by simp only [cmpI, hb0, hb, Qd, Qc]
     refine JA fun K2 hK2 => ?_
     refine Qz F_mixed [some 4] rfl ?_
     simp only [zzK, QR, QP, QQ, JB, zz6, QO, ↓Qb]
     refine hK2 _ ?_; try clear hK2 K2
     refine kpA [4] ?_
     refine JJ ?_
     simp only [zz6, QO, ↓Qb]
     refine dnA ?_
     simp only [QD, QE, resA, JZ, QR, QP, JD, QQ, Qd, Qc, JP]
     rw [e]
    ·intro hb
     rename_i hb0
     have e : cmpI a b = 0 := by simp only [cmpI, hb0, hb, Qd, Qc]
     refine JI ?_
     simp only [zz6, QO, ↓Qb]
     refine hK0 _ ?_; try clear hK0 K0
     refine kpA [] ?_
     refine JA fun K0 hK0 => ?_
     refine Qz F_mixed [some 4] rfl ?_
     simp only [zzK, QR, QP, QQ, JB, zz6, QO, ↓Qb]
     refine hK0 _ ?_; try clear hK0 K0
     refine kpA [4] ?_
     refine JJ ?_
     simp only [zz6, QO, ↓Qb]
     refine dnA ?_
     simp only [QD, QE, resA, JZ, QR, QP, JD, QQ, Qd, Qc, JP]
     rw [e]
theorem Or_ (l : List Int) (hl : l.length ≤ 1000000) : ACalls Try.prog 31 [ints l] [] (.d (iv (orI l))) := by
 refine acalls_S (rs := [.tmp 2]) Try.func31 rfl rfl 18 [(0, .d (ints l))] rfl (by simp) rfl ?_
 refine JA fun K0 hK0 => ?_
 refine Qz F_mixed [some 2] rfl ?_
 simp only [zzK, QR, QP, QQ, JB, zz6, QO, ↓Qb]
 refine hK0 _ ?_; try clear hK0 K0
 refine kpA [0] ?_
 refine JA fun K0 hK0 => ?_
 refine Qz F_mixed [some 3] rfl ?_
 simp only [zzK, QR, QP, QQ, JB, zz6, QO, ↓Qb]
 refine hK0 _ ?_; try clear hK0 K0
 refine kpA [0, 3] ?_
 refine JA fun K0 hK0 => ?_
 refine JA fun K1 hK1 => ?_
 refine Qz F_mixed [some 6, some 7, some 8] rfl ?_
 simp only [zzK, QR, QP, QQ, JC, JE, zz12, F_sl90, Option.isSome_some, ints, JN, zz6, QO, ↓Qb]
 refine hK1 _ ?_; try clear hK1 K1
 refine kpA [3, 6, 7, 8] ?_
 refine JH ?_
 refine JL (fun m s => ∃ pre post : List Int, l = pre ++ post ∧ orI l = orI post ∧ m = post.length ∧ s = S 18 [(3, .d (iv 0)), (6, .d (ints l)), (7, .d (iv l.length)), (8, .d (iv pre.length))] []) l.length _ (le_SK id [] rfl (l' := [(3, .d (iv 0)), (6, .d (ints l)), (7, .d (iv l.length)), (8, .d (iv ([] : List Int).length))]) (m' := []) ?_ ?_ ?_ ?_) ⟨[], l, rfl, rfl, rfl, rfl⟩ ?_
 ·simp only [leV, JD, QQ, Qd, Qc, ints, JN]; exact ⟨Qn _, Qn _, Qn _, Qn _, trivial⟩
 ·exact trivial
 ·simp [wfV, QY, QX, lookR]
 ·simp [wfR, QX, QY]
 rintro m s ⟨pre, post, rfl, hor, rfl, rfl⟩
 refine JA fun K2 hK2 => ?_
 refine Qz F_mixed [some 9] rfl ?_
 simp only [zzK, QR, QP, QQ, zz21, JM, zz22, zz6, QO, ↓Qb]
 refine hK2 _ ?_; try clear hK2 K2
 refine kpA [3, 6, 7, 8, 9] ?_
 refine JA fun K2 hK2 => ?_
 refine cnA ?_ ?_
 ·intro hb
  obtain ⟨x, post, rfl⟩ := more_of hb; clear hb
  refine JI ?_
  simp only [zz6, QO, ↓Qb]
  refine hK2 _ ?_; try clear hK2 K2
  refine kpA [3, 6, 7, 8] ?_
  refine JA fun K2 hK2 => ?_
  refine JH ?_
  refine JA fun K3 hK3 => ?_
  refine Qz F_mixed [some 10, some 11, some 5] rfl ?_
  simp only [zzK, QR, QP, QQ, JW, zz23, zz24, F_sl90, F_sz3, QA, zzC, yyE, Qe, F_ok3, F_ag3, zz8, zzD, QS, QN, zzH, JB, ints, getD_mid, JN, lt_mid, ge_mid, zz6, QO, ↓Qb]
  refine hK3 _ ?_; try clear hK3 K3
  refine kpA [3, 5, 6, 7, 8] ?_
  refine JA fun K3 hK3 => ?_
  refine Qz F_mixed [some 12, some 13, some 14] rfl ?_
  simp only [zzK, QR, QP, QQ, JC, zz21, JM, zz28, zz6, QO, ↓Qb]
  refine hK3 _ ?_; try clear hK3 K3
  refine kpA [3, 5, 6, 7, 8, 14] ?_
  refine cnA ?_ ?_
  ·intro hb
   have e : orI (pre ++ x :: post) = x := by rw [hor, orI, hb]; rfl
   refine JA fun K4 hK4 => ?_
   refine Qz F_mixed [some 15, some 2] rfl ?_
   simp only [zzK, QR, QP, QQ, JC, JB, zz6, QO, ↓Qb]
   refine hK4 _ ?_; try clear hK4 K4
   refine kpA [2] ?_
   refine JJ ?_
   simp only [zz6, QO, ↓Qb]
   refine dnA ?_
   simp only [QD, QE, resA, JZ, QR, QP, JD, QQ, Qd, Qc, JP]
   rw [e]
  ·intro hb
   have hx : (x != 0) = false := hb
   clear hb
   refine JI ?_
   simp only [zz6, QO, ↓Qb]
   refine hK2 _ ?_; try clear hK2 K2
   refine kpA [3, 6, 7, 8] ?_
   refine Qz F_mixed [some 16, some 8] rfl ?_
   simp only [zzK, QR, QP, QQ, zz21, JM, zz26, JC, zz6, QO, ↓Qb]
   refine ⟨post.length, _, by simp, le_SK id [] rfl (l' := [(3, .d (iv 0)), (6, .d (ints (pre ++ x :: post))), (7, .d (iv (pre ++ x :: post).length)), (8, .d (iv (pre ++ [x]).length))]) (m' := []) ?_ ?_ ?_ ?_, pre ++ [x], post, by simp, by rw [hor, orI, hx]; rfl, rfl, rfl⟩
   ·simp only [leV, JD, QQ, Qd, Qc, ints, JN, wrap_len pre x (by simp at hl; omega)]; exact ⟨Qn _, Qn _, Qn _, Qn _, trivial⟩
   ·exact trivial
   ·simp [wfV, QY, QX, lookR]
   ·simp [wfR, QX, QY]
 ·intro hb
  obtain rfl := none_of hb; clear hb
  have e : orI (pre ++ []) = 0 := by rw [hor]; rfl
  refine JK ?_
  simp only [zz6, QO, ↓Qb]
  refine hK0 _ ?_; try clear hK0 K0
  refine kpA [3] ?_
  refine JA fun K0 hK0 => ?_
  refine Qz F_mixed [some 17, some 2] rfl ?_
  simp only [zzK, QR, QP, QQ, JC, JB, zz6, QO, ↓Qb]
  refine hK0 _ ?_; try clear hK0 K0
  refine kpA [2] ?_
  refine JJ ?_
  simp only [zz6, QO, ↓Qb]
  refine dnA ?_
  simp only [QD, QE, resA, JZ, QR, QP, JD, QQ, Qd, Qc, JP]
  rw [e]
end Go.Proofs.Ytopifbpibkpmmaa
