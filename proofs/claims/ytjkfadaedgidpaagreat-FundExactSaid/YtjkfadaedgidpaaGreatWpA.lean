import Derived.Test.YtjkfadaedgidpaaGreatSpecE
import Derived.Test.YtjkfadaedgidpaaGreatBun
import Derived.Laws.Externs
import Derived.Laws.StructEq
import Derived.Laws.Tables
import Derived.KernelRfl
import Derived.Shelf.Spec.BitsCarry
namespace Go.Proofs.YtjkfadaedgidpaaGreat
open Go.RowKit
set_option linter.unusedVariables false
set_option linter.unusedSimpArgs false
open Option renaming map_some → QA, bind_some → QB
open List renaming length_append → QC, map_cons → QD, map_nil → QE, length_cons → QF, append_nil → QG, drop_zero → QH, getD_cons_zero → QI, getD_cons_succ → QJ, take_succ_cons → QK, drop_succ_cons → QL, length_singleton → QM
open Nat renaming zero_add → QN, reduceEqDiff → QO, reduceLeDiff → QP, reduceBEq → QQ, reduceLT → QR, reduceAdd → QS, reduceMul → QT, reduceSub → QU
open Int renaming toNat_natCast → QV
open AV renaming idsL → QX, ids → QY, ren → QZ, renL → Qa
open _root_ renaming reduceIte → Qb, cond_false → Qc, cond_true → Qd, reduceCtorEq → Qe, of_decide_eq_false → Qf, of_decide_eq_true → Qg, imp_self → Qh, imp_and → Qi, and_imp → Qj, not_false_eq_true → Qk
open IntKind renaming wrap → Ql
open ORow renaming row → Qm
open VLe renaming refl → Qn
open RowLe renaming same → Qu
open Go.Proofs.YtjkfadaedgidpaaGreat renaming awp_seq → JA, evS_assign → JB, evS_move → JC, look_cons → JD, evS_call → JE, evC_value → JF, awp_block → JH, awp_skip → JI, awp_exit → JK, awp_loop → JL, gr_v → JM, addRows → JO, resAll → JP, pickK_l → JQ, pickK_r → JR, aV_ids → JU, freeN → JV, evS_indexAddr → JW, S_getD → JZ, flatA → Ja, flatAs → Jb, flatD → Jc
theorem F_mixed : Tryz.prog.follows .mixedOrders = true := by kernel_rfl
theorem F_sl41 : sliceT Tryz.prog 41 = some 75 := by kernel_rfl
theorem F_sz75 : szT Tryz.prog 75 = 4 := by kernel_rfl
theorem F_ok75 : tyOk Tryz.prog 75 = true := by kernel_rfl
theorem F_ag75 : aggT Tryz.prog 75 = true := by kernel_rfl
theorem F_go127 : goFn Tryz.prog 127 := ⟨_, Tryz.func127, rfl, rfl⟩
theorem F_cv3_97 : ∀ (k : IntKind) (x : Int), pureCv Tryz.prog 3 97 (.int k x) = True := fun _ _ => pure_cv (by kernel_rfl) (by kernel_rfl)
theorem F_cvV97 : ∀ (k : IntKind) (x : Int), cvV Tryz.prog 97 (.int k x) = .int .u64 (Ql .u64 x) := fun _ _ => by rw [show cvV Tryz.prog 97 = fun a => (match a with | .int _ n => .int (Tryz.prog.intKind 97) ((Tryz.prog.intKind 97).wrap n) | _ => undef) from rfl, show Tryz.prog.intKind 97 = .u64 from by kernel_rfl]
theorem F_cv97_3 : ∀ (k : IntKind) (x : Int), pureCv Tryz.prog 97 3 (.int k x) = True := fun _ _ => pure_cv (by kernel_rfl) (by kernel_rfl)
theorem F_cvV3 : ∀ (k : IntKind) (x : Int), cvV Tryz.prog 3 (.int k x) = .int .i64 (Ql .i64 x) := fun _ _ => by rw [show cvV Tryz.prog 3 = fun a => (match a with | .int _ n => .int (Tryz.prog.intKind 3) ((Tryz.prog.intKind 3).wrap n) | _ => undef) from rfl, show Tryz.prog.intKind 3 = .i64 from by kernel_rfl]
theorem F_go125 : goFn Tryz.prog 125 := ⟨_, Tryz.func125, rfl, rfl⟩
theorem F_go120 : goFn Tryz.prog 120 := ⟨_, Tryz.func120, rfl, rfl⟩
theorem F_cv94_3 : ∀ (k : IntKind) (x : Int), pureCv Tryz.prog 94 3 (.int k x) = True := fun _ _ => pure_cv (by kernel_rfl) (by kernel_rfl)
theorem F_cv3_94 : ∀ (k : IntKind) (x : Int), pureCv Tryz.prog 3 94 (.int k x) = True := fun _ _ => pure_cv (by kernel_rfl) (by kernel_rfl)
theorem F_cvV94 : ∀ (k : IntKind) (x : Int), cvV Tryz.prog 94 (.int k x) = .int .u64 (Ql .u64 x) := fun _ _ => by rw [show cvV Tryz.prog 94 = fun a => (match a with | .int _ n => .int (Tryz.prog.intKind 94) ((Tryz.prog.intKind 94).wrap n) | _ => undef) from rfl, show Tryz.prog.intKind 94 = .u64 from by kernel_rfl]
theorem pz {Q : Exit → AS → Prop} {s : AS} {id : Nat} {l : List Oper} (h : evL Tryz.prog [] (Q .normal) l s) (hg : (l.all fun o => o.guard.isNone) = true := by rfl) : AWp Tryz.prog (.region id l.toArray false) Q s := awp_p0 F_mixed h hg
theorem pq {Q : Exit → AS → Prop} {s : AS} {id : Nat} {l : List Oper} {y : Code} (h : ∀ K : AS → Prop, (∀ s, AWp Tryz.prog y Q s → K s) → evL Tryz.prog [] (aThen K Q .normal) l s) (hg : (l.all fun o => o.guard.isNone) = true := by rfl) : AWp Tryz.prog (.seq (.region id l.toArray false) y) Q s := awp_q0 F_mixed h hg
theorem sLeg_swap {cf : FuncId} {cs : List D} {c : List D → List D → Int} {Pd : List D → Prop} (h : SC Tryz.prog cf cs c Pd 4) (M : List (List D)) (hM : okM Pd M) (hN : M.length ≤ 1000000) (a b n : Nat) (h1 : a + n ≤ b) (h2 : b + n ≤ M.length) : MCalls Tryz.prog 127 [.m 0, .d (iv a), .d (iv b), .d (iv n), .d (.fn cf cs)] [⟨75, 4, M⟩] [⟨75, 4, swpR M a b n⟩] [] (.tp []) := by
 refine mcalls_S (rs := []) Tryz.func127 rfl rfl 38 [(0, .ref 1000000000 (M).length), (1, .d (iv a)), (2, .d (iv b)), (3, .d (iv n)), (4, .d (.fn cf cs))] [(1000000000, (⟨True, 75, 4, true, false, 1000000000, (M).map (·.map .d)⟩ : ARow))] rfl (by simp) (by rfl) (by rfl) (by rfl) (by rfl) (by rfl) ?_
 change AWp _ _ _ (S _ _ [(1000000000, (⟨True, 75, 4, true, false, 1000000000, aV (M)⟩ : ARow))])
 refine pq fun K0 hK0 => ?_
 simp only [zzK, QR, QP, QQ, JB, zz6, QO, ↓Qb]
 refine kK hK0 [0, 1, 2, 3, 10] ?_
 refine JH ?_
 refine JL (fun m s => ∃ i : Nat, i ≤ n ∧ m = n - i ∧ s = S 38 [(0, .ref 1000000000 M.length), (1, .d (iv a)), (2, .d (iv b)), (3, .d (iv n)), (10, .d (iv i))] [(1000000000, (⟨True, 75, 4, true, false, 1000000000, aV (swpR M a b i)⟩ : ARow))]) n _ (leK id [] (hr := by exact ⟨fun _ => ⟨_, rfl, Qu rfl (JU _)⟩, (by simp), trivial⟩) (hwr := by exact ⟨fun e he r' hr' => by rw [JU _ e he] at hr'; simp at hr', trivial⟩)) ⟨0, by omega, by omega, rfl⟩ ?_
 rintro m s ⟨i, hi, rfl, rfl⟩
 have hl := swpR_len M a b i
 have ho := okM_swpR hM a b i (by omega) (by omega)
 refine JA fun K1 hK1 => ?_
 refine pq fun K2 hK2 => ?_
 simp only [zzK, QR, QP, QQ, JC, zz21, JM, zz22, zz6, QO, ↓Qb]
 refine kK hK2 [0, 1, 2, 3, 10, 13] ?_
 refine cnA ?_ ?_
 ·intro hb
  have hi2 : i < n := by have := Qg hb; omega
  clear hb
  have hwa : Ql .i64 ((a : Int) + (i : Int)) = ((a + i : Nat) : Int) := by rw [wrapI (by omega) (by omega)]; omega
  have hwb : Ql .i64 ((b : Int) + (i : Int)) = ((b + i : Nat) : Int) := by rw [wrapI (by omega) (by omega)]; omega
  have hwi : Ql .i64 ((i : Int) + 1) = ((i + 1 : Nat) : Int) := by rw [wrapI (by omega) (by omega)]; omega
  obtain ⟨q1, q2, q3, q4, q5, q6, q7, q8, q9, q10, q11⟩ := swpF h ho (i := a + i) (k := b + i) (by omega) (by omega)
  have qi := ltI (show a + i < M.length by omega)
  have qk := ltI (show b + i < M.length by omega)
  have qm := eq_true (show a + i < M.length by omega)
  have qn := eq_true (show b + i < M.length by omega)
  refine JI ?_
  simp only [zz6, QO, ↓Qb]
  refine kK hK1 [0, 1, 2, 3, 10] ?_
  refine JA fun K1 hK1 => ?_
  refine JH ?_
  refine awp_draw F_mixed [some 16, some 17, some 18, some 19, some 20, some 21, some 22, some 23, some 24, some 25, some 26, some 27, some 28, some 29, some 30, some 31, some 32, some 33, some 34, some 35, some 36, none, some 37, none] rfl (by kernel_rfl) ?_
  simp only [zzK, QR, QP, QQ, JC, zz21, JM, zz26, JW, zz23, zz24, F_sl41, F_sz75, QA, zzC, yyE, Qe, F_ok75, F_ag75, zz8, zzD, QS, QN, zzH, zz18, QG, zz1, zzG, aV_len, aV_get, aV_set, List.length_map, List.length_set, Nat.le_refl, QV, ge0, QH, QN, q1, q2, q3, q4, q5, q6, q7, q8, q9, q10, q11, qi, qk, qm, qn, hwa, hwb, hl, zz6, QO, ↓Qb]
  refine kK hK1 [0, 1, 2, 3, 10] ?_
  refine pz ?_
  simp only [zzK, QR, QP, QQ, JC, zz21, JM, zz26, JB, zz6, QO, ↓Qb]
  refine ⟨n - (i + 1), _, by omega, leK id [] (hr := by exact ⟨fun _ => ⟨_, rfl, Qu rfl (JU _)⟩, (by simp), trivial⟩) (hwr := by exact ⟨fun e he r' hr' => by rw [JU _ e he] at hr'; simp at hr', trivial⟩), i + 1, by omega, rfl, rfl⟩
 ·intro hb
  obtain rfl : i = n := by have := Qf hb; omega
  clear hb
  have hfl : ∀ l, l ∈ swpR M a b i → flatDs l := fun l hl2 => h.flat l (ho l hl2)
  refine JK ?_
  simp only [zz6, QO, ↓Qb]
  refine doneM [] (by simp [resCs, resC, S, List.getD, JD, lookR, ]) ?_ (by simp [Ja, Jb, Jc, ]) (by simp [QY, QX, ]) (by decide) (by simp) ?_ ?_
  ·simp only [QD, QE, resA, JZ, S_mem, lookR_cons, lookR_nil, QR, QP, JD, QQ, Qd, Qc, JP, QI, QJ, QH, QL, QK, List.take_zero, ]; rfl
  ·exact trivial
  ·exact ⟨⟨_, rfl, trivial, rfl, rfl, rfl⟩, hfl, trivial⟩
theorem sLeg_ins {cf : FuncId} {cs : List D} {c : List D → List D → Int} {Pd : List D → Prop} (h : SC Tryz.prog cf cs c Pd 4) (P_ S_ Q_ : List (List D)) (hM : okM Pd (P_ ++ (S_ ++ Q_))) (hN : (P_ ++ (S_ ++ Q_)).length ≤ 1000000) (a b : Nat) (ha : a = P_.length) (hb : b = P_.length + S_.length) : MCalls Tryz.prog 119 [.m 0, .d (iv a), .d (iv b), .d (.fn cf cs)] [⟨75, 4, P_ ++ (S_ ++ Q_)⟩] [⟨75, 4, P_ ++ (isort (ltc c) S_ ++ Q_)⟩] [] (.tp []) := by
 refine mcalls_S (rs := []) Tryz.func119 rfl rfl 53 [(0, .ref 1000000000 ((P_ ++ (S_ ++ Q_))).length), (1, .d (iv a)), (2, .d (iv b)), (3, .d (.fn cf cs))] [(1000000000, (⟨True, 75, 4, true, false, 1000000000, ((P_ ++ (S_ ++ Q_))).map (·.map .d)⟩ : ARow))] rfl (by simp) (by rfl) (by rfl) (by rfl) (by rfl) (by rfl) ?_
 change AWp _ _ _ (S _ _ [(1000000000, (⟨True, 75, 4, true, false, 1000000000, aV ((P_ ++ (S_ ++ Q_)))⟩ : ARow))])
 have hn : P_.length + S_.length + Q_.length ≤ 1000000 := by simpa [Nat.add_assoc] using hN
 have hwa : Ql .i64 ((a : Int) + 1) = ((a + 1 : Nat) : Int) := by rw [wrapI (by omega) (by omega)]; omega
 refine pq fun K0 hK0 => ?_
 simp only [zzK, QR, QP, QQ, JC, zz21, JM, zz26, JB, hwa, zz6, QO, ↓Qb]
 refine kK hK0 [0, 1, 2, 3, 8] ?_
 refine JH ?_
 refine JL (fun m s => ∃ (i : Nat) (R : List (List D)), InO (ltc c) P_ S_ Q_ i R ∧ m = b + 1 - i ∧ s = S 53 [(0, .ref 1000000000 (P_ ++ (S_ ++ Q_)).length), (1, .d (iv a)), (2, .d (iv b)), (3, .d (.fn cf cs)), (8, .d (iv i))] [(1000000000, (⟨True, 75, 4, true, false, 1000000000, aV (R)⟩ : ARow))]) (b + 1 - (a + 1)) _ (leK id [] (hr := by exact ⟨fun _ => ⟨_, rfl, Qu rfl (JU _)⟩, (by simp), trivial⟩) (hwr := by exact ⟨fun e he r' hr' => by rw [JU _ e he] at hr'; simp at hr', trivial⟩)) ⟨a + 1, _, by subst ha; exact InO.start, rfl, rfl⟩ ?_
 rintro m s ⟨i, R, hO, rfl, rfl⟩
 refine JA fun K1 hK1 => ?_
 refine pq fun K2 hK2 => ?_
 simp only [zzK, QR, QP, QQ, JC, zz21, JM, zz22, zz6, QO, ↓Qb]
 refine kK hK2 [0, 1, 2, 3, 8, 14] ?_
 refine cnA ?_ ?_
 ·intro hb
  have hi2 : i < b := by have := Qg hb; omega
  clear hb
  have hI := hO.more (by omega)
  refine JI ?_
  simp only [zz6, QO, ↓Qb]
  refine kK hK1 [0, 1, 2, 3, 8] ?_
  refine JA fun K1 hK1 => ?_
  refine JH ?_
  refine pq fun K2 hK2 => ?_
  simp only [zzK, QR, QP, QQ, JC, JB, zz6, QO, ↓Qb]
  refine kK hK2 [0, 1, 2, 3, 8, 9] ?_
  refine JH ?_
  refine JL (fun m s => ∃ (j : Nat) (R2 : List (List D)), InI (ltc c) P_ S_ Q_ i j R2 ∧ m = j ∧ s = S 53 [(0, .ref 1000000000 (P_ ++ (S_ ++ Q_)).length), (1, .d (iv a)), (2, .d (iv b)), (3, .d (.fn cf cs)), (8, .d (iv i)), (9, .d (iv j))] [(1000000000, (⟨True, 75, 4, true, false, 1000000000, aV (R2)⟩ : ARow))]) i _ (leK id [] (hr := by exact ⟨fun _ => ⟨_, rfl, Qu rfl (JU _)⟩, (by simp), trivial⟩) (hwr := by exact ⟨fun e he r' hr' => by rw [JU _ e he] at hr'; simp at hr', trivial⟩)) ⟨i, _, hI, rfl, rfl⟩ ?_
  clear hO hI
  rintro j s ⟨j0, R2, hJ, rfl, rfl⟩
  obtain ⟨hl0, hib, hji, haj, hai⟩ := hJ.len
  have hl : R2.length = (P_ ++ (S_ ++ Q_)).length := by simp only [QC]; omega
  have ho := hJ.ok hM
  have hz := okM.len h ho
  have hwj : (Ql .i64 ((j : Int) - 1)).toNat = j - 1 := by rw [wrapI (by omega) (by omega)]; omega
  have hwi : Ql .i64 ((i : Int) + 1) = ((i + 1 : Nat) : Int) := by rw [wrapI (by omega) (by omega)]; omega
  refine JA fun K3 hK3 => ?_
  refine JA fun K4 hK4 => ?_
  refine awp_draw F_mixed [some 18, some 19, some 20, some 21, some 22, some 23, some 24, some 25, some 26, some 27, some 28, some 29, some 30, some 31, some 32, some 33, some 34] rfl (by kernel_rfl) ?_
  simp only [zzK, QR, QP, QQ, QU, JZ, zz5, Qj, Qi, Qh, JC, zz21, JM, zz25, JW, zz23, zz24, F_sl41, F_sz75, QA, zzC, yyE, Qe, F_ok75, F_ag75, zz8, zzD, QS, QN, zzH, zz33, JE, JF, zz22, zz13, JQ, JR, aV_len, aV_get, List.length_map, Nat.le_refl, QV, ge0, QH, QN, hl, hwj, tkD R2 hz, asEc_map, asGs_map, zz6, QO, ↓Qb]
  have hjl : j < (P_ ++ (S_ ++ Q_)).length := by rw [← hl]; omega
  have hgt : decide ((j : Int) > (a : Int)) = true → a < j := fun hg => by have := Qg hg; omega
  refine ⟨fun hg => by omega, ⟨fun hg => by omega, fun hg => by rw [lenD hz (by omega)]; exact Nat.le_refl _⟩, ⟨fun hg => by have := hgt hg; rw [wrapI (by omega) (by omega)]; omega, fun hg => by have := hgt hg; rw [wrapI (by omega) (by omega)]; omega⟩, ⟨fun hg => by omega, fun hg => by rw [lenD hz (by omega)]; exact Nat.le_refl _⟩, ?_⟩
  refine call_goC ?_ ?_ h.go (fun hG => h.call (R2.getD j []) (R2.getD (j - 1) []) (ho _ (gd_mem (by omega))) (ho _ (gd_mem (by omega)))) (by simp [QY, QX]) (by simp) ?_
  ·decide
  ·simp only [JD, QQ, Qd, Qc, bare_d, bare_wh]
  simp only [zzK, QR, QP, QQ, QU, JZ, zz5, Qj, Qi, Qh, JC, zz21, JM, zz25, JW, zz23, zz24, F_sl41, F_sz75, QA, zzC, yyE, Qe, F_ok75, F_ag75, zz8, zzD, QS, QN, zzH, zz33, JE, JF, zz22, zz13, JQ, JR, aV_len, aV_get, List.length_map, Nat.le_refl, QV, ge0, QH, QN, hl, hwj, tkD R2 hz, asEc_map, asGs_map, zz6, QO, ↓Qb, QU, JZ, Gp_some, Qj, Qi, Qh, asEs_cons, asEs_nil, asE_ag, asE_d, asE_ref, asEc_cons, asEc_nil, asF_d, asF_ref, asF_ag, asGs, oksF, atsL, oksG, JV, QZ, Qa, JO, Qm, QT, QS, zz9, unDs_map, QB, QA, S_mem, yyF, QF, zz2]
  refine kK hK4 [0, 1, 2, 3, 8, 9, 34] ?_
  refine cnA ?_ ?_
  ·intro hb
   have hja : a < j := by
    cases hd : decide ((j : Int) > (a : Int)) with
    | true => have := Qg hd; omega
    | false => rw [hd] at hb; cases hb
   have hc2 : decide (c (R2.getD j []) (R2.getD (j - 1) []) < 0) = true := by rw [show decide ((j : Int) > (a : Int)) = true from decide_eq_true (by omega)] at hb; exact hb
   clear hb
   have hwj2 : Ql .i64 ((j : Int) - 1) = ((j - 1 : Nat) : Int) := by rw [wrapI (by omega) (by omega)]; omega
   have hjl : j < (P_ ++ (S_ ++ Q_)).length := by rw [← hl]; omega
   obtain ⟨q1, q2, q3, q4, q5, q6, q7, q8, q9, q10, q11⟩ := swpF h ho (i := j) (k := j - 1) (by omega) (by omega)
   have qi := ltI (show j < (P_ ++ (S_ ++ Q_)).length by omega)
   have qk := ltI (show j - 1 < (P_ ++ (S_ ++ Q_)).length by omega)
   have qm := eq_true (show j < (P_ ++ (S_ ++ Q_)).length by omega)
   have qn := eq_true (show j - 1 < (P_ ++ (S_ ++ Q_)).length by omega)
   refine JI ?_
   simp only [zz6, QO, ↓Qb]
   refine kK hK3 [0, 1, 2, 3, 8, 9] ?_
   refine JA fun K3 hK3 => ?_
   refine JH ?_
   refine awp_draw F_mixed [some 37, some 38, some 39, some 40, some 41, some 42, some 43, some 44, some 45, some 46, some 47, some 48, some 49, some 50, some 51, none, some 52, none] rfl (by kernel_rfl) ?_
   simp only [zzK, QR, QP, QQ, JC, zz21, JM, zz33, JW, zz23, zz24, F_sl41, F_sz75, QA, zzC, yyE, Qe, F_ok75, F_ag75, zz8, zzD, QS, QN, zzH, zz18, QG, zz1, zzG, aV_len, aV_get, aV_set, List.length_map, List.length_set, Nat.le_refl, QV, ge0, QH, QN, q1, q2, q3, q4, q5, q6, q7, q8, q9, q10, q11, qi, qk, qm, qn, hwj2, hl, zz6, QO, ↓Qb]
   refine kK hK3 [0, 1, 2, 3, 8, 9] ?_
   refine pz ?_
   simp only [zzK, QR, QP, QQ, JC, zz21, JM, zz33, JB, hwj2, zz6, QO, ↓Qb]
   refine ⟨j - 1, _, by omega, leK id [] (hr := by exact ⟨fun _ => ⟨_, rfl, Qu rfl (JU _)⟩, (by simp), trivial⟩) (hwr := by exact ⟨fun e he r' hr' => by rw [JU _ e he] at hr'; simp at hr', trivial⟩), j - 1, _, hJ.step (by omega) (cmp_pos hc2), rfl, rfl⟩
  ·intro hb
   have hO2 := hJ.done h.swo (by
    cases hd : decide ((j : Int) > (a : Int)) with
    | true => rw [hd] at hb; exact .inr (cmp_neg hb)
    | false => have := Qf hd; exact .inl (by omega))
   clear hb
   refine JK ?_
   simp only [zz6, QO, ↓Qb]
   refine kK hK1 [0, 1, 2, 3, 8] ?_
   refine pz ?_
   simp only [zzK, QR, QP, QQ, JC, zz21, JM, zz26, JB, hwi, zz6, QO, ↓Qb]
   refine ⟨b + 1 - (i + 1), _, by omega, leK id [] (hr := by exact ⟨fun _ => ⟨_, rfl, Qu rfl (JU _)⟩, (by simp), trivial⟩) (hwr := by exact ⟨fun e he r' hr' => by rw [JU _ e he] at hr'; simp at hr', trivial⟩), i + 1, R2, hO2, rfl, rfl⟩
 ·intro hb
  have hi2 : b ≤ i := by have := Qf hb; omega
  clear hb
  obtain rfl := hO.done (by omega)
  have ho2 := hO.ok hM
  have hfl : ∀ l, l ∈ P_ ++ (isort (ltc c) S_ ++ Q_) → flatDs l := fun l hl2 => h.flat l (ho2 l hl2)
  refine JK ?_
  simp only [zz6, QO, ↓Qb]
  refine doneM [] (by simp [resCs, resC, S, List.getD, JD, lookR, ]) ?_ (by simp [Ja, Jb, Jc, ]) (by simp [QY, QX, ]) (by decide) (by simp) ?_ ?_
  ·simp only [QD, QE, resA, JZ, S_mem, lookR_cons, lookR_nil, QR, QP, JD, QQ, Qd, Qc, JP, QI, QJ, QH, QL, QK, List.take_zero, ]; rfl
  ·exact trivial
  ·exact ⟨⟨_, rfl, trivial, rfl, rfl, rfl⟩, hfl, trivial⟩
theorem sLeg_rot {cf : FuncId} {cs : List D} {c : List D → List D → Int} {Pd : List D → Prop} (h : SC Tryz.prog cf cs c Pd 4) (P_ X_ Y_ Q_ : List (List D)) (hM : okM Pd (P_ ++ (X_ ++ (Y_ ++ Q_)))) (hN : (P_ ++ (X_ ++ (Y_ ++ Q_))).length ≤ 1000000) (hX : X_ ≠ []) (hY : Y_ ≠ []) (a m b : Nat) (ha : a = P_.length) (hm : m = P_.length + X_.length) (hb : b = P_.length + X_.length + Y_.length) : MCalls Tryz.prog 125 [.m 0, .d (iv a), .d (iv m), .d (iv b), .d (.fn cf cs)] [⟨75, 4, P_ ++ (X_ ++ (Y_ ++ Q_))⟩] [⟨75, 4, P_ ++ (Y_ ++ (X_ ++ Q_))⟩] [] (.tp []) := by
 refine mcalls_S (rs := []) Tryz.func125 rfl rfl 58 [(0, .ref 1000000000 ((P_ ++ (X_ ++ (Y_ ++ Q_)))).length), (1, .d (iv a)), (2, .d (iv m)), (3, .d (iv b)), (4, .d (.fn cf cs))] [(1000000000, (⟨True, 75, 4, true, false, 1000000000, ((P_ ++ (X_ ++ (Y_ ++ Q_)))).map (·.map .d)⟩ : ARow))] rfl (by simp) (by rfl) (by rfl) (by rfl) (by rfl) (by rfl) ?_
 change AWp _ _ _ (S _ _ [(1000000000, (⟨True, 75, 4, true, false, 1000000000, aV ((P_ ++ (X_ ++ (Y_ ++ Q_))))⟩ : ARow))])
 have hn : P_.length + X_.length + Y_.length + Q_.length ≤ 1000000 := by simpa [Nat.add_assoc] using hN
 have hwx : Ql .i64 ((m : Int) - (a : Int)) = ((X_.length : Nat) : Int) := by rw [wrapI (by omega) (by omega)]; omega
 have hwy : Ql .i64 ((b : Int) - (m : Int)) = ((Y_.length : Nat) : Int) := by rw [wrapI (by omega) (by omega)]; omega
 refine pq fun K0 hK0 => ?_
 simp only [zzK, QR, QP, QQ, JC, zz21, JM, zz33, JB, hwx, zz6, QO, ↓Qb]
 refine kK hK0 [0, 2, 3, 4, 10] ?_
 refine pq fun K0 hK0 => ?_
 simp only [zzK, QR, QP, QQ, JC, zz21, JM, zz33, JB, hwy, zz6, QO, ↓Qb]
 refine kK hK0 [0, 2, 4, 10, 11] ?_
 refine JA fun K0 hK0 => ?_
 refine JH ?_
 refine JL (fun mm s => ∃ A U V B : List (List D), U ≠ [] ∧ V ≠ [] ∧ m = A.length + U.length ∧ A ++ (V ++ (U ++ B)) = P_ ++ (Y_ ++ (X_ ++ Q_)) ∧ mm = U.length + V.length ∧ s = S 58 [(0, .ref 1000000000 (P_ ++ (X_ ++ (Y_ ++ Q_))).length), (2, .d (iv m)), (4, .d (.fn cf cs)), (10, .d (iv (U).length)), (11, .d (iv (V).length))] [(1000000000, (⟨True, 75, 4, true, false, 1000000000, aV ((A ++ (U ++ (V ++ B))))⟩ : ARow))]) (X_.length + Y_.length) _ (leK id [] (hr := by exact ⟨fun _ => ⟨_, rfl, Qu rfl (JU _)⟩, (by simp), trivial⟩) (hwr := by exact ⟨fun e he r' hr' => by rw [JU _ e he] at hr'; simp at hr', trivial⟩)) ⟨P_, X_, Y_, Q_, hX, hY, hm, rfl, rfl, rfl⟩ ?_
 rintro mm s ⟨A, U, V, B, hU, hV, hmu, hE, rfl, rfl⟩
 have hlen := congrArg List.length hE
 simp only [QC] at hlen
 have hN2 : (A ++ (U ++ (V ++ B))).length ≤ 1000000 := by simp only [QC]; omega
 have ho : okM Pd (A ++ (U ++ (V ++ B))) := by
  have hF : okM Pd (A ++ (V ++ (U ++ B))) := by rw [hE]; simp only [okM_app] at hM ⊢; exact ⟨hM.1, hM.2.2.1, hM.2.1, hM.2.2.2⟩
  simp only [okM_app] at hF ⊢
  exact ⟨hF.1, hF.2.2.1, hF.2.1, hF.2.2.2⟩
 have hl : (A ++ (U ++ (V ++ B))).length = (P_ ++ (X_ ++ (Y_ ++ Q_))).length := by simp only [QC]; omega
 have hu := List.length_pos_iff.2 hU
 have hv := List.length_pos_iff.2 hV
 refine JA fun K2 hK2 => ?_
 refine pq fun K3 hK3 => ?_
 simp only [zzK, QR, QP, QQ, JC, zz21, JM, zz28, zz6, QO, ↓Qb]
 refine kK hK3 [0, 2, 4, 10, 11, 20] ?_
 refine cnA ?_ ?_
 ·intro hb
  have hne : U.length ≠ V.length := by intro he; rw [he] at hb; simp at hb
  clear hb
  refine JI ?_
  simp only [zz6, QO, ↓Qb]
  refine kK hK2 [0, 2, 4, 10, 11] ?_
  refine JH ?_
  refine pq fun K2 hK2 => ?_
  simp only [zzK, QR, QP, QQ, JC, zz21, JM, zz25, zz6, QO, ↓Qb]
  refine kK hK2 [0, 2, 4, 10, 11, 23] ?_
  refine cnA ?_ ?_
  ·intro hb
   have hgt : V.length < U.length := by have := Qg hb; omega
   clear hb
   obtain ⟨U1, U2, rfl, hl12⟩ : ∃ U1 U2, U = U1 ++ U2 ∧ V.length = U1.length := ⟨U.take V.length, U.drop V.length, by simp, by simp; omega⟩
   have hlu : (U1 ++ U2).length = U1.length + U2.length := QC
   have hU1 : U1 ≠ [] := List.length_pos_iff.1 (by omega)
   have hU2 : U2 ≠ [] := List.length_pos_iff.1 (by omega)
   have hw1 : Ql .i64 ((m : Int) - ((U1 ++ U2).length : Int)) = ((m - (U1 ++ U2).length : Nat) : Int) := by rw [wrapI (by omega) (by omega)]; omega
   have hw2 : Ql .i64 (((U1 ++ U2).length : Int) - (V.length : Int)) = ((U2.length : Nat) : Int) := by rw [wrapI (by omega) (by omega)]; omega
   have hsw : swpR (A ++ (U1 ++ U2 ++ (V ++ B))) (m - (U1 ++ U2).length) m V.length = (A ++ V) ++ (U2 ++ (U1 ++ B)) := by
    rw [show A ++ (U1 ++ U2 ++ (V ++ B)) = A ++ (U1 ++ (U2 ++ (V ++ B))) by simp, swpR_mid hl12.symm rfl (by omega) (by omega)]
    simp
   have hof := okM_swpR ho (m - (U1 ++ U2).length) m V.length (by rw [hl]; simp only [QC] at hlen ⊢; omega) (by rw [hl]; simp only [QC] at hlen ⊢; omega)
   refine JA fun K3 hK3 => ?_
   refine awp_mut [some 24, some 25, some 26, some 27, some 28, some 29, some 30, some 31] rfl 7 rfl ?_
   simp only [zzK, QR, QP, QQ, JC, zz21, JM, zz33, JE, JF, hw1, aV, hl, zzB, zz6, QO, ↓Qb]
   refine mut_go [1000000000] F_go127 (sLeg_swap h (A ++ (U1 ++ U2 ++ (V ++ B))) ho hN2 (m - (U1 ++ U2).length) m V.length (by omega) (by rw [hl]; simp only [QC] at hlen ⊢; omega)) (by simp [QY, QX]) (by decide) (by first | exact ⟨by decide, by simp⟩ | rfl) ?_
   simp only [zzK, QR, QP, QQ, JC, zz21, JM, zz33, JE, JF, hw1, aV, hl, zzB, zz6, QO, ↓Qb, mArgs_nil, asE_cl, asF_cl, asD_ptr, asG_ptr, asD_ep, asG_ep, List.mem_singleton, forall_eq, asEc_cons, asEc_nil, mArgs_d, mArgs_m, mRows_nil, mRows_cons, mNewL, nxM, mBase, mName, oksL, List.getElem?_cons_zero, List.getElem?_cons_succ, zzF, asE_ag, asE_d, asE_ref, asEc_cons, asEc_nil, asF_d, asF_ref, asF_ag, asGs, QY, QX, QM, List.not_mem_nil, false_implies, forall_const, atsL, asD_self, asD_nil, asD_sl, asD_agg, asD_int, asD_bool, asD_func, asD_ag, asD_ref, asG_d, asG_ag, asG_ref, JV, QZ, Qa, JO, Qm, QT, QS, zz9, QB, QA, zzC, yyF, zzD, S_func, Sk_func]
   refine ⟨fun l hl2 => h.flat l (hof l hl2), ?_⟩
   refine kK hK3 [0, 2, 4, 10, 11] ?_
   refine pz ?_
   simp only [zzK, QR, QP, QQ, JC, zz21, JM, zz33, JB, hw2, zz6, QO, ↓Qb]
   refine ⟨U2.length + U1.length, _, by simp only [QC]; omega, leK id [] (hl := by simp only [leV, JD, QQ, Qd, Qc, hw2, hl12]; exact ⟨Qn _, Qn _, Qn _, Qn _, Qn _, trivial⟩) (hr := by exact ⟨fun _ => ⟨_, rfl, Qu (by rw [hsw]; rfl) (JU _)⟩, (by simp), trivial⟩) (hwr := by exact ⟨fun e he r' hr' => by rw [ids_data e he] at hr'; simp at hr', trivial⟩), A ++ V, U2, U1, B, hU2, hU1, by simp only [QC] at hmu ⊢; omega, by rw [← hE]; simp, rfl, rfl⟩
  ·intro hb
   have hgt : U.length < V.length := by have := Qf hb; omega
   clear hb
   obtain ⟨V1, V2, rfl, hl12⟩ : ∃ V1 V2, V = V1 ++ V2 ∧ U.length = V2.length := ⟨V.take (V.length - U.length), V.drop (V.length - U.length), by simp, by simp; omega⟩
   have hlu : (V1 ++ V2).length = V1.length + V2.length := QC
   have hV1 : V1 ≠ [] := List.length_pos_iff.1 (by omega)
   have hV2 : V2 ≠ [] := List.length_pos_iff.1 (by omega)
   have hw1 : Ql .i64 ((m : Int) - (U.length : Int)) = ((m - U.length : Nat) : Int) := by rw [wrapI (by omega) (by omega)]; omega
   have hw3 : Ql .i64 ((m : Int) + ((V1 ++ V2).length : Int)) = ((m + (V1 ++ V2).length : Nat) : Int) := by rw [wrapI (by omega) (by omega)]; omega
   have hw4 : Ql .i64 (((m + (V1 ++ V2).length : Nat) : Int) - (U.length : Int)) = ((m + (V1 ++ V2).length - U.length : Nat) : Int) := by rw [wrapI (by omega) (by omega)]; omega
   have hw2 : Ql .i64 (((V1 ++ V2).length : Int) - (U.length : Int)) = ((V1.length : Nat) : Int) := by rw [wrapI (by omega) (by omega)]; omega
   have hsw : swpR (A ++ (U ++ (V1 ++ V2 ++ B))) (m - U.length) (m + (V1 ++ V2).length - U.length) U.length = A ++ (V2 ++ (V1 ++ (U ++ B))) := by
    rw [show A ++ (U ++ (V1 ++ V2 ++ B)) = A ++ (U ++ (V1 ++ (V2 ++ B))) by simp, swpR_mid rfl hl12.symm (by omega) (by omega)]
   have hof := okM_swpR ho (m - U.length) (m + (V1 ++ V2).length - U.length) U.length (by rw [hl]; simp only [QC] at hlen ⊢; omega) (by rw [hl]; simp only [QC] at hlen ⊢; omega)
   refine JA fun K3 hK3 => ?_
   refine awp_mut [some 35, some 36, some 37, some 38, some 39, some 40, some 41, some 42, some 43, some 44, some 45, some 46] rfl 11 rfl ?_
   simp only [zzK, QR, QP, QQ, JC, zz21, JM, zz33, zz26, JE, JF, hw1, hw3, hw4, aV, hl, zzB, zz6, QO, ↓Qb]
   refine mut_go [1000000000] F_go127 (sLeg_swap h (A ++ (U ++ (V1 ++ V2 ++ B))) ho hN2 (m - U.length) (m + (V1 ++ V2).length - U.length) U.length (by omega) (by rw [hl]; simp only [QC] at hlen ⊢; omega)) (by simp [QY, QX]) (by decide) (by first | exact ⟨by decide, by simp⟩ | rfl) ?_
   simp only [zzK, QR, QP, QQ, JC, zz21, JM, zz33, zz26, JE, JF, hw1, hw3, hw4, aV, hl, zzB, zz6, QO, ↓Qb, mArgs_nil, asE_cl, asF_cl, asD_ptr, asG_ptr, asD_ep, asG_ep, List.mem_singleton, forall_eq, asEc_cons, asEc_nil, mArgs_d, mArgs_m, mRows_nil, mRows_cons, mNewL, nxM, mBase, mName, oksL, List.getElem?_cons_zero, List.getElem?_cons_succ, zzF, asE_ag, asE_d, asE_ref, asEc_cons, asEc_nil, asF_d, asF_ref, asF_ag, asGs, QY, QX, QM, List.not_mem_nil, false_implies, forall_const, atsL, asD_self, asD_nil, asD_sl, asD_agg, asD_int, asD_bool, asD_func, asD_ag, asD_ref, asG_d, asG_ag, asG_ref, JV, QZ, Qa, JO, Qm, QT, QS, zz9, QB, QA, zzC, yyF, zzD, S_func, Sk_func]
   refine ⟨fun l hl2 => h.flat l (hof l hl2), ?_⟩
   refine kK hK3 [0, 2, 4, 10, 11] ?_
   refine pz ?_
   simp only [zzK, QR, QP, QQ, JC, zz21, JM, zz33, JB, hw2, zz6, QO, ↓Qb]
   refine ⟨U.length + V1.length, _, by simp only [QC]; omega, leK id [] (hl := by simp only [leV, JD, QQ, Qd, Qc, hw2, hl12]; exact ⟨Qn _, Qn _, Qn _, Qn _, Qn _, trivial⟩) (hr := by exact ⟨fun _ => ⟨_, rfl, Qu (by rw [hsw]; rfl) (JU _)⟩, (by simp), trivial⟩) (hwr := by exact ⟨fun e he r' hr' => by rw [ids_data e he] at hr'; simp at hr', trivial⟩), A, V2, V1, U ++ B, hV2, hV1, by omega, by rw [← hE]; simp, by rw [hl12], rfl⟩
 ·intro hb
  have heq : U.length = V.length := by
   have hb2 : (U.length : Int) = V.length := by simpa using hb
   omega
  clear hb
  have hw1 : Ql .i64 ((m : Int) - (U.length : Int)) = ((m - U.length : Nat) : Int) := by rw [wrapI (by omega) (by omega)]; omega
  have hsw : swpR (A ++ (U ++ (V ++ B))) (m - U.length) m U.length = P_ ++ (Y_ ++ (X_ ++ Q_)) := by
   rw [← hE, show A ++ (U ++ (V ++ B)) = A ++ (U ++ ([] ++ (V ++ B))) by simp, swpR_mid rfl heq.symm (by omega) (by simp; omega)]
   simp
  have hof := okM_swpR ho (m - U.length) m U.length (by rw [hl]; simp only [QC]; omega) (by rw [hl]; simp only [QC]; omega)
  refine JK ?_
  simp only [zz6, QO, ↓Qb]
  refine kK hK0 [0, 2, 4, 10] ?_
  refine awp_mut [some 50, some 51, some 52, some 53, some 54, some 55, some 56, some 57] rfl 7 rfl ?_
  simp only [zzK, QR, QP, QQ, JC, zz21, JM, zz33, JE, JF, hw1, aV, hl, zzB, zz6, QO, ↓Qb]
  refine mut_go [1000000000] F_go127 (sLeg_swap h (A ++ (U ++ (V ++ B))) ho hN2 (m - U.length) m U.length (by omega) (by rw [hl]; simp only [QC]; omega)) (by simp [QY, QX]) (by decide) (by first | exact ⟨by decide, by simp⟩ | rfl) ?_
  simp only [zzK, QR, QP, QQ, JC, zz21, JM, zz33, JE, JF, hw1, aV, hl, zzB, zz6, QO, ↓Qb, mArgs_nil, asE_cl, asF_cl, asD_ptr, asG_ptr, asD_ep, asG_ep, List.mem_singleton, forall_eq, asEc_cons, asEc_nil, mArgs_d, mArgs_m, mRows_nil, mRows_cons, mNewL, nxM, mBase, mName, oksL, List.getElem?_cons_zero, List.getElem?_cons_succ, zzF, asE_ag, asE_d, asE_ref, asEc_cons, asEc_nil, asF_d, asF_ref, asF_ag, asGs, QY, QX, QM, List.not_mem_nil, false_implies, forall_const, atsL, asD_self, asD_nil, asD_sl, asD_agg, asD_int, asD_bool, asD_func, asD_ag, asD_ref, asG_d, asG_ag, asG_ref, JV, QZ, Qa, JO, Qm, QT, QS, zz9, QB, QA, zzC, yyF, zzD, S_func, Sk_func]
  refine ⟨fun l hl2 => h.flat l (hof l hl2), ?_⟩
  have hfl : ∀ l, l ∈ P_ ++ (Y_ ++ (X_ ++ Q_)) → flatDs l := fun l hl2 => h.flat l (by rw [hsw] at hof; exact hof l hl2)
  refine doneM [] (by simp [resCs, resC, S, List.getD, JD, lookR, ]) ?_ (by simp [Ja, Jb, Jc, ]) (by simp [QY, QX, ]) (by decide) (by simp) ?_ ?_
  ·simp only [QD, QE, resA, JZ, S_mem, lookR_cons, lookR_nil, QR, QP, JD, QQ, Qd, Qc, JP, QI, QJ, QH, QL, QK, List.take_zero, ]; rfl
  ·exact trivial
  ·exact ⟨⟨_, rfl, trivial, rfl, rfl, by rw [hsw]⟩, hfl, trivial⟩
set_option maxRecDepth 100000 in
set_option maxHeartbeats 4000000 in
theorem sLeg_symS {cf : FuncId} {cs : List D} {c : List D → List D → Int} {Pd : List D → Prop} (h : SC Tryz.prog cf cs c Pd 4) (k : Nat) (ih : ∀ P L R Q : List (List D), okM Pd (P ++ (L ++ (R ++ Q))) → (P ++ (L ++ (R ++ Q))).length ≤ 1000000 → L ≠ [] → R ≠ [] → Srt (ltc c) L → Srt (ltc c) R → ∀ a m b : Nat, a = P.length → m = P.length + L.length → b = P.length + L.length + R.length → L.length + R.length < k → MCalls Tryz.prog 120 [.m 0, .d (iv a), .d (iv m), .d (iv b), .d (.fn cf cs)] [⟨75, 4, P ++ (L ++ (R ++ Q))⟩] [⟨75, 4, P ++ (mergeS (ltc c) L R ++ Q)⟩] [] (.tp [])) (P_ L_ R_ Q_ : List (List D)) (hM : okM Pd (P_ ++ (L_ ++ (R_ ++ Q_)))) (hN : (P_ ++ (L_ ++ (R_ ++ Q_))).length ≤ 1000000) (hL0 : L_ ≠ []) (hR0 : R_ ≠ []) (hSL : Srt (ltc c) L_) (hSR : Srt (ltc c) R_) (a m b : Nat) (ha : a = P_.length) (hm : m = P_.length + L_.length) (hbb : b = P_.length + L_.length + R_.length) (hk : L_.length + R_.length = k) : MCalls Tryz.prog 120 [.m 0, .d (iv a), .d (iv m), .d (iv b), .d (.fn cf cs)] [⟨75, 4, P_ ++ (L_ ++ (R_ ++ Q_))⟩] [⟨75, 4, P_ ++ (mergeS (ltc c) L_ R_ ++ Q_)⟩] [] (.tp []) := by
 refine mcalls_S (rs := []) Tryz.func120 rfl rfl 220 [(0, .ref 1000000000 ((P_ ++ (L_ ++ (R_ ++ Q_)))).length), (1, .d (iv a)), (2, .d (iv m)), (3, .d (iv b)), (4, .d (.fn cf cs))] [(1000000000, (⟨True, 75, 4, true, false, 1000000000, ((P_ ++ (L_ ++ (R_ ++ Q_)))).map (·.map .d)⟩ : ARow))] rfl (by simp) (by rfl) (by rfl) (by rfl) (by rfl) (by rfl) ?_
 change AWp _ _ _ (S _ _ [(1000000000, (⟨True, 75, 4, true, false, 1000000000, aV ((P_ ++ (L_ ++ (R_ ++ Q_))))⟩ : ARow))])
 have hn : P_.length + L_.length + R_.length + Q_.length ≤ 1000000 := by simpa [Nat.add_assoc] using hN
 have hlp := List.length_pos_iff.2 hL0
 have hrp := List.length_pos_iff.2 hR0
 have hlen : (P_ ++ (L_ ++ (R_ ++ Q_))).length = P_.length + L_.length + R_.length + Q_.length := by simp only [QC]; omega
 have hz := okM.len h hM
 have hwx : Ql .i64 ((m : Int) - (a : Int)) = ((L_.length : Nat) : Int) := by rw [wrapI (by omega) (by omega)]; omega
 have hwy : Ql .i64 ((b : Int) - (m : Int)) = ((R_.length : Nat) : Int) := by rw [wrapI (by omega) (by omega)]; omega
 refine JA fun K0 hK0 => ?_
 refine pq fun K1 hK1 => ?_
 simp only [zzK, QR, QP, QQ, JC, zz21, JM, zz33, zz34, hwx, zz6, QO, ↓Qb]
 refine kK hK1 [0, 1, 2, 3, 4, 28] ?_
 refine cnA ?_ ?_
 ·intro hb
  have hx1 : L_.length = 1 := by
   have hb2 : (L_.length : Int) = 1 := by simpa using hb
   omega
  clear hb
  obtain ⟨x, hx⟩ : ∃ x, L_ = [x] := List.length_eq_one_iff.1 hx1
  refine pq fun K2 hK2 => ?_
  simp only [zzK, QR, QP, QQ, JC, JB, zz6, QO, ↓Qb]
  refine kK hK2 [0, 1, 3, 4, 10] ?_
  refine pq fun K2 hK2 => ?_
  simp only [zzK, QR, QP, QQ, JC, JB, zz6, QO, ↓Qb]
  refine kK hK2 [0, 1, 4, 10, 11] ?_
  refine JA fun K2 hK2 => ?_
  refine JH ?_
  refine JL (fun mm s => ∃ i j : Nat, m ≤ i ∧ i ≤ j ∧ j ≤ b ∧ (i = m ∨ ltc c ((P_ ++ (L_ ++ (R_ ++ Q_))).getD (i - 1) []) ((P_ ++ (L_ ++ (R_ ++ Q_))).getD a []) = true) ∧ (j = b ∨ ltc c ((P_ ++ (L_ ++ (R_ ++ Q_))).getD j []) ((P_ ++ (L_ ++ (R_ ++ Q_))).getD a []) = false) ∧ mm = j - i ∧ s = S 220 [(0, .ref 1000000000 (P_ ++ (L_ ++ (R_ ++ Q_))).length), (1, .d (iv a)), (4, .d (.fn cf cs)), (10, .d (iv i)), (11, .d (iv j))] [(1000000000, (⟨True, 75, 4, true, false, 1000000000, aV ((P_ ++ (L_ ++ (R_ ++ Q_))))⟩ : ARow))]) (b - m) _ (leK id [] (hr := by exact ⟨fun _ => ⟨_, rfl, Qu rfl (JU _)⟩, (by simp), trivial⟩) (hwr := by exact ⟨fun e he r' hr' => by rw [JU _ e he] at hr'; simp at hr', trivial⟩)) ⟨m, b, by omega, by omega, by omega, .inl rfl, .inl rfl, rfl, rfl⟩ ?_
  rintro mm s ⟨i, j, hi1, hij, hj1, hI1, hI2, rfl, rfl⟩
  refine JA fun K4 hK4 => ?_
  refine pq fun K5 hK5 => ?_
  simp only [zzK, QR, QP, QQ, JC, zz21, JM, zz22, zz6, QO, ↓Qb]
  refine kK hK5 [0, 1, 4, 10, 11, 33] ?_
  refine cnA ?_ ?_
  ·intro hb
   have hlt : i < j := by have := Qg hb; omega
   clear hb
   have hmid := midW (i := i) (j := j) (by omega)
   obtain ⟨l1, l2, l3, l4⟩ := ldF h hM (i := (i + j) / 2) (by omega)
   obtain ⟨k1, k2, k3, k4⟩ := ldF h hM (i := a) (by omega)
   have hmi : Ql .i64 ((((i + j) / 2 : Nat) : Int) + 1) = (((i + j) / 2 + 1 : Nat) : Int) := by rw [wrapI (by omega) (by omega)]; omega
   refine JI ?_
   simp only [zz6, QO, ↓Qb]
   refine kK hK4 [0, 1, 4, 10, 11] ?_
   refine JH ?_
   refine pq fun K4 hK4 => ?_
   simp only [zzK, QR, QP, QQ, JC, zz21, JM, zz26, zz27, F_cv3_97, F_cvV97, b_shr, pure_shr, Int.reduceLT, Qk, F_cv97_3, F_cvV3, JB, hmid, zz6, QO, ↓Qb]
   refine kK hK4 [0, 1, 4, 10, 11, 12] ?_
   refine JA fun K4 hK4 => ?_
   refine awp_draw F_mixed [some 40, some 41, some 42, some 43, some 44, some 45, some 46, some 47, some 48, some 49, some 50] rfl (by kernel_rfl) ?_
   simp only [zzK, QR, QP, QQ, JC, JW, zz23, zz24, F_sl41, F_sz75, QA, zzC, yyE, Qe, F_ok75, F_ag75, zz8, zzD, QS, QN, zzH, JE, JF, zz21, JM, zz22, aV_len, aV_get, List.length_map, Nat.le_refl, QV, ge0, QH, QN, asEc_map, asGs_map, l1, l2, l3, l4, k1, k2, k3, k4, zz6, QO, ↓Qb]
   refine call_goC ?_ ?_ h.go (fun hG => h.call ((P_ ++ (L_ ++ (R_ ++ Q_))).getD ((i + j) / 2) []) ((P_ ++ (L_ ++ (R_ ++ Q_))).getD a []) (hM _ (gd_mem (by omega))) (hM _ (gd_mem (by omega)))) (by simp [QY, QX]) (by simp) ?_
   ·decide
   ·simp only [JD, QQ, Qd, Qc, bare_d, bare_wh]
   simp only [zzK, QR, QP, QQ, JC, JW, zz23, zz24, F_sl41, F_sz75, QA, zzC, yyE, Qe, F_ok75, F_ag75, zz8, zzD, QS, QN, zzH, JE, JF, zz21, JM, zz22, aV_len, aV_get, List.length_map, Nat.le_refl, QV, ge0, QH, QN, asEc_map, asGs_map, l1, l2, l3, l4, k1, k2, k3, k4, zz6, QO, ↓Qb, QU, JZ, zz5, Qj, Qi, Qh, asEs_cons, asEs_nil, asE_ag, asE_d, asE_ref, asEc_cons, asEc_nil, asF_d, asF_ref, asF_ag, asGs, oksF, atsL, oksG, JV, QZ, Qa, JO, Qm, QT, QS, zz9, unDs_map, QB, QA, S_mem, yyF, QF, zz2]
   refine kK hK4 [0, 1, 4, 10, 11, 12, 50] ?_
   refine cnA ?_ ?_
   ·intro hb
    refine pz ?_
    simp only [zzK, QR, QP, QQ, JC, zz21, JM, zz26, JB, hmi, zz6, QO, ↓Qb]
    refine ⟨j - ((i + j) / 2 + 1), _, by omega, leK id [] (hr := by exact ⟨fun _ => ⟨_, rfl, Qu rfl (JU _)⟩, (by simp), trivial⟩) (hwr := by exact ⟨fun e he r' hr' => by rw [JU _ e he] at hr'; simp at hr', trivial⟩), (i + j) / 2 + 1, j, by omega, by omega, by omega, .inr (cmp_pos hb), hI2, rfl, rfl⟩
   ·intro hb
    refine pz ?_
    simp only [zzK, QR, QP, QQ, JC, JB, zz6, QO, ↓Qb]
    refine ⟨(i + j) / 2 - i, _, by omega, leK id [] (hr := by exact ⟨fun _ => ⟨_, rfl, Qu rfl (JU _)⟩, (by simp), trivial⟩) (hwr := by exact ⟨fun e he r' hr' => by rw [JU _ e he] at hr'; simp at hr', trivial⟩), i, (i + j) / 2, by omega, by omega, by omega, hI1, .inr (cmp_neg hb), rfl, rfl⟩
  ·intro hb
   obtain rfl : i = j := by have := Qf hb; omega
   clear hb
   obtain ⟨R1, R2, hR12, hi2, hmg⟩ := sym1 h.swo hSR (show (P_ ++ (L_ ++ (R_ ++ Q_))) = P_ ++ ([x] ++ (R_ ++ Q_)) by rw [hx]) ha (by omega) (by omega) hi1 hj1 hI1 hI2
   have hRl : R_.length = R1.length + R2.length := by rw [hR12]; exact QC
   have hwi : Ql .i64 ((i : Int) - 1) = ((a + R1.length : Nat) : Int) := by rw [wrapI (by omega) (by omega)]; omega
   refine JK ?_
   simp only [zz6, QO, ↓Qb]
   refine kK hK2 [0, 1, 10] ?_
   refine JA fun K2 hK2 => ?_
   refine pq fun K3 hK3 => ?_
   simp only [zzK, QR, QP, QQ, JC, JB, zz6, QO, ↓Qb]
   refine kK hK3 [0, 10, 13] ?_
   refine JH ?_
   refine JL (fun mm s => ∃ B1 B2 : List (List D), R1 = B1 ++ B2 ∧ mm = B2.length ∧ s = S 220 [(0, .ref 1000000000 (P_ ++ (L_ ++ (R_ ++ Q_))).length), (10, .d (iv i)), (13, .d (iv (a + (B1).length : Nat)))] [(1000000000, (⟨True, 75, 4, true, false, 1000000000, aV ((P_ ++ (B1 ++ x :: (B2 ++ (R2 ++ Q_)))))⟩ : ARow))]) R1.length _ (leK id [] (hr := by exact ⟨fun _ => ⟨_, rfl, Qu (by rw [hx, hR12]; simp) (JU _)⟩, (by simp), trivial⟩) (hwr := by exact ⟨fun e he r' hr' => by rw [JU _ e he] at hr'; simp at hr', trivial⟩)) ⟨[], R1, rfl, rfl, rfl⟩ ?_
   rintro mm s ⟨B1, B2, hB, rfl, rfl⟩
   have hBl : R1.length = B1.length + B2.length := by rw [hB]; exact QC
   have hl : (P_ ++ (B1 ++ x :: (B2 ++ (R2 ++ Q_)))).length = (P_ ++ (L_ ++ (R_ ++ Q_))).length := by simp only [QC, QF]; omega
   have ho : okM Pd (P_ ++ (B1 ++ x :: (B2 ++ (R2 ++ Q_)))) := by
    have hM2 := hM
    rw [hx, hR12, hB] at hM2
    simp only [okM_app, okM_cons] at hM2 ⊢
    exact ⟨hM2.1, hM2.2.2.1.1.1, hM2.2.1.1, hM2.2.2.1.1.2, hM2.2.2.1.2, hM2.2.2.2⟩
   refine JA fun K4 hK4 => ?_
   refine pq fun K5 hK5 => ?_
   simp only [zzK, QR, QP, QQ, JC, zz21, JM, zz33, zz22, hwi, zz6, QO, ↓Qb]
   refine kK hK5 [0, 10, 13, 58] ?_
   refine cnA ?_ ?_
   ·intro hb
    have hlt : a + B1.length < a + R1.length := by have := Qg hb; omega
    clear hb
    obtain ⟨y, B3, rfl⟩ := cons_of (A := B2) (by omega)
    simp only [QF] at hBl
    generalize hRR : P_ ++ (B1 ++ x :: (y :: B3 ++ (R2 ++ Q_))) = RR at hl ho ⊢
    have hwk : Ql .i64 (((a + B1.length : Nat) : Int) + 1) = ((a + B1.length + 1 : Nat) : Int) := by rw [wrapI (by omega) (by omega)]; omega
    obtain ⟨q1, q2, q3, q4, q5, q6, q7, q8, q9, q10, q11⟩ := swpF h ho (i := a + B1.length) (k := a + B1.length + 1) (by omega) (by omega)
    have qi := ltI (show a + B1.length < (P_ ++ (L_ ++ (R_ ++ Q_))).length by omega)
    have qk := ltI (show a + B1.length + 1 < (P_ ++ (L_ ++ (R_ ++ Q_))).length by omega)
    have qm := eq_true (show a + B1.length < (P_ ++ (L_ ++ (R_ ++ Q_))).length by omega)
    have qn := eq_true (show a + B1.length + 1 < (P_ ++ (L_ ++ (R_ ++ Q_))).length by omega)
    have hsw : swp RR (a + B1.length) (a + B1.length + 1) = P_ ++ ((B1 ++ [y]) ++ x :: (B3 ++ (R2 ++ Q_))) := by
     rw [← hRR, show P_ ++ (B1 ++ x :: (y :: B3 ++ (R2 ++ Q_))) = (P_ ++ B1) ++ x :: ([] ++ y :: (B3 ++ (R2 ++ Q_))) by simp, swp_mid (by simp; omega) (by simp; omega)]
     simp
    refine JI ?_
    simp only [zz6, QO, ↓Qb]
    refine kK hK4 [0, 10, 13] ?_
    refine JA fun K4 hK4 => ?_
    refine JH ?_
    refine awp_draw F_mixed [some 61, some 62, some 63, some 64, some 65, some 66, some 67, some 68, some 69, some 70, some 71, some 72, some 73, some 74, some 75, none, some 76, none] rfl (by kernel_rfl) ?_
    simp only [zzK, QR, QP, QQ, JC, zz21, JM, zz26, JW, zz23, zz24, F_sl41, F_sz75, QA, zzC, yyE, Qe, F_ok75, F_ag75, zz8, zzD, QS, QN, zzH, zz18, QG, zz1, zzG, aV_len, aV_get, aV_set, List.length_map, List.length_set, Nat.le_refl, QV, ge0, QH, QN, q1, q2, q3, q4, q5, q6, q7, q8, q9, q10, q11, qi, qk, qm, qn, hwk, hl, zz6, QO, ↓Qb]
    refine kK hK4 [0, 10, 13] ?_
    refine pz ?_
    simp only [zzK, QR, QP, QQ, JC, zz21, JM, zz26, JB, hwk, zz6, QO, ↓Qb]
    refine ⟨B3.length, _, by simp, leK id [] (hl := by simp only [leV, JD, QQ, Qd, Qc, hwk, QC, QM]; exact ⟨Qn _, Qn _, Qn _, trivial⟩) (hr := by exact ⟨fun _ => ⟨_, rfl, Qu (by rw [← hsw]; rfl) (JU _)⟩, (by simp), trivial⟩) (hwr := by exact ⟨fun e he r' hr' => by rw [JU _ e he] at hr'; simp at hr', trivial⟩), B1 ++ [y], B3, by rw [hB]; simp, rfl, rfl⟩
   ·intro hb
    have hge : B2 = [] := List.eq_nil_of_length_eq_zero (by have := Qf hb; omega)
    clear hb
    subst hge
    have hfin : P_ ++ (B1 ++ x :: ([] ++ (R2 ++ Q_))) = P_ ++ (mergeS (ltc c) L_ R_ ++ Q_) := by rw [hx, hmg, hB]; simp
    refine JK ?_
    simp only [zz6, QO, ↓Qb]
    refine kK hK2 [] ?_
    refine awp_ret ?_
    simp only [zz6, QO, ↓Qb]
    have hfl : ∀ l, l ∈ P_ ++ (mergeS (ltc c) L_ R_ ++ Q_) → flatDs l := fun l hl2 => h.flat l (by rw [hfin] at ho; exact ho l hl2)
    refine doneM [] (by simp [resCs, resC, S, List.getD, JD, lookR, ]) ?_ (by simp [Ja, Jb, Jc, ]) (by simp [QY, QX, ]) (by decide) (by simp) ?_ ?_
    ·simp only [QD, QE, resA, JZ, S_mem, lookR_cons, lookR_nil, QR, QP, JD, QQ, Qd, Qc, JP, QI, QJ, QH, QL, QK, List.take_zero, ]; rfl
    ·exact trivial
    ·exact ⟨⟨_, rfl, trivial, rfl, rfl, by rw [hfin]; rfl⟩, hfl, trivial⟩
 ·intro hb
  clear hb
  refine JI ?_
  simp only [zz6, QO, ↓Qb]
  refine kK hK0 [0, 1, 2, 3, 4] ?_
  refine JA fun K0 hK0 => ?_
  refine pq fun K1 hK1 => ?_
  simp only [zzK, QR, QP, QQ, JC, zz21, JM, zz33, zz34, hwy, zz6, QO, ↓Qb]
  refine kK hK1 [0, 1, 2, 3, 4, 80] ?_
  refine cnA ?_ ?_
  ·intro hb
   have hy1 : R_.length = 1 := by
    have hb2 : (R_.length : Int) = 1 := by simpa using hb
    omega
   clear hb
   obtain ⟨y, hy⟩ : ∃ y, R_ = [y] := List.length_eq_one_iff.1 hy1
   refine pq fun K2 hK2 => ?_
   simp only [zzK, QR, QP, QQ, JC, JB, zz6, QO, ↓Qb]
   refine kK hK2 [0, 2, 4, 14] ?_
   refine pq fun K2 hK2 => ?_
   simp only [zzK, QR, QP, QQ, JC, JB, zz6, QO, ↓Qb]
   refine kK hK2 [0, 2, 4, 14, 15] ?_
   refine JA fun K2 hK2 => ?_
   refine JH ?_
   refine JL (fun mm s => ∃ i j : Nat, a ≤ i ∧ i ≤ j ∧ j ≤ m ∧ (i = a ∨ ltc c ((P_ ++ (L_ ++ (R_ ++ Q_))).getD m []) ((P_ ++ (L_ ++ (R_ ++ Q_))).getD (i - 1) []) = false) ∧ (j = m ∨ ltc c ((P_ ++ (L_ ++ (R_ ++ Q_))).getD m []) ((P_ ++ (L_ ++ (R_ ++ Q_))).getD j []) = true) ∧ mm = j - i ∧ s = S 220 [(0, .ref 1000000000 (P_ ++ (L_ ++ (R_ ++ Q_))).length), (2, .d (iv m)), (4, .d (.fn cf cs)), (14, .d (iv i)), (15, .d (iv j))] [(1000000000, (⟨True, 75, 4, true, false, 1000000000, aV ((P_ ++ (L_ ++ (R_ ++ Q_))))⟩ : ARow))]) (m - a) _ (leK id [] (hr := by exact ⟨fun _ => ⟨_, rfl, Qu rfl (JU _)⟩, (by simp), trivial⟩) (hwr := by exact ⟨fun e he r' hr' => by rw [JU _ e he] at hr'; simp at hr', trivial⟩)) ⟨a, m, by omega, by omega, by omega, .inl rfl, .inl rfl, rfl, rfl⟩ ?_
   rintro mm s ⟨i, j, hi1, hij, hj1, hI1, hI2, rfl, rfl⟩
   refine JA fun K4 hK4 => ?_
   refine pq fun K5 hK5 => ?_
   simp only [zzK, QR, QP, QQ, JC, zz21, JM, zz22, zz6, QO, ↓Qb]
   refine kK hK5 [0, 2, 4, 14, 15, 85] ?_
   refine cnA ?_ ?_
   ·intro hb
    have hlt : i < j := by have := Qg hb; omega
    clear hb
    have hmid := midW (i := i) (j := j) (by omega)
    obtain ⟨l1, l2, l3, l4⟩ := ldF h hM (i := (i + j) / 2) (by omega)
    obtain ⟨k1, k2, k3, k4⟩ := ldF h hM (i := m) (by omega)
    have hmi : Ql .i64 ((((i + j) / 2 : Nat) : Int) + 1) = (((i + j) / 2 + 1 : Nat) : Int) := by rw [wrapI (by omega) (by omega)]; omega
    refine JI ?_
    simp only [zz6, QO, ↓Qb]
    refine kK hK4 [0, 2, 4, 14, 15] ?_
    refine JH ?_
    refine pq fun K4 hK4 => ?_
    simp only [zzK, QR, QP, QQ, JC, zz21, JM, zz26, zz27, F_cv3_97, F_cvV97, b_shr, pure_shr, Int.reduceLT, Qk, F_cv97_3, F_cvV3, JB, hmid, zz6, QO, ↓Qb]
    refine kK hK4 [0, 2, 4, 14, 15, 16] ?_
    refine JA fun K4 hK4 => ?_
    refine awp_draw F_mixed [some 92, some 93, some 94, some 95, some 96, some 97, some 98, some 99, some 100, some 101, some 102, some 103] rfl (by kernel_rfl) ?_
    simp only [zzK, QR, QP, QQ, JC, JW, zz23, zz24, F_sl41, F_sz75, QA, zzC, yyE, Qe, F_ok75, F_ag75, zz8, zzD, QS, QN, zzH, JE, JF, zz21, JM, zz22, zz29, zz30, aV_len, aV_get, List.length_map, Nat.le_refl, QV, ge0, QH, QN, asEc_map, asGs_map, l1, l2, l3, l4, k1, k2, k3, k4, zz6, QO, ↓Qb]
    refine call_goC ?_ ?_ h.go (fun hG => h.call ((P_ ++ (L_ ++ (R_ ++ Q_))).getD m []) ((P_ ++ (L_ ++ (R_ ++ Q_))).getD ((i + j) / 2) []) (hM _ (gd_mem (by omega))) (hM _ (gd_mem (by omega)))) (by simp [QY, QX]) (by simp) ?_
    ·decide
    ·simp only [JD, QQ, Qd, Qc, bare_d, bare_wh]
    simp only [zzK, QR, QP, QQ, JC, JW, zz23, zz24, F_sl41, F_sz75, QA, zzC, yyE, Qe, F_ok75, F_ag75, zz8, zzD, QS, QN, zzH, JE, JF, zz21, JM, zz22, zz29, zz30, aV_len, aV_get, List.length_map, Nat.le_refl, QV, ge0, QH, QN, asEc_map, asGs_map, l1, l2, l3, l4, k1, k2, k3, k4, zz6, QO, ↓Qb, QU, JZ, zz5, Qj, Qi, Qh, asEs_cons, asEs_nil, asE_ag, asE_d, asE_ref, asEc_cons, asEc_nil, asF_d, asF_ref, asF_ag, asGs, oksF, atsL, oksG, JV, QZ, Qa, JO, Qm, QT, QS, zz9, unDs_map, QB, QA, S_mem, yyF, QF, zz2]
    refine kK hK4 [0, 2, 4, 14, 15, 16, 103] ?_
    refine cnA ?_ ?_
    ·intro hb
     refine pz ?_
     simp only [zzK, QR, QP, QQ, JC, zz21, JM, zz26, JB, hmi, zz6, QO, ↓Qb]
     refine ⟨j - ((i + j) / 2 + 1), _, by omega, leK id [] (hr := by exact ⟨fun _ => ⟨_, rfl, Qu rfl (JU _)⟩, (by simp), trivial⟩) (hwr := by exact ⟨fun e he r' hr' => by rw [JU _ e he] at hr'; simp at hr', trivial⟩), (i + j) / 2 + 1, j, by omega, by omega, by omega, .inr (cmp_neg (by simpa using hb)), hI2, rfl, rfl⟩
    ·intro hb
     refine pz ?_
     simp only [zzK, QR, QP, QQ, JC, JB, zz6, QO, ↓Qb]
     refine ⟨(i + j) / 2 - i, _, by omega, leK id [] (hr := by exact ⟨fun _ => ⟨_, rfl, Qu rfl (JU _)⟩, (by simp), trivial⟩) (hwr := by exact ⟨fun e he r' hr' => by rw [JU _ e he] at hr'; simp at hr', trivial⟩), i, (i + j) / 2, by omega, by omega, by omega, hI1, .inr (cmp_pos (by simpa using hb)), rfl, rfl⟩
   ·intro hb
    obtain rfl : i = j := by have := Qf hb; omega
    clear hb
    obtain ⟨L1, L2, hL12, hi2, hmg⟩ := sym2 h.swo hSL (show (P_ ++ (L_ ++ (R_ ++ Q_))) = P_ ++ (L_ ++ ([y] ++ Q_)) by rw [hy]) ha hm hi1 hj1 hI1 hI2
    have hLl : L_.length = L1.length + L2.length := by rw [hL12]; exact QC
    have hm2 : m = i + L2.length := by omega
    refine JK ?_
    simp only [zz6, QO, ↓Qb]
    refine kK hK2 [0, 2, 14] ?_
    refine JA fun K2 hK2 => ?_
    refine pq fun K3 hK3 => ?_
    simp only [zzK, QR, QP, QQ, JC, JB, zz6, QO, ↓Qb]
    refine kK hK3 [0, 14, 17] ?_
    refine JH ?_
    refine JL (fun mm s => ∃ B1 B2 : List (List D), L2 = B1 ++ B2 ∧ mm = B1.length ∧ s = S 220 [(0, .ref 1000000000 (P_ ++ (L_ ++ (R_ ++ Q_))).length), (14, .d (iv i)), (17, .d (iv (i + (B1).length : Nat)))] [(1000000000, (⟨True, 75, 4, true, false, 1000000000, aV ((P_ ++ (L1 ++ (B1 ++ y :: (B2 ++ Q_)))))⟩ : ARow))]) L2.length _ (leK id [] (hl := by simp only [leV, JD, QQ, Qd, Qc, hm2]; exact ⟨Qn _, Qn _, Qn _, trivial⟩) (hr := by exact ⟨fun _ => ⟨_, rfl, Qu (by rw [hy, hL12]; simp) (JU _)⟩, (by simp), trivial⟩) (hwr := by exact ⟨fun e he r' hr' => by rw [JU _ e he] at hr'; simp at hr', trivial⟩)) ⟨L2, [], by simp, rfl, rfl⟩ ?_
    rintro mm s ⟨B1, B2, hB, rfl, rfl⟩
    have hBl : L2.length = B1.length + B2.length := by rw [hB]; exact QC
    have hl : (P_ ++ (L1 ++ (B1 ++ y :: (B2 ++ Q_)))).length = (P_ ++ (L_ ++ (R_ ++ Q_))).length := by simp only [QC, QF]; omega
    have ho : okM Pd (P_ ++ (L1 ++ (B1 ++ y :: (B2 ++ Q_)))) := by
     have hM2 := hM
     rw [hy, hL12, hB] at hM2
     simp only [okM_app, okM_cons] at hM2 ⊢
     exact ⟨hM2.1, hM2.2.1.1, hM2.2.1.2.1, hM2.2.2.1.1, hM2.2.1.2.2, hM2.2.2.2⟩
    refine JA fun K4 hK4 => ?_
    refine pq fun K5 hK5 => ?_
    simp only [zzK, QR, QP, QQ, JC, zz21, JM, zz25, zz6, QO, ↓Qb]
    refine kK hK5 [0, 14, 17, 110] ?_
    refine cnA ?_ ?_
    ·intro hb
     have hlt : i < i + B1.length := by have := Qg hb; omega
     clear hb
     obtain ⟨B3, z, rfl⟩ := snoc_of (A := B1) (by omega)
     have hB3 : (B3 ++ [z]).length = B3.length + 1 := by simp
     generalize hRR : P_ ++ (L1 ++ (B3 ++ [z] ++ y :: (B2 ++ Q_))) = RR at hl ho ⊢
     have hwk : Ql .i64 (((i + (B3 ++ [z]).length : Nat) : Int) - 1) = ((i + (B3 ++ [z]).length - 1 : Nat) : Int) := by rw [wrapI (by omega) (by omega)]; omega
     have hk1 : i + (B3 ++ [z]).length - 1 = i + B3.length := by omega
     obtain ⟨q1, q2, q3, q4, q5, q6, q7, q8, q9, q10, q11⟩ := swpF h ho (i := i + (B3 ++ [z]).length) (k := i + (B3 ++ [z]).length - 1) (by omega) (by omega)
     have qi := ltI (show i + (B3 ++ [z]).length < (P_ ++ (L_ ++ (R_ ++ Q_))).length by omega)
     have qk := ltI (show i + (B3 ++ [z]).length - 1 < (P_ ++ (L_ ++ (R_ ++ Q_))).length by omega)
     have qm := eq_true (show i + (B3 ++ [z]).length < (P_ ++ (L_ ++ (R_ ++ Q_))).length by omega)
     have qn := eq_true (show i + (B3 ++ [z]).length - 1 < (P_ ++ (L_ ++ (R_ ++ Q_))).length by omega)
     have hsw : swp RR (i + (B3 ++ [z]).length) (i + (B3 ++ [z]).length - 1) = P_ ++ (L1 ++ (B3 ++ y :: ((z :: B2) ++ Q_))) := by
      rw [← hRR, show P_ ++ (L1 ++ (B3 ++ [z] ++ y :: (B2 ++ Q_))) = (P_ ++ L1 ++ B3) ++ z :: ([] ++ y :: (B2 ++ Q_)) by simp, swp_mid2 (by simp; omega) (by simp; omega)]
      simp
     refine JI ?_
     simp only [zz6, QO, ↓Qb]
     refine kK hK4 [0, 14, 17] ?_
     refine JA fun K4 hK4 => ?_
     refine JH ?_
     refine awp_draw F_mixed [some 113, some 114, some 115, some 116, some 117, some 118, some 119, some 120, some 121, some 122, some 123, some 124, some 125, some 126, some 127, none, some 128, none] rfl (by kernel_rfl) ?_
     simp only [zzK, QR, QP, QQ, JC, zz21, JM, zz33, JW, zz23, zz24, F_sl41, F_sz75, QA, zzC, yyE, Qe, F_ok75, F_ag75, zz8, zzD, QS, QN, zzH, zz18, QG, zz1, zzG, aV_len, aV_get, aV_set, List.length_map, List.length_set, Nat.le_refl, QV, ge0, QH, QN, q1, q2, q3, q4, q5, q6, q7, q8, q9, q10, q11, qi, qk, qm, qn, hwk, hl, zz6, QO, ↓Qb]
     refine kK hK4 [0, 14, 17] ?_
     refine pz ?_
     simp only [zzK, QR, QP, QQ, JC, zz21, JM, zz33, JB, hwk, zz6, QO, ↓Qb]
     refine ⟨B3.length, _, by simp, leK id [] (hl := by simp only [leV, JD, QQ, Qd, Qc, hwk, hk1]; exact ⟨Qn _, Qn _, Qn _, trivial⟩) (hr := by exact ⟨fun _ => ⟨_, rfl, Qu (by rw [← hsw]; rfl) (JU _)⟩, (by simp), trivial⟩) (hwr := by exact ⟨fun e he r' hr' => by rw [JU _ e he] at hr'; simp at hr', trivial⟩), B3, z :: B2, by rw [hB]; simp, rfl, rfl⟩
    ·intro hb
     have hge : B1 = [] := List.eq_nil_of_length_eq_zero (by have := Qf hb; omega)
     clear hb
     subst hge
     have hfin : P_ ++ (L1 ++ ([] ++ y :: (B2 ++ Q_))) = P_ ++ (mergeS (ltc c) L_ R_ ++ Q_) := by rw [hy, hmg, hB]; simp
     refine JK ?_
     simp only [zz6, QO, ↓Qb]
     refine kK hK2 [] ?_
     refine awp_ret ?_
     simp only [zz6, QO, ↓Qb]
     have hfl : ∀ l, l ∈ P_ ++ (mergeS (ltc c) L_ R_ ++ Q_) → flatDs l := fun l hl2 => h.flat l (by rw [hfin] at ho; exact ho l hl2)
     refine doneM [] (by simp [resCs, resC, S, List.getD, JD, lookR, ]) ?_ (by simp [Ja, Jb, Jc, ]) (by simp [QY, QX, ]) (by decide) (by simp) ?_ ?_
     ·simp only [QD, QE, resA, JZ, S_mem, lookR_cons, lookR_nil, QR, QP, JD, QQ, Qd, Qc, JP, QI, QJ, QH, QL, QK, List.take_zero, ]; rfl
     ·exact trivial
     ·exact ⟨⟨_, rfl, trivial, rfl, rfl, by rw [hfin]; rfl⟩, hfl, trivial⟩
  ·intro hb
   clear hb
   obtain ⟨md, hmd⟩ : ∃ md, md = (a + b) / 2 := ⟨_, rfl⟩
   have hmid := midW (i := a) (j := b) (by omega)
   rw [← hmd] at hmid
   have hwn : Ql .i64 ((md : Int) + (m : Int)) = ((md + m : Nat) : Int) := by rw [wrapI (by omega) (by omega)]; omega
   refine JI ?_
   simp only [zz6, QO, ↓Qb]
   refine kK hK0 [0, 1, 2, 3, 4] ?_
   refine pq fun K0 hK0 => ?_
   simp only [zzK, QR, QP, QQ, JC, zz21, JM, zz26, zz27, F_cv3_97, F_cvV97, b_shr, pure_shr, Int.reduceLT, Qk, F_cv97_3, F_cvV3, JB, hmid, zz6, QO, ↓Qb]
   refine kK hK0 [0, 1, 2, 3, 4, 18] ?_
   refine pq fun K0 hK0 => ?_
   simp only [zzK, QR, QP, QQ, JC, zz21, JM, zz26, JB, hwn, zz6, QO, ↓Qb]
   refine kK hK0 [0, 1, 2, 3, 4, 18, 19] ?_
   refine pq fun K0 hK0 => ?_
   simp only [zzK, QR, QP, QQ, JB, zz6, QO, ↓Qb]
   refine kK hK0 [0, 1, 2, 3, 4, 18, 19] ?_
   refine JA fun K0 hK0 => ?_
   suffices hJ0 : ∀ s0 : AS, (∃ (s_ : AS) (lo hi : Nat), Le s0 s_ ∧ (lo ≤ hi ∧ a ≤ lo ∧ hi ≤ m ∧ hi ≤ md ∧ md + m - lo ≤ b ∧ (lo = a ∨ md + m - lo = b) ∧ (hi = m ∨ hi = md)) ∧ s_ = S 220 [(0, .ref 1000000000 (P_ ++ (L_ ++ (R_ ++ Q_))).length), (1, .d (iv a)), (2, .d (iv m)), (3, .d (iv b)), (4, .d (.fn cf cs)), (18, .d (iv md)), (19, .d (iv (md + m : Nat))), (20, .d (iv lo)), (21, .d (iv hi))] [(1000000000, (⟨True, 75, 4, true, false, 1000000000, aV ((P_ ++ (L_ ++ (R_ ++ Q_))))⟩ : ARow))]) → K0 s0 by
    refine pq fun K1 hK1 => ?_
    simp only [zzK, QR, QP, QQ, JC, zz21, JM, zz25, zz6, QO, ↓Qb]
    refine kK hK1 [0, 1, 2, 3, 4, 18, 19, 140] ?_
    refine cnA ?_ ?_
    ·intro hb
     have hgt : md < m := by have := Qg hb; omega
     clear hb
     have hw28 : Ql .i64 (((md + m : Nat) : Int) - (b : Int)) = ((md + m - b : Nat) : Int) := by rw [wrapI (by omega) (by omega)]; omega
     refine pq fun K2 hK2 => ?_
     simp only [zzK, QR, QP, QQ, JC, zz21, JM, zz33, JB, hw28, zz6, QO, ↓Qb]
     refine kK hK2 [0, 1, 2, 3, 4, 18, 19, 20] ?_
     refine pz ?_
     simp only [zzK, QR, QP, QQ, JC, JB, zz6, QO, ↓Qb]
     refine hJ0 _ ⟨_, md + m - b, md, leK id [] (l' := [(0, .ref 1000000000 (P_ ++ (L_ ++ (R_ ++ Q_))).length), (1, .d (iv a)), (2, .d (iv m)), (3, .d (iv b)), (4, .d (.fn cf cs)), (18, .d (iv md)), (19, .d (iv (md + m : Nat))), (20, .d (iv (md + m - b : Nat))), (21, .d (iv md))]) (m' := [(1000000000, (⟨True, 75, 4, true, false, 1000000000, aV ((P_ ++ (L_ ++ (R_ ++ Q_))))⟩ : ARow))]) (hr := by exact ⟨fun _ => ⟨_, rfl, Qu rfl (JU _)⟩, (by simp), trivial⟩) (hwr := by exact ⟨fun e he r' hr' => by rw [JU _ e he] at hr'; simp at hr', trivial⟩), by omega, rfl⟩
    ·intro hb
     have hgt : m ≤ md := by have := Qf hb; omega
     clear hb
     refine pq fun K2 hK2 => ?_
     simp only [zzK, QR, QP, QQ, JC, JB, zz6, QO, ↓Qb]
     refine kK hK2 [0, 1, 2, 3, 4, 18, 19, 20] ?_
     refine pz ?_
     simp only [zzK, QR, QP, QQ, JC, JB, zz6, QO, ↓Qb]
     refine hJ0 _ ⟨_, a, m, leK id [] (l' := [(0, .ref 1000000000 (P_ ++ (L_ ++ (R_ ++ Q_))).length), (1, .d (iv a)), (2, .d (iv m)), (3, .d (iv b)), (4, .d (.fn cf cs)), (18, .d (iv md)), (19, .d (iv (md + m : Nat))), (20, .d (iv a)), (21, .d (iv m))]) (m' := [(1000000000, (⟨True, 75, 4, true, false, 1000000000, aV ((P_ ++ (L_ ++ (R_ ++ Q_))))⟩ : ARow))]) (hr := by exact ⟨fun _ => ⟨_, rfl, Qu rfl (JU _)⟩, (by simp), trivial⟩) (hwr := by exact ⟨fun e he r' hr' => by rw [JU _ e he] at hr'; simp at hr', trivial⟩), by omega, rfl⟩
   rintro s0 ⟨s_, lo, hi, hle, ⟨hlo1, hlo2, hhi1, hhi2, hlo3, hlo4, hhi3⟩, rfl⟩
   have hw22 : Ql .i64 (((md + m : Nat) : Int) - 1) = ((md + m - 1 : Nat) : Int) := by rw [wrapI (by omega) (by omega)]; omega
   refine hK0 _ (awp_le hle ?_); try clear hK0 K0 hle
   refine pq fun K0 hK0 => ?_
   simp only [zzK, QR, QP, QQ, JC, zz21, JM, zz33, JB, hw22, zz6, QO, ↓Qb]
   refine kK hK0 [0, 1, 2, 3, 4, 18, 19, 20, 21, 22] ?_
   refine JA fun K0 hK0 => ?_
   refine JH ?_
   refine JL (fun mm st => ∃ s r : Nat, lo ≤ s ∧ s ≤ r ∧ r ≤ hi ∧ (s = lo ∨ ltc c ((P_ ++ (L_ ++ (R_ ++ Q_))).getD (md + m - 1 - (s - 1)) []) ((P_ ++ (L_ ++ (R_ ++ Q_))).getD (s - 1) []) = false) ∧ (r = hi ∨ ltc c ((P_ ++ (L_ ++ (R_ ++ Q_))).getD (md + m - 1 - r) []) ((P_ ++ (L_ ++ (R_ ++ Q_))).getD (r) []) = true) ∧ mm = r - s ∧ st = S 220 [(0, .ref 1000000000 (P_ ++ (L_ ++ (R_ ++ Q_))).length), (1, .d (iv a)), (2, .d (iv m)), (3, .d (iv b)), (4, .d (.fn cf cs)), (18, .d (iv md)), (19, .d (iv (md + m : Nat))), (20, .d (iv s)), (21, .d (iv r)), (22, .d (iv (md + m - 1 : Nat)))] [(1000000000, (⟨True, 75, 4, true, false, 1000000000, aV ((P_ ++ (L_ ++ (R_ ++ Q_))))⟩ : ARow))]) (hi - lo) _ (leK id [] (hr := by exact ⟨fun _ => ⟨_, rfl, Qu rfl (JU _)⟩, (by simp), trivial⟩) (hwr := by exact ⟨fun e he r' hr' => by rw [JU _ e he] at hr'; simp at hr', trivial⟩)) ⟨lo, hi, by omega, by omega, by omega, .inl rfl, .inl rfl, rfl, rfl⟩ ?_
   rintro mm st ⟨s, r, hs1, hsr, hr1, hI1, hI2, rfl, rfl⟩
   refine JA fun K2 hK2 => ?_
   refine pq fun K3 hK3 => ?_
   simp only [zzK, QR, QP, QQ, JC, zz21, JM, zz22, zz6, QO, ↓Qb]
   refine kK hK3 [0, 1, 2, 3, 4, 18, 19, 20, 21, 22, 151] ?_
   refine cnA ?_ ?_
   ·intro hb
    have hlt : s < r := by have := Qg hb; omega
    clear hb
    have hmid := midW (i := s) (j := r) (by omega)
    obtain ⟨l1, l2, l3, l4⟩ := ldF h hM (i := md + m - 1 - (s + r) / 2) (by omega)
    obtain ⟨k1, k2, k3, k4⟩ := ldF h hM (i := (s + r) / 2) (by omega)
    have hmi : Ql .i64 ((((s + r) / 2 : Nat) : Int) + 1) = (((s + r) / 2 + 1 : Nat) : Int) := by rw [wrapI (by omega) (by omega)]; omega
    have hwp : Ql .i64 (((md + m - 1 : Nat) : Int) - (((s + r) / 2 : Nat) : Int)) = ((md + m - 1 - (s + r) / 2 : Nat) : Int) := by rw [wrapI (by omega) (by omega)]; omega
    refine JI ?_
    simp only [zz6, QO, ↓Qb]
    refine kK hK2 [0, 1, 2, 3, 4, 18, 19, 20, 21, 22] ?_
    refine JH ?_
    refine pq fun K2 hK2 => ?_
    simp only [zzK, QR, QP, QQ, JC, zz21, JM, zz26, zz27, F_cv3_97, F_cvV97, b_shr, pure_shr, Int.reduceLT, Qk, F_cv97_3, F_cvV3, JB, hmid, zz6, QO, ↓Qb]
    refine kK hK2 [0, 1, 2, 3, 4, 18, 19, 20, 21, 22, 23] ?_
    refine JA fun K2 hK2 => ?_
    refine awp_draw F_mixed [some 158, some 159, some 160, some 161, some 162, some 163, some 164, some 165, some 166, some 167, some 168, some 169, some 170, some 171] rfl (by kernel_rfl) ?_
    simp only [zzK, QR, QP, QQ, JC, zz21, JM, zz33, JW, zz23, zz24, F_sl41, F_sz75, QA, zzC, yyE, Qe, F_ok75, F_ag75, zz8, zzD, QS, QN, zzH, JE, JF, zz22, zz29, zz30, aV_len, aV_get, List.length_map, Nat.le_refl, QV, ge0, QH, QN, asEc_map, asGs_map, hwp, l1, l2, l3, l4, k1, k2, k3, k4, zz6, QO, ↓Qb]
    refine call_goC ?_ ?_ h.go (fun hG => h.call ((P_ ++ (L_ ++ (R_ ++ Q_))).getD (md + m - 1 - (s + r) / 2) []) ((P_ ++ (L_ ++ (R_ ++ Q_))).getD ((s + r) / 2) []) (hM _ (gd_mem (by omega))) (hM _ (gd_mem (by omega)))) (by simp [QY, QX]) (by simp) ?_
    ·decide
    ·simp only [JD, QQ, Qd, Qc, bare_d, bare_wh]
    simp only [zzK, QR, QP, QQ, JC, zz21, JM, zz33, JW, zz23, zz24, F_sl41, F_sz75, QA, zzC, yyE, Qe, F_ok75, F_ag75, zz8, zzD, QS, QN, zzH, JE, JF, zz22, zz29, zz30, aV_len, aV_get, List.length_map, Nat.le_refl, QV, ge0, QH, QN, asEc_map, asGs_map, hwp, l1, l2, l3, l4, k1, k2, k3, k4, zz6, QO, ↓Qb, QU, JZ, zz5, Qj, Qi, Qh, asEs_cons, asEs_nil, asE_ag, asE_d, asE_ref, asEc_cons, asEc_nil, asF_d, asF_ref, asF_ag, asGs, oksF, atsL, oksG, JV, QZ, Qa, JO, Qm, QT, QS, zz9, unDs_map, QB, QA, S_mem, yyF, QF, zz2]
    refine kK hK2 [0, 1, 2, 3, 4, 18, 19, 20, 21, 22, 23, 171] ?_
    refine cnA ?_ ?_
    ·intro hb
     refine pz ?_
     simp only [zzK, QR, QP, QQ, JC, zz21, JM, zz26, JB, hmi, zz6, QO, ↓Qb]
     refine ⟨r - ((s + r) / 2 + 1), _, by omega, leK id [] (hr := by exact ⟨fun _ => ⟨_, rfl, Qu rfl (JU _)⟩, (by simp), trivial⟩) (hwr := by exact ⟨fun e he r' hr' => by rw [JU _ e he] at hr'; simp at hr', trivial⟩), (s + r) / 2 + 1, r, by omega, by omega, by omega, .inr (cmp_neg (by simpa using hb)), hI2, rfl, rfl⟩
    ·intro hb
     refine pz ?_
     simp only [zzK, QR, QP, QQ, JC, JB, zz6, QO, ↓Qb]
     refine ⟨(s + r) / 2 - s, _, by omega, leK id [] (hr := by exact ⟨fun _ => ⟨_, rfl, Qu rfl (JU _)⟩, (by simp), trivial⟩) (hwr := by exact ⟨fun e he r' hr' => by rw [JU _ e he] at hr'; simp at hr', trivial⟩), s, (s + r) / 2, by omega, by omega, by omega, hI1, .inr (cmp_pos (by simpa using hb)), rfl, rfl⟩
   ·intro hb
    obtain rfl : s = r := by have := Qf hb; omega
    clear hb
    obtain ⟨L1, L2, R1, R2, hL12, hR12, hs2, hmd2, hmg⟩ := sym3 (M := (P_ ++ (L_ ++ (R_ ++ Q_)))) (Q := Q_) (mid := md) (s := s) h.swo hSL hSR rfl ha hm hbb (by omega) (by omega) (by omega) (by omega) (by
     rcases hI1 with hI1 | hI1
     ·omega
     ·rcases Nat.eq_zero_or_pos s with h0 | h0
      ·omega
      ·rw [show md + m - 1 - (s - 1) = md + m - s by omega] at hI1; exact .inr (.inr hI1)) (by
     rcases hI2 with hI2 | hI2
     ·omega
     ·exact .inr (.inr hI2))
    have hw24 : Ql .i64 (((md + m : Nat) : Int) - (s : Int)) = ((md + m - s : Nat) : Int) := by rw [wrapI (by omega) (by omega)]; omega
    have hLl : L_.length = L1.length + L2.length := by rw [hL12]; exact QC
    have hRl : R_.length = R1.length + R2.length := by rw [hR12]; exact QC
    have hSL2 : Srt (ltc c) (L1 ++ L2) := hL12 ▸ hSL
    have hSR2 : Srt (ltc c) (R1 ++ R2) := hR12 ▸ hSR
    have hMr : (P_ ++ (L_ ++ (R_ ++ Q_))) = (P_ ++ L1) ++ (L2 ++ (R1 ++ (R2 ++ Q_))) := by rw [hL12, hR12]; simp
    have hoX : okM Pd (P_ ++ (L1 ++ (R1 ++ (L2 ++ (R2 ++ Q_))))) := by
     have hM2 := hM
     rw [hMr] at hM2
     simp only [okM_app] at hM2 ⊢
     exact ⟨hM2.1.1, hM2.1.2, hM2.2.2.1, hM2.2.1, hM2.2.2.2⟩
    have hoY : okM Pd (P_ ++ (mergeS (ltc c) L1 R1 ++ (L2 ++ (R2 ++ Q_)))) := okM_merge hoX
    have hoZ : okM Pd (P_ ++ (mergeS (ltc c) L1 R1 ++ (mergeS (ltc c) L2 R2 ++ Q_))) := by
     have e := okM_merge (lt := ltc c) (P := P_ ++ mergeS (ltc c) L1 R1) (L := L2) (R := R2) (Q := Q_) (by simpa only [List.append_assoc] using hoY)
     simpa only [List.append_assoc] using e
    have hlX : (P_ ++ (L1 ++ (R1 ++ (L2 ++ (R2 ++ Q_))))).length = (P_ ++ (L_ ++ (R_ ++ Q_))).length := by simp only [QC]; omega
    have hlY : (P_ ++ (mergeS (ltc c) L1 R1 ++ (L2 ++ (R2 ++ Q_)))).length = (P_ ++ (L_ ++ (R_ ++ Q_))).length := by simp only [QC, mergeS_len]; omega
    have hZ : (P_ ++ (mergeS (ltc c) L1 R1 ++ (mergeS (ltc c) L2 R2 ++ Q_))) = P_ ++ (mergeS (ltc c) L_ R_ ++ Q_) := by rw [hmg]; simp
    refine JK ?_
    simp only [zz6, QO, ↓Qb]
    refine kK hK0 [0, 1, 2, 3, 4, 18, 19, 20] ?_
    refine pq fun K0 hK0 => ?_
    simp only [zzK, QR, QP, QQ, JC, zz21, JM, zz33, JB, hw24, zz6, QO, ↓Qb]
    refine kK hK0 [0, 1, 2, 3, 4, 18, 20, 24] ?_
    refine JA fun K0 hK0 => ?_
    suffices hJ0 : ∀ s0 : AS, (∃ (s_ : AS) , Le s0 s_ ∧ s_ = S 220 [(0, .ref 1000000000 (P_ ++ (L_ ++ (R_ ++ Q_))).length), (1, .d (iv a)), (3, .d (iv b)), (4, .d (.fn cf cs)), (18, .d (iv md)), (20, .d (iv s)), (24, .d (iv (md + m - s : Nat)))] [(1000000000, (⟨True, 75, 4, true, false, 1000000000, aV ((P_ ++ (L1 ++ (R1 ++ (L2 ++ (R2 ++ Q_))))))⟩ : ARow))]) → K0 s0 by
     refine JA fun K1 hK1 => ?_
     refine awp_plain F_mixed [some 178, some 179, some 180, some 181, some 182, some 183, some 184, some 185] rfl ?_
     simp only [zzK, QR, QP, QQ, QU, JZ, zz5, Qj, Qi, Qh, and_self, JC, zz21, JM, zz22, zz13, JQ, JR, zz6, QO, ↓Qb]
     refine kK hK1 [0, 1, 2, 3, 4, 18, 20, 24, 185] ?_
     refine cnA ?_ ?_
     ·intro hb
      have hab : (s < m) ∧ (m < md + m - s) := by
       cases hd : decide (((s : Nat) : Int) < ((m : Nat) : Int)) with
       | true => rw [hd] at hb; have h1 := Qg hd; have h2 := Qg hb; omega
       | false => rw [hd] at hb; cases hb
      clear hb
      have hrot := sLeg_rot h (P_ ++ L1) L2 R1 (R2 ++ Q_) (by rw [← hMr]; exact hM) (by rw [← hMr]; exact hN) (List.length_pos_iff.1 (by omega)) (List.length_pos_iff.1 (by omega)) s m (md + m - s) (by simp only [QC]; omega) (by simp only [QC]; omega) (by simp only [QC]; omega)
      rw [← hMr, show (P_ ++ L1) ++ (R1 ++ (L2 ++ (R2 ++ Q_))) = (P_ ++ (L1 ++ (R1 ++ (L2 ++ (R2 ++ Q_))))) by simp] at hrot
      refine awp_mut [some 186, some 187, some 188, some 189, some 190, some 191] rfl 5 rfl ?_
      simp only [zzK, QR, QP, QQ, JC, JE, JF, aV, zzB, zz6, QO, ↓Qb]
      refine mut_go [1000000000] F_go125 (hrot) (by simp [QY, QX]) (by decide) (by first | exact ⟨by decide, by simp⟩ | rfl) ?_
      simp only [zzK, QR, QP, QQ, JC, JE, JF, aV, zzB, zz6, QO, ↓Qb, mArgs_nil, asE_cl, asF_cl, asD_ptr, asG_ptr, asD_ep, asG_ep, List.mem_singleton, forall_eq, asEc_cons, asEc_nil, mArgs_d, mArgs_m, mRows_nil, mRows_cons, mNewL, nxM, mBase, mName, oksL, List.getElem?_cons_zero, List.getElem?_cons_succ, zzF, asE_ag, asE_d, asE_ref, asEc_cons, asEc_nil, asF_d, asF_ref, asF_ag, asGs, QY, QX, QM, List.not_mem_nil, false_implies, forall_const, atsL, asD_self, asD_nil, asD_sl, asD_agg, asD_int, asD_bool, asD_func, asD_ag, asD_ref, asG_d, asG_ag, asG_ref, JV, QZ, Qa, JO, Qm, QT, QS, zz9, QB, QA, zzC, yyF, zzD, S_func, Sk_func]
      refine ⟨fun l hl2 => h.flat l (hoX l hl2), ?_⟩
      refine hJ0 _ ⟨_, leK id [] (l' := [(0, .ref 1000000000 (P_ ++ (L_ ++ (R_ ++ Q_))).length), (1, .d (iv a)), (3, .d (iv b)), (4, .d (.fn cf cs)), (18, .d (iv md)), (20, .d (iv s)), (24, .d (iv (md + m - s : Nat)))]) (m' := [(1000000000, (⟨True, 75, 4, true, false, 1000000000, aV ((P_ ++ (L1 ++ (R1 ++ (L2 ++ (R2 ++ Q_))))))⟩ : ARow))]) (hr := by exact ⟨fun _ => ⟨_, rfl, Qu rfl (JU _)⟩, (by simp), trivial⟩) (hwr := by exact ⟨fun e he r' hr' => by rw [ids_data e he] at hr'; simp at hr', trivial⟩), rfl⟩
     ·intro hb
      have hab : ¬ (s < m) ∨ ¬ (m < md + m - s) := by
       cases hd : decide (((s : Nat) : Int) < ((m : Nat) : Int)) with
       | true => rw [hd] at hb; have h2 := Qf hb; omega
       | false => have h1 := Qf hd; omega
      clear hb
      have hrow : (P_ ++ (L1 ++ (R1 ++ (L2 ++ (R2 ++ Q_))))) = (P_ ++ (L_ ++ (R_ ++ Q_))) := by
       have h0 : L2 = [] ∨ R1 = [] := by
        rcases hab with hab | hab
        ·exact .inl (List.eq_nil_of_length_eq_zero (by omega))
        ·exact .inr (List.eq_nil_of_length_eq_zero (by omega))
       rw [hMr]
       rcases h0 with h0 | h0 <;> rw [h0] <;> simp
      refine JI ?_
      simp only [zz6, QO, ↓Qb]
      refine hJ0 _ ⟨_, leK id [] (l' := [(0, .ref 1000000000 (P_ ++ (L_ ++ (R_ ++ Q_))).length), (1, .d (iv a)), (3, .d (iv b)), (4, .d (.fn cf cs)), (18, .d (iv md)), (20, .d (iv s)), (24, .d (iv (md + m - s : Nat)))]) (m' := [(1000000000, (⟨True, 75, 4, true, false, 1000000000, aV ((P_ ++ (L1 ++ (R1 ++ (L2 ++ (R2 ++ Q_))))))⟩ : ARow))]) (hr := by exact ⟨fun _ => ⟨_, rfl, Qu (by rw [hrow]) (JU _)⟩, (by simp), trivial⟩) (hwr := by exact ⟨fun e he r' hr' => by rw [JU _ e he] at hr'; simp at hr', trivial⟩), rfl⟩
    rintro s0 ⟨s_, hle, rfl⟩
    refine hK0 _ (awp_le hle ?_); try clear hK0 K0 hle
    refine JA fun K0 hK0 => ?_
    suffices hJ0 : ∀ s0 : AS, (∃ (s_ : AS) , Le s0 s_ ∧ s_ = S 220 [(0, .ref 1000000000 (P_ ++ (L_ ++ (R_ ++ Q_))).length), (3, .d (iv b)), (4, .d (.fn cf cs)), (18, .d (iv md)), (24, .d (iv (md + m - s : Nat)))] [(1000000000, (⟨True, 75, 4, true, false, 1000000000, aV ((P_ ++ (mergeS (ltc c) L1 R1 ++ (L2 ++ (R2 ++ Q_)))))⟩ : ARow))]) → K0 s0 by
     refine JA fun K1 hK1 => ?_
     refine awp_plain F_mixed [some 192, some 193, some 194, some 195, some 196, some 197, some 198, some 199] rfl ?_
     simp only [zzK, QR, QP, QQ, QU, JZ, zz5, Qj, Qi, Qh, and_self, JC, zz21, JM, zz22, zz13, JQ, JR, zz6, QO, ↓Qb]
     refine kK hK1 [0, 1, 3, 4, 18, 20, 24, 199] ?_
     refine cnA ?_ ?_
     ·intro hb
      have hab : (a < s) ∧ (s < md) := by
       cases hd : decide (((a : Nat) : Int) < ((s : Nat) : Int)) with
       | true => rw [hd] at hb; have h1 := Qg hd; have h2 := Qg hb; omega
       | false => rw [hd] at hb; cases hb
      clear hb
      have hsy := ih P_ L1 R1 (L2 ++ (R2 ++ Q_)) hoX (by omega) (List.length_pos_iff.1 (by omega)) (List.length_pos_iff.1 (by omega)) hSL2.app.1 hSR2.app.1 a s md ha (by omega) (by omega) (by omega)
      refine awp_mut [some 200, some 201, some 202, some 203, some 204, some 205] rfl 5 rfl ?_
      simp only [zzK, QR, QP, QQ, JC, JE, JF, aV, hlX, zzB, zz6, QO, ↓Qb]
      refine mut_go [1000000000] F_go120 (hsy) (by simp [QY, QX]) (by decide) (by first | exact ⟨by decide, by simp⟩ | rfl) ?_
      simp only [zzK, QR, QP, QQ, JC, JE, JF, aV, hlX, zzB, zz6, QO, ↓Qb, mArgs_nil, asE_cl, asF_cl, asD_ptr, asG_ptr, asD_ep, asG_ep, List.mem_singleton, forall_eq, asEc_cons, asEc_nil, mArgs_d, mArgs_m, mRows_nil, mRows_cons, mNewL, nxM, mBase, mName, oksL, List.getElem?_cons_zero, List.getElem?_cons_succ, zzF, asE_ag, asE_d, asE_ref, asEc_cons, asEc_nil, asF_d, asF_ref, asF_ag, asGs, QY, QX, QM, List.not_mem_nil, false_implies, forall_const, atsL, asD_self, asD_nil, asD_sl, asD_agg, asD_int, asD_bool, asD_func, asD_ag, asD_ref, asG_d, asG_ag, asG_ref, JV, QZ, Qa, JO, Qm, QT, QS, zz9, QB, QA, zzC, yyF, zzD, S_func, Sk_func]
      refine ⟨fun l hl2 => h.flat l (hoY l hl2), ?_⟩
      refine hJ0 _ ⟨_, leK id [] (l' := [(0, .ref 1000000000 (P_ ++ (L_ ++ (R_ ++ Q_))).length), (3, .d (iv b)), (4, .d (.fn cf cs)), (18, .d (iv md)), (24, .d (iv (md + m - s : Nat)))]) (m' := [(1000000000, (⟨True, 75, 4, true, false, 1000000000, aV ((P_ ++ (mergeS (ltc c) L1 R1 ++ (L2 ++ (R2 ++ Q_)))))⟩ : ARow))]) (hr := by exact ⟨fun _ => ⟨_, rfl, Qu rfl (JU _)⟩, (by simp), trivial⟩) (hwr := by exact ⟨fun e he r' hr' => by rw [ids_data e he] at hr'; simp at hr', trivial⟩), rfl⟩
     ·intro hb
      have hab : ¬ (a < s) ∨ ¬ (s < md) := by
       cases hd : decide (((a : Nat) : Int) < ((s : Nat) : Int)) with
       | true => rw [hd] at hb; have h2 := Qf hb; omega
       | false => have h1 := Qf hd; omega
      clear hb
      have hrow : (P_ ++ (mergeS (ltc c) L1 R1 ++ (L2 ++ (R2 ++ Q_)))) = (P_ ++ (L1 ++ (R1 ++ (L2 ++ (R2 ++ Q_))))) := by
       rcases hab with hab | hab
       ·rw [show L1 = [] from List.eq_nil_of_length_eq_zero (by omega), mergeS_nilL]; simp
       ·rw [show R1 = [] from List.eq_nil_of_length_eq_zero (by omega), mergeS_nilR]; simp
      refine JI ?_
      simp only [zz6, QO, ↓Qb]
      refine hJ0 _ ⟨_, leK id [] (l' := [(0, .ref 1000000000 (P_ ++ (L_ ++ (R_ ++ Q_))).length), (3, .d (iv b)), (4, .d (.fn cf cs)), (18, .d (iv md)), (24, .d (iv (md + m - s : Nat)))]) (m' := [(1000000000, (⟨True, 75, 4, true, false, 1000000000, aV ((P_ ++ (mergeS (ltc c) L1 R1 ++ (L2 ++ (R2 ++ Q_)))))⟩ : ARow))]) (hr := by exact ⟨fun _ => ⟨_, rfl, Qu (by rw [hrow]) (JU _)⟩, (by simp), trivial⟩) (hwr := by exact ⟨fun e he r' hr' => by rw [JU _ e he] at hr'; simp at hr', trivial⟩), rfl⟩
    rintro s0 ⟨s_, hle, rfl⟩
    refine hK0 _ (awp_le hle ?_); try clear hK0 K0 hle
    refine JA fun K0 hK0 => ?_
    refine awp_plain F_mixed [some 206, some 207, some 208, some 209, some 210, some 211, some 212, some 213] rfl ?_
    simp only [zzK, QR, QP, QQ, QU, JZ, zz5, Qj, Qi, Qh, and_self, JC, zz21, JM, zz22, zz13, JQ, JR, zz6, QO, ↓Qb]
    refine kK hK0 [0, 3, 4, 18, 24, 213] ?_
    refine cnA ?_ ?_
    ·intro hb
     have hab : (md < md + m - s) ∧ (md + m - s < b) := by
      cases hd : decide (((md : Nat) : Int) < ((md + m - s : Nat) : Int)) with
      | true => rw [hd] at hb; have h1 := Qg hd; have h2 := Qg hb; omega
      | false => rw [hd] at hb; cases hb
     clear hb
     have hsz := ih (P_ ++ mergeS (ltc c) L1 R1) L2 R2 Q_ (by simpa only [List.append_assoc] using hoY) (by simp only [List.append_assoc]; omega) (List.length_pos_iff.1 (by omega)) (List.length_pos_iff.1 (by omega)) hSL2.app.2 hSR2.app.2 md (md + m - s) b (by simp only [QC, mergeS_len]; omega) (by simp only [QC, mergeS_len]; omega) (by simp only [QC, mergeS_len]; omega) (by omega)
     simp only [List.append_assoc] at hsz
     refine awp_mut [some 214, some 215, some 216, some 217, some 218, some 219] rfl 5 rfl ?_
     simp only [zzK, QR, QP, QQ, JC, JE, JF, aV, hlY, zzB, zz6, QO, ↓Qb]
     refine mut_go [1000000000] F_go120 (hsz) (by simp [QY, QX]) (by decide) (by first | exact ⟨by decide, by simp⟩ | rfl) ?_
     simp only [zzK, QR, QP, QQ, JC, JE, JF, aV, hlY, zzB, zz6, QO, ↓Qb, mArgs_nil, asE_cl, asF_cl, asD_ptr, asG_ptr, asD_ep, asG_ep, List.mem_singleton, forall_eq, asEc_cons, asEc_nil, mArgs_d, mArgs_m, mRows_nil, mRows_cons, mNewL, nxM, mBase, mName, oksL, List.getElem?_cons_zero, List.getElem?_cons_succ, zzF, asE_ag, asE_d, asE_ref, asEc_cons, asEc_nil, asF_d, asF_ref, asF_ag, asGs, QY, QX, QM, List.not_mem_nil, false_implies, forall_const, atsL, asD_self, asD_nil, asD_sl, asD_agg, asD_int, asD_bool, asD_func, asD_ag, asD_ref, asG_d, asG_ag, asG_ref, JV, QZ, Qa, JO, Qm, QT, QS, zz9, QB, QA, zzC, yyF, zzD, S_func, Sk_func]
     refine ⟨fun l hl2 => h.flat l (hoZ l hl2), ?_⟩
     rw [hZ] at hoZ
     have hfl : ∀ l, l ∈ P_ ++ (mergeS (ltc c) L_ R_ ++ Q_) → flatDs l := fun l hl2 => h.flat l (hoZ l hl2)
     refine doneM [] (by simp [resCs, resC, S, List.getD, JD, lookR, ]) ?_ (by simp [Ja, Jb, Jc, ]) (by simp [QY, QX, ]) (by decide) (by simp) ?_ ?_
     ·simp only [QD, QE, resA, JZ, S_mem, lookR_cons, lookR_nil, QR, QP, JD, QQ, Qd, Qc, JP, QI, QJ, QH, QL, QK, List.take_zero, ]; rfl
     ·exact trivial
     ·exact ⟨⟨_, rfl, trivial, rfl, rfl, by rw [hZ]⟩, hfl, trivial⟩
    ·intro hb
     have hab : ¬ (md < md + m - s) ∨ ¬ (md + m - s < b) := by
      cases hd : decide (((md : Nat) : Int) < ((md + m - s : Nat) : Int)) with
      | true => rw [hd] at hb; have h2 := Qf hb; omega
      | false => have h1 := Qf hd; omega
     clear hb
     have hrow : (P_ ++ (mergeS (ltc c) L1 R1 ++ (mergeS (ltc c) L2 R2 ++ Q_))) = (P_ ++ (mergeS (ltc c) L1 R1 ++ (L2 ++ (R2 ++ Q_)))) := by
      rcases hab with hab | hab
      ·rw [show L2 = [] from List.eq_nil_of_length_eq_zero (by omega), mergeS_nilL]; simp
      ·rw [show R2 = [] from List.eq_nil_of_length_eq_zero (by omega), mergeS_nilR]; simp
     refine JI ?_
     simp only [zz6, QO, ↓Qb]
     rw [hZ] at hoZ
     have hfl : ∀ l, l ∈ P_ ++ (mergeS (ltc c) L_ R_ ++ Q_) → flatDs l := fun l hl2 => h.flat l (hoZ l hl2)
     refine doneM [] (by simp [resCs, resC, S, List.getD, JD, lookR, ]) ?_ (by simp [Ja, Jb, Jc, ]) (by simp [QY, QX, ]) (by decide) (by simp) ?_ ?_
     ·simp only [QD, QE, resA, JZ, S_mem, lookR_cons, lookR_nil, QR, QP, JD, QQ, Qd, Qc, JP, QI, QJ, QH, QL, QK, List.take_zero, ]; rfl
     ·exact trivial
     ·exact ⟨⟨_, rfl, trivial, rfl, rfl, by rw [← hZ, hrow]; rfl⟩, hfl, trivial⟩
theorem sLeg_sym {cf : FuncId} {cs : List D} {c : List D → List D → Int} {Pd : List D → Prop} (h : SC Tryz.prog cf cs c Pd 4)  : ∀ (k : Nat) (P L R Q : List (List D)), okM Pd (P ++ (L ++ (R ++ Q))) → (P ++ (L ++ (R ++ Q))).length ≤ 1000000 → L ≠ [] → R ≠ [] → Srt (ltc c) L → Srt (ltc c) R → ∀ a m b : Nat, a = P.length → m = P.length + L.length → b = P.length + L.length + R.length → L.length + R.length < k → MCalls Tryz.prog 120 [.m 0, .d (iv a), .d (iv m), .d (iv b), .d (.fn cf cs)] [⟨75, 4, P ++ (L ++ (R ++ Q))⟩] [⟨75, 4, P ++ (mergeS (ltc c) L R ++ Q)⟩] [] (.tp [])
 | 0, P, L, R, Q, _, _, _, _, _, _, a, m, b, _, _, _, hk => by omega
 | k + 1, P, L, R, Q, hM, hN, hL, hR, hSL, hSR, a, m, b, ha, hm, hb, hk => sLeg_symS h (L.length + R.length) (fun P2 L2 R2 Q2 h1 h2 h3 h4 h5 h6 a2 m2 b2 k1 k2 k3 k4 => sLeg_sym h k P2 L2 R2 Q2 h1 h2 h3 h4 h5 h6 a2 m2 b2 k1 k2 k3 (by omega)) P L R Q hM hN hL hR hSL hSR a m b ha hm hb rfl

end Go.Proofs.YtjkfadaedgidpaaGreat
