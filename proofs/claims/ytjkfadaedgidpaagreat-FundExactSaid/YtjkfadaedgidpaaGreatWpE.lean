import Derived.Test.YtjkfadaedgidpaaGreatWpB
namespace Go.Proofs.YtjkfadaedgidpaaGreat
open Go.RowKit
set_option linter.unusedVariables false
set_option linter.unusedSimpArgs false
open Option renaming map_some → QA, bind_some → QB
open List renaming length_append → QC, map_cons → QD, map_nil → QE, length_cons → QF, append_nil → QG, drop_zero → QH, getD_cons_zero → QI, getD_cons_succ → QJ, take_succ_cons → QK, drop_succ_cons → QL, length_singleton → QM
open Nat renaming zero_add → QN, reduceEqDiff → QO, reduceLeDiff → QP, reduceBEq → QQ, reduceLT → QR, reduceAdd → QS, reduceMul → QT, reduceSub → QU
open Int renaming toNat_natCast → QV
open D.agg renaming injEq → QW
open AV renaming idsL → QX, ids → QY, ren → QZ, renL → Qa
open _root_ renaming reduceIte → Qb, cond_false → Qc, cond_true → Qd, reduceCtorEq → Qe, of_decide_eq_false → Qf, of_decide_eq_true → Qg
open IntKind renaming wrap → Ql
open ORow renaming row → Qm
open VLe renaming refE → Qr, dE → Qt
open RowLe renaming same → Qu, data_ → Qw
open Go.Proofs.YtjkfadaedgidpaaGreat renaming awp_seq → JA, evS_assign → JB, evS_move → JC, look_cons → JD, evS_call → JE, evC_value → JF, awp_block → JH, awp_skip → JI, awp_ret → JJ, awp_exit → JK, awp_loop → JL, gr_v → JM, len_map → JN, addRows → JO, resAll → JP, newRow1 → JS, aV_ids → JU, freeN → JV, evS_indexAddr → JW, S_getD → JZ, flatA → Ja, flatAs → Jb, flatD → Jc
theorem F_sl140 : sliceT Tryz.prog 140 = some 145 := by kernel_rfl
theorem F_sz145 : szT Tryz.prog 145 = 3 := by kernel_rfl
theorem F_ok145 : tyOk Tryz.prog 145 = true := by kernel_rfl
theorem F_ag145 : aggT Tryz.prog 145 = true := by kernel_rfl
theorem F_go122 : goFn Tryz.prog 122 := ⟨_, Tryz.func122, rfl, rfl⟩
theorem F_go112 : goFn Tryz.prog 112 := ⟨_, Tryz.func112, rfl, rfl⟩
theorem F_off145_0 : offT Tryz.prog 145 0 = some 0 := by kernel_rfl
theorem F_go99 : goFn Tryz.prog 99 := ⟨_, Tryz.func99, rfl, rfl⟩
theorem F_go100 : goFn Tryz.prog 100 := ⟨_, Tryz.func100, rfl, rfl⟩
theorem F_eqi138 (a0 b0 : Int) (a1 b1 : Int) (w : World) : (Op.equalIn 10000 138 (.agg #[.int .u64 a0, .int .u64 a1]) (.agg #[.int .u64 b0, .int .u64 b1])).run Tryz.prog w = .ok (veqL [.int .u64 a0, .int .u64 a1] [.int .u64 b0, .int .u64 b1]) w := by
 have u94 := Tryz.underlying94
 have g94 := Tryz.isAgg94
 have z94 := Tryz.sizeOf94
 have hS : Tryz.prog.underlying 138 = some (.struct (Tryz.prog.fieldsOf 138)) := by kernel_rfl
 have hp : Tryz.prog.stoodInHeld 138 = false := by kernel_rfl
 rw [show (10000 : Nat) = 9999 + 1 from rfl, run_equalIn_agg w 9999 138 _ _ hS hp]
 simp only [Program.fieldsOf, Tryz.underlying138]
 go_simp
 by_cases h0 : a0 = b0 <;> by_cases h1 : a1 = b1 <;> simp [veqL, veq, h0, h1]
theorem F_eql138 (a0 b0 : Int) (a1 b1 : Int) (x y : Operand) : pureBin Tryz.prog .eql 138 x y (.agg #[.int .u64 a0, .int .u64 a1]) (.agg #[.int .u64 b0, .int .u64 b1]) = True := by
 have hm : Tryz.prog.eqGuardType Tryz.prog.depth 138 = false := by kernel_rfl
 simp only [pureBin, Pure, eq_iff_iff, iff_true]
 intro w
 simp only [Sem.run_bind, run_eqGuard_agg w .eql 138 x y _ _ hm, Result.andThen_ok, run_eql_struct, F_eqi138, binV]
theorem F_go101 : goFn Tryz.prog 101 := ⟨_, Tryz.func101, rfl, rfl⟩
theorem F_go102 : goFn Tryz.prog 102 := ⟨_, Tryz.func102, rfl, rfl⟩
theorem F_zero145 : zeroT Tryz.prog 145 = some [(.int .u64 0), (.int .u64 0), (.int .i64 0)] := by kernel_rfl
theorem F_bld145 : bldT Tryz.prog 145 = true := by kernel_rfl
theorem F_fld145_0 : fldT Tryz.prog 145 0 = some (0, 2) := by kernel_rfl
theorem F_fld145_1 : fldT Tryz.prog 145 1 = some (2, 1) := by kernel_rfl
theorem F_by145 : byT Tryz.prog 145 = 24 := by kernel_rfl
theorem F_go103 : goFn Tryz.prog 103 := ⟨_, Tryz.func103, rfl, rfl⟩
theorem F_off145_1 : offT Tryz.prog 145 1 = some 2 := by kernel_rfl
theorem sRest_ins {cf : FuncId} {cs : List D} {c : List D → List D → Int} {Pd : List D → Prop} (h : SC Tryz.prog cf cs c Pd 3) (P_ S_ Q_ : List (List D)) (hM : okM Pd (P_ ++ (S_ ++ Q_))) (hN : (P_ ++ (S_ ++ Q_)).length ≤ 1000000) (a b : Nat) (ha : a = P_.length) (hb : b = P_.length + S_.length) : MCalls Tryz.prog 122 [.m 0, .d (iv a), .d (iv b), .d (.fn cf cs)] [⟨145, 3, P_ ++ (S_ ++ Q_)⟩] [⟨145, 3, P_ ++ (isort (ltc c) S_ ++ Q_)⟩] [] (.tp []) := by
 refine mcalls_S (rs := []) Tryz.func122 rfl rfl 53 [(0, .ref 1000000000 ((P_ ++ (S_ ++ Q_))).length), (1, .d (iv a)), (2, .d (iv b)), (3, .d (.fn cf cs))] [(1000000000, (⟨True, 145, 3, true, false, 1000000000, ((P_ ++ (S_ ++ Q_))).map (·.map .d)⟩ : ARow))] rfl (by simp) (by rfl) (by rfl) (by rfl) (by rfl) (by rfl) ?_
 change AWp _ _ _ (S _ _ [(1000000000, (⟨True, 145, 3, true, false, 1000000000, aV ((P_ ++ (S_ ++ Q_)))⟩ : ARow))])
 have hn : P_.length + S_.length + Q_.length ≤ 1000000 := by simpa [Nat.add_assoc] using hN
 have hwa : Ql .i64 ((a : Int) + 1) = ((a + 1 : Nat) : Int) := by rw [wrapI (by omega) (by omega)]; omega
 refine pq fun K0 hK0 => ?_
 simp only [zzK, QR, QP, QQ, JC, zz21, JM, zz26, JB, hwa, zz6, QO, ↓Qb]
 refine kK hK0 [0, 1, 2, 3, 8] ?_
 refine JH ?_
 refine JL (fun m s => ∃ (i : Nat) (R : List (List D)), InO (ltc c) P_ S_ Q_ i R ∧ m = b + 1 - i ∧ s = S 53 [(0, .ref 1000000000 (P_ ++ (S_ ++ Q_)).length), (1, .d (iv a)), (2, .d (iv b)), (3, .d (.fn cf cs)), (8, .d (iv i))] [(1000000000, (⟨True, 145, 3, true, false, 1000000000, aV (R)⟩ : ARow))]) (b + 1 - (a + 1)) _ (leK id [] (hr := by exact ⟨fun _ => ⟨_, rfl, Qu rfl (JU _)⟩, (by simp), trivial⟩) (hwr := by exact ⟨fun e he r' hr' => by rw [JU _ e he] at hr'; simp at hr', trivial⟩)) ⟨a + 1, _, by subst ha; exact InO.start, rfl, rfl⟩ ?_
 rintro m s ⟨i, R, hO, rfl, rfl⟩
 refine JA fun K1 hK1 => ?_
 refine pq fun K2 hK2 => ?_
 simp only [zzK, QR, QP, QQ, JC, zz21, JM, zz22, zz6, QO, ↓Qb]
 refine kK hK2 [0, 1, 2, 3, 8, 14] ?_
 refine cnA ?_ ?_
 ·intro hb
  have hi2 : i < b := by have := Qg hb; omega
  clear hb
  have hI := hO.more (by omega)
  refine JI ?_
  simp only [zz6, QO, ↓Qb]
  refine kK hK1 [0, 1, 2, 3, 8] ?_
  refine JA fun K1 hK1 => ?_
  refine JH ?_
  refine pq fun K2 hK2 => ?_
  simp only [zzK, QR, QP, QQ, JC, JB, zz6, QO, ↓Qb]
  refine kK hK2 [0, 1, 2, 3, 8, 9] ?_
  refine JH ?_
  refine JL (fun m s => ∃ (j : Nat) (R2 : List (List D)), InI (ltc c) P_ S_ Q_ i j R2 ∧ m = j ∧ s = S 53 [(0, .ref 1000000000 (P_ ++ (S_ ++ Q_)).length), (1, .d (iv a)), (2, .d (iv b)), (3, .d (.fn cf cs)), (8, .d (iv i)), (9, .d (iv j))] [(1000000000, (⟨True, 145, 3, true, false, 1000000000, aV (R2)⟩ : ARow))]) i _ (leK id [] (hr := by exact ⟨fun _ => ⟨_, rfl, Qu rfl (JU _)⟩, (by simp), trivial⟩) (hwr := by exact ⟨fun e he r' hr' => by rw [JU _ e he] at hr'; simp at hr', trivial⟩)) ⟨i, _, hI, rfl, rfl⟩ ?_
  clear hO hI
  rintro j s ⟨j0, R2, hJ, rfl, rfl⟩
  obtain ⟨hl0, hib, hji, haj, hai⟩ := hJ.len
  have hl : R2.length = (P_ ++ (S_ ++ Q_)).length := by simp only [QC]; omega
  have ho := hJ.ok hM
  have hz := okM.len h ho
  have hwj : (Ql .i64 ((j : Int) - 1)).toNat = j - 1 := by rw [wrapI (by omega) (by omega)]; omega
  have hwi : Ql .i64 ((i : Int) + 1) = ((i + 1 : Nat) : Int) := by rw [wrapI (by omega) (by omega)]; omega
  refine JA fun K3 hK3 => ?_
  refine JA fun K4 hK4 => ?_
  refine awp_draw F_mixed [some 18, some 19, some 20, some 21, some 22, some 23, some 24, some 25, some 26, some 27, some 28, some 29, some 30, some 31, some 32, some 33, some 34] rfl (by kernel_rfl) ?_
  simp only [zzK, QR, QP, QQ, QU, JZ, zz5, and_imp, imp_and, imp_self, JC, zz21, JM, zz25, JW, zz23, zz24, F_sl140, F_sz145, QA, zzC, yyE, Qe, F_ok145, F_ag145, zz8, zzD, QS, QN, zzH, zz33, JE, JF, zz22, zz13, pickK_l, pickK_r, aV_len, aV_get, List.length_map, Nat.le_refl, QV, ge0, QH, QN, hl, hwj, tkD R2 hz, asEc_map, asGs_map, zz6, QO, ↓Qb]
  have hjl : j < (P_ ++ (S_ ++ Q_)).length := by rw [← hl]; omega
  have hgt : decide ((j : Int) > (a : Int)) = true → a < j := fun hg => by have := Qg hg; omega
  refine ⟨fun hg => by omega, ⟨fun hg => by omega, fun hg => by rw [lenD hz (by omega)]; exact Nat.le_refl _⟩, ⟨fun hg => by have := hgt hg; rw [wrapI (by omega) (by omega)]; omega, fun hg => by have := hgt hg; rw [wrapI (by omega) (by omega)]; omega⟩, ⟨fun hg => by omega, fun hg => by rw [lenD hz (by omega)]; exact Nat.le_refl _⟩, ?_⟩
  refine call_goC ?_ ?_ h.go (fun hG => h.call (R2.getD j []) (R2.getD (j - 1) []) (ho _ (gd_mem (by omega))) (ho _ (gd_mem (by omega)))) (by simp [QY, QX]) (by simp) ?_
  ·decide
  ·simp only [JD, QQ, Qd, Qc, bare_d, bare_wh]
  simp only [zzK, QR, QP, QQ, QU, JZ, zz5, and_imp, imp_and, imp_self, JC, zz21, JM, zz25, JW, zz23, zz24, F_sl140, F_sz145, QA, zzC, yyE, Qe, F_ok145, F_ag145, zz8, zzD, QS, QN, zzH, zz33, JE, JF, zz22, zz13, pickK_l, pickK_r, aV_len, aV_get, List.length_map, Nat.le_refl, QV, ge0, QH, QN, hl, hwj, tkD R2 hz, asEc_map, asGs_map, zz6, QO, ↓Qb, QU, JZ, Gp_some, and_imp, imp_and, imp_self, asEs_cons, asEs_nil, asE_ag, asE_d, asE_ref, asEc_cons, asEc_nil, asF_d, asF_ref, asF_ag, asGs, oksF, atsL, oksG, JV, QZ, Qa, JO, Qm, QT, QS, zz9, unDs_map, QB, QA, S_mem, yyF, QF, zz2]
  refine kK hK4 [0, 1, 2, 3, 8, 9, 34] ?_
  refine cnA ?_ ?_
  ·intro hb
   have hja : a < j := by
    cases hd : decide ((j : Int) > (a : Int)) with
    | true => have := Qg hd; omega
    | false => rw [hd] at hb; cases hb
   have hc2 : decide (c (R2.getD j []) (R2.getD (j - 1) []) < 0) = true := by rw [show decide ((j : Int) > (a : Int)) = true from decide_eq_true (by omega)] at hb; exact hb
   clear hb
   have hwj2 : Ql .i64 ((j : Int) - 1) = ((j - 1 : Nat) : Int) := by rw [wrapI (by omega) (by omega)]; omega
   have hjl : j < (P_ ++ (S_ ++ Q_)).length := by rw [← hl]; omega
   obtain ⟨q1, q2, q3, q4, q5, q6, q7, q8, q9, q10, q11⟩ := swpF h ho (i := j) (k := j - 1) (by omega) (by omega)
   have qi := ltI (show j < (P_ ++ (S_ ++ Q_)).length by omega)
   have qk := ltI (show j - 1 < (P_ ++ (S_ ++ Q_)).length by omega)
   have qm := eq_true (show j < (P_ ++ (S_ ++ Q_)).length by omega)
   have qn := eq_true (show j - 1 < (P_ ++ (S_ ++ Q_)).length by omega)
   refine JI ?_
   simp only [zz6, QO, ↓Qb]
   refine kK hK3 [0, 1, 2, 3, 8, 9] ?_
   refine JA fun K3 hK3 => ?_
   refine JH ?_
   refine awp_draw F_mixed [some 37, some 38, some 39, some 40, some 41, some 42, some 43, some 44, some 45, some 46, some 47, some 48, some 49, some 50, some 51, none, some 52, none] rfl (by kernel_rfl) ?_
   simp only [zzK, QR, QP, QQ, JC, zz21, JM, zz33, JW, zz23, zz24, F_sl140, F_sz145, QA, zzC, yyE, Qe, F_ok145, F_ag145, zz8, zzD, QS, QN, zzH, zz18, QG, zz1, zzG, aV_len, aV_get, aV_set, List.length_map, List.length_set, Nat.le_refl, QV, ge0, QH, QN, q1, q2, q3, q4, q5, q6, q7, q8, q9, q10, q11, qi, qk, qm, qn, hwj2, hl, zz6, QO, ↓Qb]
   refine kK hK3 [0, 1, 2, 3, 8, 9] ?_
   refine pz ?_
   simp only [zzK, QR, QP, QQ, JC, zz21, JM, zz33, JB, hwj2, zz6, QO, ↓Qb]
   refine ⟨j - 1, _, by omega, leK id [] (hr := by exact ⟨fun _ => ⟨_, rfl, Qu rfl (JU _)⟩, (by simp), trivial⟩) (hwr := by exact ⟨fun e he r' hr' => by rw [JU _ e he] at hr'; simp at hr', trivial⟩), j - 1, _, hJ.step (by omega) (cmp_pos hc2), rfl, rfl⟩
  ·intro hb
   have hO2 := hJ.done h.swo (by
    cases hd : decide ((j : Int) > (a : Int)) with
    | true => rw [hd] at hb; exact .inr (cmp_neg hb)
    | false => have := Qf hd; exact .inl (by omega))
   clear hb
   refine JK ?_
   simp only [zz6, QO, ↓Qb]
   refine kK hK1 [0, 1, 2, 3, 8] ?_
   refine pz ?_
   simp only [zzK, QR, QP, QQ, JC, zz21, JM, zz26, JB, hwi, zz6, QO, ↓Qb]
   refine ⟨b + 1 - (i + 1), _, by omega, leK id [] (hr := by exact ⟨fun _ => ⟨_, rfl, Qu rfl (JU _)⟩, (by simp), trivial⟩) (hwr := by exact ⟨fun e he r' hr' => by rw [JU _ e he] at hr'; simp at hr', trivial⟩), i + 1, R2, hO2, rfl, rfl⟩
 ·intro hb
  have hi2 : b ≤ i := by have := Qf hb; omega
  clear hb
  obtain rfl := hO.done (by omega)
  have ho2 := hO.ok hM
  have hfl : ∀ l, l ∈ P_ ++ (isort (ltc c) S_ ++ Q_) → flatDs l := fun l hl2 => h.flat l (ho2 l hl2)
  refine JK ?_
  simp only [zz6, QO, ↓Qb]
  refine doneM [] (by simp [resCs, resC, S, List.getD, JD, lookR, ]) ?_ (by simp [Ja, Jb, Jc, ]) (by simp [QY, QX, ]) (by decide) (by simp) ?_ ?_
  ·simp only [QD, QE, resA, JZ, S_mem, lookR_cons, lookR_nil, QR, QP, JD, QQ, Qd, Qc, JP, QI, QJ, QH, QL, QK, List.take_zero, ]; rfl
  ·exact trivial
  ·exact ⟨⟨_, rfl, trivial, rfl, rfl, rfl⟩, hfl, trivial⟩
set_option maxRecDepth 100000 in
set_option maxHeartbeats 4000000 in
theorem sRest_stable {cf : FuncId} {cs : List D} {c : List D → List D → Int} {Pd : List D → Prop} (h : SC Tryz.prog cf cs c Pd 3) (M : List (List D)) (hM : okM Pd M) (hN : M.length ≤ 19) (n : Nat) (hn : n = M.length) : MCalls Tryz.prog 112 [.m 0, .d (iv n), .d (.fn cf cs)] [⟨145, 3, M⟩] [⟨145, 3, isort (ltc c) M⟩] [] (.tp []) := by
 refine mcalls_S (rs := []) Tryz.func112 rfl rfl 63 [(0, .ref 1000000000 (M).length), (1, .d (iv n)), (2, .d (.fn cf cs))] [(1000000000, (⟨True, 145, 3, true, false, 1000000000, (M).map (·.map .d)⟩ : ARow))] rfl (by simp) (by rfl) (by rfl) (by rfl) (by rfl) (by rfl) ?_
 subst hn
 change AWp _ _ _ (S _ _ [(1000000000, (⟨True, 145, 3, true, false, 1000000000, aV (M)⟩ : ARow))])
 refine pq fun K0 hK0 => ?_
 simp only [zzK, QR, QP, QQ, JB, zz6, QO, ↓Qb]
 refine kK hK0 [0, 1, 2, 6] ?_
 refine pq fun K0 hK0 => ?_
 simp only [zzK, QR, QP, QQ, JC, JB, zz6, QO, ↓Qb]
 refine kK hK0 [0, 1, 2, 6, 7, 8] ?_
 refine JA fun K0 hK0 => ?_
 refine JH ?_
 refine JL (fun mm s => mm = 0 ∧ s = S 63 [(0, .ref 1000000000 M.length), (1, .d (iv M.length)), (2, .d (.fn cf cs)), (6, .d (iv 20)), (7, .d (iv ((0 : Nat) : Int))), (8, .d (iv 20))] [(1000000000, (⟨True, 145, 3, true, false, 1000000000, aV (M)⟩ : ARow))]) 0 _ (leK id [] (hr := by exact ⟨fun _ => ⟨_, rfl, Qu rfl (JU _)⟩, (by simp), trivial⟩) (hwr := by exact ⟨fun e he r' hr' => by rw [JU _ e he] at hr'; simp at hr', trivial⟩)) ⟨rfl, rfl⟩ ?_
 rintro mm s ⟨rfl, rfl⟩
 refine JA fun K2 hK2 => ?_
 refine pq fun K3 hK3 => ?_
 simp only [zzK, QR, QP, QQ, JC, zz21, JM, b_leq, pure_leq, zz6, QO, ↓Qb]
 refine kK hK3 [0, 1, 2, 6, 7, 8, 13] ?_
 refine cnA ?_ ?_
 ·intro hb
  exfalso
  have := Qg hb
  omega
 ·intro hb
  clear hb
  have hok2 : okM Pd ([] ++ (M ++ [])) := by simpa using hM
  have ho3 : okM Pd (isort (ltc c) M) := okM_isort hM
  have hof : okM Pd ([] ++ (isort (ltc c) M ++ [])) := by simpa using ho3
  have hl2 : (M ++ []).length = M.length := by simp
  refine JK ?_
  simp only [zz6, QO, ↓Qb]
  refine kK hK0 [0, 1, 2, 6, 7] ?_
  refine JA fun K0 hK0 => ?_
  rw [show aV M = List.map (fun e : List D => e.map AV.d) ([] ++ (M ++ [])) by rw [QG]; rfl]
  refine awp_mut [some 23, some 24, some 25, some 26, some 27] rfl 4 rfl ?_
  simp only [zzK, QR, QP, QQ, JC, JE, JF, hl2, zzB, zz6, QO, ↓Qb]
  refine mut_go [1000000000] F_go122 (sRest_ins h [] M [] hok2 (by simp; omega) 0 M.length rfl (by simp)) (by simp [QY, QX]) (by decide) (by first | exact ⟨by decide, by simp⟩ | rfl) ?_
  simp only [zzK, QR, QP, QQ, JC, JE, JF, hl2, zzB, zz6, QO, ↓Qb, mArgs_nil, asE_cl, asF_cl, asD_ptr, asG_ptr, asD_ep, asG_ep, List.mem_singleton, forall_eq, asEc_cons, asEc_nil, mArgs_d, mArgs_m, mRows_nil, mRows_cons, mNewL, nxM, mBase, mName, oksL, List.getElem?_cons_zero, List.getElem?_cons_succ, zzF, asE_ag, asE_d, asE_ref, asEc_cons, asEc_nil, asF_d, asF_ref, asF_ag, asGs, QY, QX, QM, List.not_mem_nil, false_implies, forall_const, atsL, asD_self, asD_nil, asD_sl, asD_agg, asD_int, asD_bool, asD_func, asD_ag, asD_ref, asG_d, asG_ag, asG_ref, JV, QZ, Qa, JO, Qm, QT, QS, zz9, QB, QA, zzC, yyF, zzD, S_func, Sk_func]
  refine ⟨fun l hl2 => h.flat l (hof l hl2), ?_⟩
  refine kK hK0 [0, 1, 2, 6] ?_
  refine JH ?_
  refine JL (fun mm s => mm = 0 ∧ s = S 63 [(0, .ref 1000000000 M.length), (1, .d (iv M.length)), (2, .d (.fn cf cs)), (6, .d (iv 20))] [(1000000000, (⟨True, 145, 3, true, false, 1000000000, aV ((isort (ltc c) M))⟩ : ARow))]) 0 _ (leK id [] (hr := by exact ⟨fun _ => ⟨_, rfl, Qu (by rw [QG]; rfl) (JU _)⟩, (by simp), trivial⟩) (hwr := by exact ⟨fun e he r' hr' => by rw [ids_data e he] at hr'; simp at hr', trivial⟩)) ⟨rfl, rfl⟩ ?_
  rintro mm s ⟨rfl, rfl⟩
  refine JA fun K1 hK1 => ?_
  refine pq fun K2 hK2 => ?_
  simp only [zzK, QR, QP, QQ, JC, zz21, JM, zz22, zz6, QO, ↓Qb]
  refine kK hK2 [0, 1, 2, 6, 30] ?_
  refine cnA ?_ ?_
  ·intro hb
   exfalso
   have := Qg hb
   omega
  ·intro hb
   clear hb
   have hfl : ∀ l, l ∈ isort (ltc c) M → flatDs l := fun l hl2 => h.flat l (ho3 l hl2)
   refine JK ?_
   simp only [zz6, QO, ↓Qb]
   refine doneM [] (by simp [resCs, resC, S, List.getD, JD, lookR, ]) ?_ (by simp [Ja, Jb, Jc, ]) (by simp [QY, QX, ]) (by decide) (by simp) ?_ ?_
   ·simp only [QD, QE, resA, JZ, S_mem, lookR_cons, lookR_nil, QR, QP, JD, QQ, Qd, Qc, JP, QI, QJ, QH, QL, QK, List.take_zero, ]; rfl
   ·exact trivial
   ·exact ⟨⟨_, rfl, trivial, rfl, rfl, rfl⟩, hfl, trivial⟩
theorem sRest_sort {cf : FuncId} {cs : List D} {c : List D → List D → Int} {Pd : List D → Prop} (h : SC Tryz.prog cf cs c Pd 3) (M : List (List D)) (hM : okM Pd M) (hN : M.length ≤ 19) : MCalls Tryz.prog 103 [.m 0, .d (.fn cf cs)] [⟨145, 3, M⟩] [⟨145, 3, isort (ltc c) M⟩] [] (.tp []) := by
 refine mcalls_S (rs := []) Tryz.func103 rfl rfl 9 [(0, .ref 1000000000 (M).length), (1, .d (.fn cf cs))] [(1000000000, (⟨True, 145, 3, true, false, 1000000000, (M).map (·.map .d)⟩ : ARow))] rfl (by simp) (by rfl) (by rfl) (by rfl) (by rfl) (by rfl) ?_
 refine awp_mut [some 4, some 5, some 6, some 7, some 8] rfl 4 rfl ?_
 simp only [zzK, QR, QP, QQ, JC, JE, zz12, F_sl140, Option.isSome_some, JF, JN, zzB, zz6, QO, ↓Qb]
 refine mut_go [1000000000] F_go112 (sRest_stable h M hM hN M.length rfl) (by simp [QY, QX]) (by decide) (by first | exact ⟨by decide, by simp⟩ | rfl) ?_
 simp only [zzK, QR, QP, QQ, JC, JE, zz12, F_sl140, Option.isSome_some, JF, JN, zzB, zz6, QO, ↓Qb, mArgs_nil, asE_cl, asF_cl, asD_ptr, asG_ptr, asD_ep, asG_ep, List.mem_singleton, forall_eq, asEc_cons, asEc_nil, mArgs_d, mArgs_m, mRows_nil, mRows_cons, mNewL, nxM, mBase, mName, oksL, List.getElem?_cons_zero, List.getElem?_cons_succ, zzF, asE_ag, asE_d, asE_ref, asEc_cons, asEc_nil, asF_d, asF_ref, asF_ag, asGs, QY, QX, QM, List.not_mem_nil, false_implies, forall_const, atsL, asD_self, asD_nil, asD_sl, asD_agg, asD_int, asD_bool, asD_func, asD_ag, asD_ref, asG_d, asG_ag, asG_ref, JV, QZ, Qa, JO, Qm, QT, QS, zz9, QB, QA, zzC, yyF, zzD, S_func, Sk_func]
 refine ⟨fun l hl2 => h.flat l (okM_isort hM l hl2), ?_⟩
 have hfl : ∀ l, l ∈ isort (ltc c) M → flatDs l := fun l hl2 => h.flat l (okM_isort hM l hl2)
 refine doneM [] (by simp [resCs, resC, S, List.getD, JD, lookR, ]) ?_ (by simp [Ja, Jb, Jc, ]) (by simp [QY, QX, ]) (by decide) (by simp) ?_ ?_
 ·simp only [QD, QE, resA, JZ, S_mem, lookR_cons, lookR_nil, QR, QP, JD, QQ, Qd, Qc, JP, QI, QJ, QH, QL, QK, List.take_zero, ]; rfl
 ·exact trivial
 ·exact ⟨⟨_, rfl, trivial, rfl, rfl, rfl⟩, hfl, trivial⟩
theorem restCmp_ (a b : RestV) : ACalls Tryz.prog 104 [.agg (restC a), .agg (restC b)] [] (.d (iv (cmpG b.r a.r))) := by
 refine acalls_S (rs := [.tmp 4]) Tryz.func104 rfl rfl 10 [(0, .d (.agg (restC a))), (1, .d (.agg (restC b)))] rfl (by simp) rfl ?_
 refine pq fun K0 hK0 => ?_
 simp only [zzK, QR, QP, QQ, zz35, JS, zz1, zzG, zzD, zzC, QA, yyE, Qe, QS, QN, zzH, JB, restC, uw, zz6, QO, ↓Qb]
 refine kK hK0 [2, 3] ?_
 refine pq fun K0 hK0 => ?_
 simp only [zzK, QR, QP, QQ, zz19, zz23, F_off145_0, zzH, QN, QS, F_ok138, F_ag138, F_sz138, zz8, zzD, zzC, QA, yyE, Qe, JE, JF, JB, gC, uw, QW, zz6, QO, ↓Qb]
 refine cgA F_go105 (fun hG => gCmp_ b.r a.r) ?_
 simp only [zzK, QR, QP, QQ, zz19, zz23, F_off145_0, zzH, QN, QS, F_ok138, F_ag138, F_sz138, zz8, zzD, zzC, QA, yyE, Qe, JE, JF, JB, gC, uw, QW, zz6, QO, ↓Qb, atsL, oksG, JV, QZ, Qa, JO, Qm, QT, QS, zz9, QB, QA, S_mem, yyF, QF, zz2]
 refine kK hK0 [4] ?_
 refine JJ ?_
 simp only [zz6, QO, ↓Qb]
 refine dnA ?_
 simp only [QD, QE, resA, JZ, QR, QP, JD, QQ, Qd, Qc, JP]
 
theorem restSC : SC Tryz.prog 104 [] restCmp isRest 3 where
 go := ⟨_, Tryz.func104, rfl, rfl⟩
 call x y hx hy := by
  obtain ⟨a, rfl⟩ := hx
  obtain ⟨b, rfl⟩ := hy
  have h := restCmp_ a b
  simp only [restCmp, restD_C]
  exact h
 len x hx := by obtain ⟨b, rfl⟩ := hx; rfl
 flat x hx := by obtain ⟨b, rfl⟩ := hx; simp [restC, uw, flatDs, Jc]
 cell x hx := by obtain ⟨b, rfl⟩ := hx; simp [restC, uw, cell1s, AV.cell1, Value.oneCell']
 swo := restCmp_swo

theorem restSortC (T S : Nat) (l : List Int) (hl : l.length ≤ 19) : MCalls Tryz.prog 103 [.m 0, .d (.v (.func (.func 104) #[] #[]))] [⟨145, 3, (rsV T S l).map restC⟩] [⟨145, 3, (ordR T S l).map restC⟩] [] (.tp []) := by
 have e := mcalls_fn0 (sRest_sort restSC ((rsV T S l).map restC) (okM_rests _) (by simp [rsV_len]; omega))
 rw [sort_rests] at e
 exact e
theorem restFlat (L : List RestV) : ∀ x ∈ L.map restC, flatDs x := fun x hx => by
 obtain ⟨b, _, rfl⟩ := List.mem_map.1 hx
 simp [restC, uw, flatDs, Jc]

set_option maxRecDepth 100000 in
set_option maxHeartbeats 4000000 in
theorem split_ (t : Int) (l : List Int) (hl : l.length ≤ 19) : ACalls Tryz.prog 84 [iv t, ints l] [⟨3, 1, (splitV t l).map fun n => [iv n]⟩] (.tp [.ref 0 (splitV t l).length, .d (iv (splitE t l))]) := by
 refine acalls_S (rs := [.tmp 4, .tmp 5]) Tryz.func84 rfl rfl 103 [(0, .d (iv t)), (1, .d (ints l))] rfl (by simp) rfl ?_
 refine pq fun K0 hK0 => ?_
 simp only [zzK, QR, QP, QQ, JB, zz6, QO, ↓Qb]
 refine kK hK0 [0, 1] ?_
 refine pq fun K0 hK0 => ?_
 simp only [zzK, QR, QP, QQ, JC, JE, JF, JB, ints, zz6, QO, ↓Qb]
 refine cgA F_go99 (fun hG => sRight_ t l (by omega)) ?_
 simp only [zzK, QR, QP, QQ, JC, JE, JF, JB, ints, zz6, QO, ↓Qb, atsL, oksG, JV, QZ, Qa, JO, Qm, QT, QS, zz9, QB, QA, zzC, yyF, zzD, zz2]
 refine kK hK0 [0, 1, 6] ?_
 refine JA fun K0 hK0 => ?_
 refine pq fun K1 hK1 => ?_
 simp only [zzK, QR, QP, QQ, JC, zz21, JM, zz28, zz6, QO, ↓Qb]
 refine kK hK1 [0, 1, 6, 24] ?_
 refine cnA ?_ ?_
 ·intro hb
  have hs : (sRE t l == 0) = false := by simpa using hb
  clear hb
  refine pq fun K2 hK2 => ?_
  simp only [zzK, QR, QP, QQ, JC, JB, zz6, QO, ↓Qb]
  refine kK hK2 [4, 5] ?_
  refine awp_le (leK id [0] (l' := [(4, .ref 0 0), (5, .d (iv (sRE t l)))]) (m' := [(0, (⟨True, 3, 1, true, true, 0, []⟩ : ARow))])) ?_
  refine JJ ?_
  simp only [zz6, QO, ↓Qb]
  rw [show splitV t l = [] by simp only [splitV, hs, Qc], show splitE t l = sRE t l by simp only [splitE, hs, Qc]]
  refine done1 0 (by simp only [resCs, resC]; trivial) ?_ (by simp [Ja, Jb, Jc]) (by simp [QY, QX]) (by rfl) trivial rfl rfl ?_ (by simp [flatDs, Jc])
  ·simp only [QD, QE, resA, JZ, QR, QP, JD, QQ, Qd, Qc, JP]; rfl
  ·rfl
 ·intro hb
  have hs : sRE t l = 0 := by simpa using hb
  clear hb
  obtain ⟨ht, hll, hl2⟩ := sRE_ok hs
  have hSl := sN_le hll
  have htt : ((t.toNat : Nat) : Int) = t := by omega
  have ht64 : Ql .u64 t = t := wrapU (by omega) (by omega)
  refine JI ?_
  simp only [zz6, QO, ↓Qb]
  refine kK hK0 [0, 1] ?_
  refine pq fun K0 hK0 => ?_
  simp only [zzK, QR, QP, QQ, zz32, JS, F_zero138, zzC, QA, yyE, Qe, zzD, QS, QN, zzH, zz10, zz6, QO, ↓Qb]
  refine kK hK0 [0, 1, 7] ?_
  refine JA fun K0 hK0 => ?_
  refine pq fun K1 hK1 => ?_
  simp only [zzK, QR, QP, QQ, JC, JE, zz12, F_sl30, Option.isSome_some, ints, JN, zz6, QO, ↓Qb]
  refine kK hK1 [0, 1, 7, 26, 27, 28] ?_
  refine JH ?_
  refine JL (fun m s => ∃ (pre : List Int) (post : List Int), (l = pre ++ post) ∧ m = post.length ∧ s = S 103 [(0, .d (iv t)), (1, .d (ints l)), (7, .ptr 7 0 0), (26, .d (ints l)), (27, .d (iv l.length)), (28, .d (iv pre.length))] [(7, (⟨True, 138, 2, true, false, 7, [[.d (.v (.int .u64 ((sN pre / 18446744073709551616 : Nat) : Int))), .d (.v (.int .u64 ((sN pre % 18446744073709551616 : Nat) : Int)))]]⟩ : ARow))]) (l.length) _ (leK id [] (hr := by exact ⟨fun _ => ⟨_, rfl, RowLe.cells (VLess.one_ (VLes.cons_ (Qt (by simp [sN])) (VLes.cons_ (Qt (by simp [sN])) (VLes.nil_))))⟩, (by simp), trivial⟩)) ⟨[], l, rfl, rfl, rfl⟩ ?_
  rintro m s ⟨pre, post, hsp, rfl, rfl⟩
  have hspl := congrArg List.length hsp
  simp only [QC] at hspl
  refine pq fun K2 hK2 => ?_
  simp only [zzK, QR, QP, QQ, zz21, JM, zz22, JN, zz6, QO, ↓Qb]
  refine kK hK2 [0, 1, 7, 26, 27, 28, 29] ?_
  refine JA fun K2 hK2 => ?_
  refine cnA ?_ ?_
  ·intro hb
   obtain ⟨x, post2, rfl⟩ : ∃ x t, post = x :: t := by
    cases post with
    | nil => have := Qg hb; simp at hspl; omega
    | cons x t => exact ⟨x, t, rfl⟩
   clear hb
   simp only [QF] at hspl
   have gx : (l.map (fun n => [iv n])).getD pre.length [] = [iv x] := by
    rw [hsp, List.map_append]; exact gd_mid' (A := pre.map (fun n => [iv n])) _ _ (by simp)
   have bx := ltI (show pre.length < l.length by omega)
   have hwx : Ql .i64 ((pre.length : Int) + 1) = ((pre ++ [x]).length : Int) := by rw [wrapI (by omega) (by omega)]; simp
   have hxb := hll x (by rw [hsp]; simp)
   have hx64 : Ql .u64 x = ((x.toNat : Nat) : Int) := by rw [wrapU (by omega) (by omega)]; omega
   have hsn := sN_snoc pre x
   have hsm := sN_le (l := pre) (fun y hy => hll y (by rw [hsp]; simp [hy]))
   refine JI ?_
   simp only [zz6, QO, ↓Qb]
   refine kK hK2 [0, 1, 7, 26, 27, 28] ?_
   refine JA fun K2 hK2 => ?_
   refine JH ?_
   refine pq fun K3 hK3 => ?_
   simp only [zzK, QR, QP, QQ, JW, zz23, zz24, F_sl30, F_sz3, QA, zzC, yyE, Qe, F_ok3, F_ag3, zz8, zzD, QS, QN, zzH, JB, ints, gx, bx, hwx, JN, ge0, QV, QW, zz6, QO, ↓Qb]
   refine kK hK3 [0, 1, 7, 9, 26, 27, 28] ?_
   refine pz ?_
   simp only [zzK, QR, QP, QQ, F_ok138, F_ag138, F_sz138, zz8, zz23, zzD, QS, QN, zzH, zzC, QA, yyE, Qe, JC, zz27, JM, F_cv3_94, F_cvV94, JE, JF, zz18, splice, QG, zz1, zzG, hx64, gC, gA, uw, QW, zz6, QO, ↓Qb]
   refine call_go F_go100 (fun hG => gPlus_ (sN pre) x.toNat (by omega) (by omega)) (by simp [QY, QX, gA]) (by simp) ?_
   simp only [zzK, QR, QP, QQ, F_ok138, F_ag138, F_sz138, zz8, zz23, zzD, QS, QN, zzH, zzC, QA, yyE, Qe, JC, zz27, JM, F_cv3_94, F_cvV94, JE, JF, zz18, splice, QG, zz1, zzG, hx64, gC, gA, uw, QW, zz6, QO, ↓Qb, atsL, oksG, JV, QZ, Qa, JO, Qm, QT, QS, zz9, QB, QA, S_mem, yyF, QF, zz2]
   try simp only [gA, uw, cellsOf_ag, cell1s_cons, cell1s_nil, cell1_int, QF, List.length_nil, splice, QH, List.take_zero]
   refine kK hK2 [0, 1, 7, 26, 27, 28] ?_
   refine pz ?_
   simp only [zzK, QR, QP, QQ, zz21, JM, zz26, JC, hwx, zz6, QO, ↓Qb]
   refine ⟨post2.length, _, by simp, leK id [] (hr := by exact ⟨fun _ => ⟨_, rfl, RowLe.cells (VLess.one_ (VLes.cons_ (Qt (by rw [hsn])) (VLes.cons_ (Qt (by rw [hsn])) (VLes.nil_))))⟩, (by simp), trivial⟩), (pre ++ [x]), post2, by simp [hsp], rfl, rfl⟩
  ·intro hb
   obtain rfl : post = [] := by
    cases post with
    | nil => rfl
    | cons x t => have := Qf hb; simp at hspl; omega
   clear hb
   simp only [QG] at hsp
   subst hsp
   refine JK ?_
   simp only [zz6, QO, ↓Qb]
   refine kK hK0 [0, 1, 7] ?_
   refine JA fun K0 hK0 => ?_
   refine pq fun K1 hK1 => ?_
   simp only [zzK, QR, QP, QQ, F_ok138, F_ag138, F_sz138, zz8, zz23, zzD, QS, QN, zzH, zzC, QA, yyE, Qe, F_zero138, F_bld138, zz7, splice, Option.getD_some, QG, zz1, zzG, zz10, zz21, JM, gr_ag, gr_agg, grL_cons, grL_nil, grD_cons, grD_nil, b_eqla, b_neqa, F_eql138, uw, veqL, veq, sN_zero, Bool.and_true, zz6, QO, ↓Qb]
   refine kK hK1 [0, 1, 7, 39] ?_
   refine cnA ?_ ?_
   ·intro hb
    have hz : (sN l == 0) = true := hb
    clear hb
    refine JA fun K2 hK2 => ?_
    refine pq fun K3 hK3 => ?_
    simp only [zzK, QR, QP, QQ, JC, zz21, JM, zz28, zz6, QO, ↓Qb]
    refine kK hK3 [1, 41] ?_
    refine cnA ?_ ?_
    ·intro hb
     have h0 : (t == 0) = false := by simpa using hb
     clear hb
     refine pq fun K4 hK4 => ?_
     simp only [zzK, QR, QP, QQ, JB, zz6, QO, ↓Qb]
     refine kK hK4 [4, 5] ?_
     refine awp_le (leK id [0] (l' := [(4, .ref 0 0), (5, .d (iv 2))]) (m' := [(0, (⟨True, 3, 1, true, true, 0, []⟩ : ARow))])) ?_
     refine JJ ?_
     simp only [zz6, QO, ↓Qb]
     rw [show splitV t l = [] by simp only [splitV, hs, hz, h0]; rfl, show splitE t l = 2 by simp only [splitE, hs, hz, h0]; rfl]
     refine done1 0 (by simp only [resCs, resC]; trivial) ?_ (by simp [Ja, Jb, Jc]) (by simp [QY, QX]) (by rfl) trivial rfl rfl ?_ (by simp [flatDs, Jc])
     ·simp only [QD, QE, resA, JZ, QR, QP, JD, QQ, Qd, Qc, JP]; rfl
     ·rfl
    ·intro hb
     have h0 : (t == 0) = true := by simpa using hb
     clear hb
     refine JI ?_
     simp only [zz6, QO, ↓Qb]
     refine kK hK2 [1] ?_
     refine pq fun K2 hK2 => ?_
     simp only [zzK, QR, QP, QQ, JC, JE, zz12, F_sl30, Option.isSome_some, evS_makeSlice, msK_some, msZ_some, F_zero3, F_sz3, F_by3, JS, zz10, zzC, QA, yyE, Qe, zzD, QS, QN, zzH, JB, ints, JN, zz6, QO, ↓Qb]
     refine ⟨⟨by omega, by omega⟩, ?_⟩
     refine kK hK2 [4, 5] ?_
     refine JJ ?_
     simp only [zz6, QO, ↓Qb]
     rw [show splitV t l = zerosI l.length by simp only [splitV, hs, hz, h0]; rfl, show splitE t l = 0 by simp only [splitE, hs, hz, h0]; rfl, show (zerosI l.length).length = l.length by simp [zerosI]]
     refine done1 44 (by simp only [resCs, resC]; trivial) ?_ (by simp [Ja, Jb, Jc]) (by simp [QY, QX]) (by rfl) trivial rfl rfl ?_ (by simp [flatDs, Jc])
     ·simp only [QD, QE, resA, JZ, QR, QP, JD, QQ, Qd, Qc, JP]; rfl
     ·simp [zerosI]
   ·intro hb
    have hz : (sN l == 0) = false := hb
    clear hb
    have hS : 0 < sN l := Nat.pos_of_ne_zero (by simpa using hz)
    refine JI ?_
    simp only [zz6, QO, ↓Qb]
    refine kK hK0 [0, 1, 7] ?_
    refine pq fun K0 hK0 => ?_
    simp only [zzK, QR, QP, QQ, JB, zz6, QO, ↓Qb]
    refine kK hK0 [0, 1, 7, 10] ?_
    refine pq fun K0 hK0 => ?_
    simp only [zzK, QR, QP, QQ, JB, zz6, QO, ↓Qb]
    refine kK hK0 [0, 1, 7, 10, 11] ?_
    refine pq fun K0 hK0 => ?_
    simp only [zzK, QR, QP, QQ, JC, JB, zz6, QO, ↓Qb]
    refine kK hK0 [0, 1, 7, 10, 11, 12] ?_
    refine JA fun K0 hK0 => ?_
    refine pq fun K1 hK1 => ?_
    simp only [zzK, QR, QP, QQ, JC, JE, zz12, F_sl30, Option.isSome_some, ints, JN, zz6, QO, ↓Qb]
    refine kK hK1 [0, 7, 10, 11, 12, 46, 47, 48] ?_
    refine JH ?_
    refine JL (fun m s => ∃ (pre : List Int) (post : List Int), (l = pre ++ post) ∧ m = post.length ∧ s = S 103 [(0, .d (iv t)), (7, .ptr 7 0 0), (10, .ref 10 (qsV t.toNat (sN l) pre).length), (11, .ref 11 (rsV t.toNat (sN l) pre).length), (12, .d (iv (leftV t.toNat (sN l) pre))), (46, .d (ints l)), (47, .d (iv l.length)), (48, .d (iv pre.length))] [(7, (⟨True, 138, 2, true, false, 7, [[.d (.v (.int .u64 ((sN l / 18446744073709551616 : Nat) : Int))), .d (.v (.int .u64 ((sN l % 18446744073709551616 : Nat) : Int)))]]⟩ : ARow)), (10, grow 3 1 10 ((qsV t.toNat (sN l) pre).map fun n => [iv n])), (11, grow 145 3 11 ((rsV t.toNat (sN l) pre).map restC))]) (l.length) _ (leK id [10, 11] (hl := by simp only [leV, JD, QQ, Qd, Qc]; exact ⟨vA, vA, vA, vA, (Qt (by simp [leftV, qsV, htt])), vA, vA, vA, trivial⟩)) ⟨[], l, rfl, rfl, rfl⟩ ?_
    rintro m s ⟨pre, post, hsp, rfl, rfl⟩
    have hspl := congrArg List.length hsp
    simp only [QC] at hspl
    have hql := qsV_len t.toNat (sN l) pre
    have hrl := rsV_len t.toNat (sN l) pre
    refine pq fun K2 hK2 => ?_
    simp only [zzK, QR, QP, QQ, zz21, JM, zz22, JN, zz6, QO, ↓Qb]
    refine kK hK2 [0, 7, 10, 11, 12, 46, 47, 48, 49] ?_
    refine JA fun K2 hK2 => ?_
    refine cnA ?_ ?_
    ·intro hb
     obtain ⟨x, post2, rfl⟩ : ∃ x t, post = x :: t := by
      cases post with
      | nil => have := Qg hb; simp at hspl; omega
      | cons x t => exact ⟨x, t, rfl⟩
     clear hb
     simp only [QF] at hspl
     have gx : (l.map (fun n => [iv n])).getD pre.length [] = [iv x] := by
      rw [hsp, List.map_append]; exact gd_mid' (A := pre.map (fun n => [iv n])) _ _ (by simp)
     have bx := ltI (show pre.length < l.length by omega)
     have hwx : Ql .i64 ((pre.length : Int) + 1) = ((pre ++ [x]).length : Int) := by rw [wrapI (by omega) (by omega)]; simp
     have hxb := hll x (by rw [hsp]; simp)
     have hx64 : Ql .u64 x = ((x.toNat : Nat) : Int) := by rw [wrapU (by omega) (by omega)]; omega
     have hxS : x.toNat ≤ sN l := w_le (by rw [hsp]; simp)
     have hqT := q_le (T := t.toNat) hxS
     have hmul : t * ((x.toNat : Nat) : Int) = ((t.toNat * x.toNat : Nat) : Int) := by rw [Int.natCast_mul, htt]
     have hhi : t * ((x.toNat : Nat) : Int) / 18446744073709551616 = ((t.toNat * x.toNat / 18446744073709551616 : Nat) : Int) := by rw [hmul]; generalize t.toNat * x.toNat = A; omega
     have hlo : t * ((x.toNat : Nat) : Int) % 18446744073709551616 = ((t.toNat * x.toNat % 18446744073709551616 : Nat) : Int) := by rw [hmul]; generalize t.toNat * x.toNat = A; omega
     have hTx : t.toNat * x.toNat < 340282366920938463463374607431768211456 := Nat.lt_of_le_of_lt (Nat.mul_le_mul (show t.toNat ≤ 4611686018427387904 by omega) (show x.toNat ≤ 4611686018427387904 by omega)) (by decide)
     have hqm : t.toNat * x.toNat / sN l % 18446744073709551616 = t.toNat * x.toNat / sN l := Nat.mod_eq_of_lt (by omega)
     have hq64 : Ql .i64 ((t.toNat * x.toNat / sN l : Nat) : Int) = ((t.toNat * x.toNat / sN l : Nat) : Int) := wrapI (by omega) (by omega)
     have hlb := left_mid (T := t.toNat) hS hsp
     have hls := leftV_snoc t.toNat (sN l) pre x
     have hlv : Ql .i64 (leftV t.toNat (sN l) pre - ((t.toNat * x.toNat / sN l : Nat) : Int)) = leftV t.toNat (sN l) (pre ++ [x]) := by
      rw [← hls]; exact wrapI (by omega) (by omega)
     refine JI ?_
     simp only [zz6, QO, ↓Qb]
     refine kK hK2 [0, 7, 10, 11, 12, 46, 47, 48] ?_
     refine JA fun K2 hK2 => ?_
     refine JH ?_
     refine pq fun K3 hK3 => ?_
     simp only [zzK, QR, QP, QQ, JC, JW, zz23, zz24, F_sl30, F_sz3, QA, zzC, yyE, Qe, F_ok3, F_ag3, zz8, zzD, QS, QN, zzH, JB, ints, gx, bx, hwx, JN, ge0, QV, QW, zz6, QO, ↓Qb]
     refine kK hK3 [0, 7, 10, 11, 12, 13, 14, 46, 47, 48] ?_
     refine pq fun K3 hK3 => ?_
     simp only [zzK, QR, QP, QQ, JC, zz27, JM, F_cv3_94, F_cvV94, JE, JF, zz14, zzD, QS, QN, zzF, JB, ht64, hx64, zz6, QO, ↓Qb]
     refine cgA F_go101 (fun hG => Mul64_ t (x.toNat : Int) (by omega) (by omega) (by omega) (by omega)) ?_
     simp only [zzK, QR, QP, QQ, JC, zz27, JM, F_cv3_94, F_cvV94, JE, JF, zz14, zzD, QS, QN, zzF, JB, ht64, hx64, zz6, QO, ↓Qb, atsL, oksG, JV, QZ, Qa, JO, Qm, QT, QS, zz9, QB, QA, zzC, yyF, QF, zz2]
     simp only [hhi, hlo]
     refine kK hK3 [0, 7, 10, 11, 12, 13, 15, 16, 46, 47, 48] ?_
     refine pq fun K3 hK3 => ?_
     simp only [zzK, QR, QP, QQ, JC, F_zero138, F_bld138, zz7, splice, Option.getD_some, QG, zz1, zzG, zzD, zzC, QA, yyE, Qe, QS, QN, zzH, zz10, F_fld138_0, F_fld138_1, F_ok138, F_ag138, F_sz138, zz8, zz23, JE, JF, zz14, zz32, JS, JB, zz18, gC, gA, uw, QW, zz6, QO, ↓Qb]
     refine call_go F_go102 (fun hG => gQuo_ (t.toNat * x.toNat) (sN l) hTx hS (by omega)) (by simp [QY, QX, gA]) (by simp) ?_
     simp only [zzK, QR, QP, QQ, JC, F_zero138, F_bld138, zz7, splice, Option.getD_some, QG, zz1, zzG, zzD, zzC, QA, yyE, Qe, QS, QN, zzH, zz10, F_fld138_0, F_fld138_1, F_ok138, F_ag138, F_sz138, zz8, zz23, JE, JF, zz14, zz32, JS, JB, zz18, gC, gA, uw, QW, zz6, QO, ↓Qb, atsL, oksG, JV, QZ, Qa, JO, Qm, QT, QS, zz9, QB, QA, S_mem, yyF, QF, zz2]
     simp only [gA, uw, hqm]
     refine kK hK3 [0, 7, 10, 11, 12, 13, 17, 18, 46, 47, 48] ?_
     refine pq fun K3 hK3 => ?_
     simp only [zzK, QR, QP, QQ, JC, zz27, JM, F_cv94_3, F_cvV3, F_sl30, F_zero3, F_sz3, zz3, JS, zz1, zzG, zzD, zzC, QA, yyE, Qe, QS, QN, zzH, maxLen_le, QT, JE, F_by3, zz4, zz9, QB, JB, grow, unDs_map, hq64, zz6, QO, ↓Qb]
     have hm : (qsV t.toNat (sN l) pre).length + 1 ≤ 1000000 := by first | omega | (simp; omega)
     first | refine ⟨le_maxLen hm, by omega, ?_⟩ | refine ⟨by simp, le_maxLen hm, by omega, ?_⟩
     clear hm
     refine kK hK3 [0, 7, 10, 11, 12, 13, 17, 18, 46, 47, 48] ?_
     refine pq fun K3 hK3 => ?_
     simp only [zzK, QR, QP, QQ, JC, F_ok138, F_ag138, F_sz138, zz8, zz23, zzD, QS, QN, zzH, zzC, QA, yyE, Qe, F_zero145, F_bld145, zz7, splice, Option.getD_some, QG, zz1, zzG, zz10, F_fld145_0, F_fld145_1, F_sl140, F_sz145, zz3, JS, maxLen_le, QT, JE, F_by145, zz4, zz9, QB, JB, grow, unDs_map, zz6, QO, ↓Qb]
     have hm : (rsV t.toNat (sN l) pre).length + 1 ≤ 1000000 := by first | omega | (simp; omega)
     first | refine ⟨le_maxLen hm, by omega, ?_⟩ | refine ⟨by simp, le_maxLen hm, by omega, ?_⟩
     clear hm
     refine kK hK3 [0, 7, 10, 11, 12, 17, 46, 47, 48] ?_
     refine pz ?_
     simp only [zzK, QR, QP, QQ, JC, zz27, JM, F_cv94_3, F_cvV3, zz21, zz33, JB, hq64, hlv, zz6, QO, ↓Qb]
     refine kK hK2 [0, 7, 10, 11, 12, 46, 47, 48] ?_
     refine pz ?_
     simp only [zzK, QR, QP, QQ, zz21, JM, zz26, JC, hwx, zz6, QO, ↓Qb]
     refine ⟨post2.length, _, by simp, leK (fun r => bif r == 11 then 79 else bif r == 10 then 73 else r) [] (hl := by simp only [leV, JD, QQ, Qd, Qc, hwx, hlv]; exact ⟨vA, vA, (Qr (by simp) (by rfl) (by rw [qsV_snoc]; simp)), (Qr (by simp) (by rfl) (by rw [rsV_snoc]; simp)), vA, vA, vA, vA, trivial⟩) (hr := by exact ⟨fun _ => ⟨_, rfl, rA⟩, (by simp), fun _ => ⟨_, rfl, Qw (by rw [qsV_snoc]; simp)⟩, (by simp), fun _ => ⟨_, rfl, Qw (by rw [rsV_snoc]; simp only [List.map_append, QD, QE, restC, uw])⟩, (by simp), trivial⟩), (pre ++ [x]), post2, by simp [hsp], rfl, rfl⟩
    ·intro hb
     obtain rfl : post = [] := by
      cases post with
      | nil => rfl
      | cons x t => have := Qf hb; simp at hspl; omega
     clear hb
     simp only [QG] at hsp
     subst hsp
     have hql := qsV_len t.toNat (sN l) l
     have hrl := rsV_len t.toNat (sN l) l
     have hOl := ordR_len t.toNat (sN l) l
     have hLb := left_bnd (T := t.toNat) hS
     refine awp_le (leK id [] (l' := [(10, .ref 10 (qsV t.toNat (sN l) l).length), (11, .ref 11 (rsV t.toNat (sN l) l).length), (12, .d (iv (leftV t.toNat (sN l) l)))]) (m' := [(10, (⟨True, 3, 1, true, true, 10, ((qsV t.toNat (sN l) l).map fun n => [iv n]).map (·.map .d)⟩ : ARow)), (11, (⟨True, 145, 3, true, true, 11, ((rsV t.toNat (sN l) l).map restC).map (·.map .d)⟩ : ARow))]) (hr := by exact ⟨fun _ => ⟨_, rfl, (by exact RowLe.uq_ (by rfl) rfl ids_data)⟩, (by simp), fun _ => ⟨_, rfl, (by exact RowLe.uq_ (by rfl) rfl ids_data)⟩, (by simp), trivial⟩)) ?_
     refine JK ?_
     simp only [zz6, QO, ↓Qb]
     refine kK hK0 [10, 11, 12] ?_
     refine JA fun K0 hK0 => ?_
     refine awp_mut [some 85, some 86] rfl 1 rfl ?_
     simp only [zzK, QR, QP, QQ, JC, JE, JF, grow, JN, zzB, zz6, QO, ↓Qb]
     refine mut_go [11] F_go103 (restSortC t.toNat (sN l) l hl) (by simp [QY, QX, gA]) (by decide) (by first | exact ⟨by decide, by simp⟩ | rfl) ?_
     simp only [zzK, QR, QP, QQ, JC, JE, JF, grow, JN, zzB, zz6, QO, ↓Qb, mArgs_nil, asE_cl, asF_cl, asD_ptr, asG_ptr, asD_ep, asG_ep, List.mem_singleton, forall_eq, asEc_cons, asEc_nil, mArgs_d, mArgs_m, mRows_nil, mRows_cons, mNewL, nxM, mBase, mName, oksL, List.getElem?_cons_zero, List.getElem?_cons_succ, zzF, asE_ag, asE_d, asE_ref, asEc_cons, asEc_nil, asF_d, asF_ref, asF_ag, asGs, QY, QX, QM, List.not_mem_nil, false_implies, forall_const, atsL, asD_self, asD_nil, asD_sl, asD_agg, asD_int, asD_bool, asD_func, asD_ag, asD_ref, asG_d, asG_ag, asG_ref, JV, QZ, Qa, JO, Qm, QT, QS, zz9, QB, QA, zzC, yyF, zzD, S_func, Sk_func]
     refine ⟨fun x hx => restFlat _ x hx, ?_⟩
     refine kK hK0 [10, 11, 12] ?_
     refine JA fun K0 hK0 => ?_
     refine pq fun K1 hK1 => ?_
     simp only [zzK, QR, QP, QQ, JC, zz6, QO, ↓Qb]
     refine kK hK1 [10, 11, 87, 88] ?_
     refine JH ?_
     refine JL (fun m s => ∃ (A : List RestV) (B : List RestV), (ordR t.toNat (sN l) l = A ++ B) ∧ ((A.length : Int) ≤ leftV t.toNat (sN l) l) ∧ m = B.length ∧ s = S 103 [(10, .ref 10 (bumpV (qsV t.toNat (sN l) l) (A.map RestV.at_)).length), (11, .ref 11 (ordR t.toNat (sN l) l).length), (87, .d (iv (leftV t.toNat (sN l) l))), (88, .d (iv A.length))] [(10, (⟨True, 3, 1, true, true, 10, ((bumpV (qsV t.toNat (sN l) l) (A.map RestV.at_)).map fun n => [iv n]).map (·.map .d)⟩ : ARow)), (11, (⟨True, 145, 3, true, true, 11, ((ordR t.toNat (sN l) l).map restC).map (·.map .d)⟩ : ARow))]) ((ordR t.toNat (sN l) l).length) _ (leK id [] (hl := by simp only [leV, JD, QQ, Qd, Qc]; exact ⟨(Qr (by simp) (by rfl) (by rfl)), (Qr (by simp) (by rfl) (by rw [ordR_len, rsV_len])), vA, vA, trivial⟩)) ⟨[], (ordR t.toNat (sN l) l), rfl, by simp; omega, rfl, rfl⟩ ?_
     rintro m s ⟨A, B, hAB, hAL, rfl, rfl⟩
     have hABl := congrArg List.length hAB
     simp only [QC] at hABl
     refine pq fun K2 hK2 => ?_
     simp only [zzK, QR, QP, QQ, zz21, JM, zz22, zz6, QO, ↓Qb]
     refine kK hK2 [10, 11, 87, 88, 89] ?_
     refine JA fun K2 hK2 => ?_
     refine cnA ?_ ?_
     ·intro hb
      obtain ⟨y, B2, rfl⟩ : ∃ y t, B = y :: t := by
       cases B with
       | nil => have := Qg hb; simp at hABl; omega
       | cons y t => exact ⟨y, t, rfl⟩
      have hcL := Qg hb
      clear hb
      simp only [QF] at hABl
      obtain ⟨hy1, hy2, hy3⟩ := ord_mid (by omega) hAB
      have hwy : Ql .i64 ((A.length : Int) + 1) = ((A ++ [y]).length : Int) := by rw [wrapI (by omega) (by omega)]; simp
      have gy : (((ordR t.toNat (sN l) l).map restC).map fun x => x.map AV.d).getD A.length [] = [.d (uw (y.r / 18446744073709551616)), .d (uw (y.r % 18446744073709551616)), .d (iv (y.at_ : Int))] := by
       rw [hAB]; simp [List.getD, restC]
      have by1 := ltI (show A.length < (ordR t.toNat (sN l) l).length by omega)
      have hbl : (bumpV (qsV t.toNat (sN l) l) (A.map RestV.at_)).length = l.length := by rw [bumpV_len, qsV_len]
      have by2 := ltI (show y.at_ < (bumpV (qsV t.toNat (sN l) l) (A.map RestV.at_)).length by omega)
      have cy1 := eq_true (show A.length < (ordR t.toNat (sN l) l).length by omega)
      have cy2 := eq_true (show y.at_ < (bumpV (qsV t.toNat (sN l) l) (A.map RestV.at_)).length by omega)
      have hw1 : Ql .i64 ((bumpV (qsV t.toNat (sN l) l) (A.map RestV.at_)).getD y.at_ 0 + 1) = (bumpV (qsV t.toNat (sN l) l) (A.map RestV.at_)).getD y.at_ 0 + 1 := wrapI (by omega) (by omega)
      have gz : (((bumpV (qsV t.toNat (sN l) l) (A.map RestV.at_)).map fun n => [iv n]).map fun x => x.map AV.d).getD y.at_ [] = [.d (iv ((bumpV (qsV t.toNat (sN l) l) (A.map RestV.at_)).getD y.at_ 0))] := oneI_get (by omega)
      have hst : (((bumpV (qsV t.toNat (sN l) l) (A.map RestV.at_)).map fun n => [iv n]).map fun x => x.map AV.d).set y.at_ [.d (iv ((bumpV (qsV t.toNat (sN l) l) (A.map RestV.at_)).getD y.at_ 0 + 1))] = (((bumpV (qsV t.toNat (sN l) l) ((A ++ [y]).map RestV.at_)).map fun n => [iv n]).map fun x => x.map AV.d) := by
       rw [List.map_append, QD, QE, bumpV_snoc]; exact oneI_set _ _
      refine JI ?_
      simp only [zz6, QO, ↓Qb]
      refine kK hK2 [10, 11, 87, 88] ?_
      refine JA fun K2 hK2 => ?_
      refine JH ?_
      refine pq fun K3 hK3 => ?_
      simp only [zzK, QR, QP, QQ, JC, JB, zz6, QO, ↓Qb]
      refine kK hK3 [10, 11, 19, 87, 88] ?_
      refine pz ?_
      simp only [zzK, QR, QP, QQ, JC, JW, zz23, zz24, F_sl140, F_sz145, QA, zzC, yyE, Qe, zz19, F_off145_1, zzH, QN, QS, F_ok3, F_ag3, F_sz3, zz8, zzD, F_sl30, zz21, JM, zz26, zz18, splice, QG, zz1, zzG, gy, by1, by2, cy1, cy2, gz, hw1, hst, ge0, QV, JN, QW, zz6, QO, ↓Qb]
      refine kK hK2 [10, 11, 87, 88] ?_
      refine pz ?_
      simp only [zzK, QR, QP, QQ, zz21, JM, zz26, JC, hwy, zz6, QO, ↓Qb]
      refine ⟨B2.length, _, by simp, leK id [] (hl := by simp only [leV, JD, QQ, Qd, Qc, hwy]; exact ⟨(Qr (by simp) (by rfl) (by simp [bumpV_len])), vA, vA, vA, trivial⟩), (A ++ [y]), B2, by simp [hAB], by simp; omega, rfl, rfl⟩
     ·intro hb
      have hA : A = (ordR t.toNat (sN l) l).take (leftV t.toNat (sN l) l).toNat := by
       have := Qf hb
       rw [hAB, List.take_append_of_le_length (by omega), List.take_of_length_le (by omega)]
      clear hb
      refine JK ?_
      simp only [zz6, QO, ↓Qb]
      refine kK hK0 [10] ?_
      refine pq fun K0 hK0 => ?_
      simp only [zzK, QR, QP, QQ, JC, JB, zz6, QO, ↓Qb]
      refine kK hK0 [4, 5] ?_
      refine JJ ?_
      simp only [zz6, QO, ↓Qb]
      rw [show splitV t l = bumpV (qsV t.toNat (sN l) l) (A.map RestV.at_) by rw [splitV_prt hs hS, prt, atK, ← hA], splitE_prt hs hS]
      refine done1 10 (by simp only [resCs, resC]; trivial) ?_ (by simp [Ja, Jb, Jc]) (by simp [QY, QX]) (by rfl) trivial rfl rfl ?_ (by simp [flatDs, Jc])
      ·simp only [QD, QE, resA, JZ, QR, QP, JD, QQ, Qd, Qc, JP]; rfl
      ·rfl
end Go.Proofs.YtjkfadaedgidpaaGreat
