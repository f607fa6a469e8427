import Derived.Test.YtopifbpibkpmmaaWpH
namespace Go.Proofs.Ytopifbpibkpmmaa
open Go.RowKit
set_option linter.unusedVariables false
set_option linter.unusedSimpArgs false
open Option renaming map_some → QA, bind_some → QB
open List renaming length_append → QC, map_cons → QD, map_nil → QE, length_cons → QF, append_nil → QG, drop_zero → QH, getD_cons_zero → QI, getD_cons_succ → QJ, take_succ_cons → QK, drop_succ_cons → QL
open Nat renaming zero_add → QN, reduceEqDiff → QO, reduceLeDiff → QP, reduceBEq → QQ, reduceLT → QR, reduceAdd → QS, reduceMul → QT, reduceSub → QU
open Int renaming toNat_natCast → QV
open D.agg renaming injEq → QW
open AV renaming idsL → QX, ids → QY, ren → QZ, renL → Qa
open _root_ renaming reduceIte → Qb, cond_false → Qc, cond_true → Qd, reduceCtorEq → Qe, of_decide_eq_false → Qf, of_decide_eq_true → Qg, imp_self → Qh, imp_and → Qi, and_imp → Qj
open IntKind renaming wrap → Ql
open ORow renaming row → Qm
open VLe renaming refl → Qn, still → Qo, nild_ → Qp, nil_ → Qq, refE → Qr, ptrE → Qs, dE → Qt
open RowLe renaming same → Qu, still → Qv, data_ → Qw, uq2 → Qx
open Go.Proofs.Ytopifbpibkpmmaa renaming awp_plain → Qz, awp_seq → JA, evS_assign → JB, evS_move → JC, look_cons → JD, evS_call → JE, evC_value → JF, awp_block → JH, awp_skip → JI, awp_ret → JJ, awp_exit → JK, awp_loop → JL, gr_v → JM, len_map → JN, addRows → JO, resAll → JP, pickK_l → JQ, pickK_r → JR, newRow1 → JS, call_go → JT, freeN → JV, evS_indexAddr → JW, S_getD → JZ, flatA → Ja, flatAs → Jb, flatD → Jc
theorem F_ag77 : aggT Try.prog 77 = true := by kernel_rfl
theorem F_sz77 : szT Try.prog 77 = 2 := by kernel_rfl
theorem F_ok77 : tyOk Try.prog 77 = true := by kernel_rfl
theorem F_zero77 : zeroT Try.prog 77 = some [(.int .i64 0), (.int .u64 0)] := by kernel_rfl
theorem F_bld77 : bldT Try.prog 77 = true := by kernel_rfl
theorem F_fld77_0 : fldT Try.prog 77 0 = some (0, 1) := by kernel_rfl
theorem F_fld77_1 : fldT Try.prog 77 1 = some (1, 1) := by kernel_rfl
theorem F_sl122 : sliceT Try.prog 122 = some 77 := by kernel_rfl
theorem F_off77_1 : offT Try.prog 77 1 = some 1 := by kernel_rfl
theorem F_ok75 : tyOk Try.prog 75 = true := by kernel_rfl
theorem F_ag75 : aggT Try.prog 75 = false := by kernel_rfl
theorem F_sz75 : szT Try.prog 75 = 1 := by kernel_rfl
theorem F_off77_0 : offT Try.prog 77 0 = some 0 := by kernel_rfl
theorem F_eqi77 (a0 b0 : Int) (a1 b1 : Int) (w : World) : (Op.equalIn 10000 77 (.agg #[.int .i64 a0, .int .u64 a1]) (.agg #[.int .i64 b0, .int .u64 b1])).run Try.prog w = .ok (veqL [.int .i64 a0, .int .u64 a1] [.int .i64 b0, .int .u64 b1]) w := by
 have u3 := Try.underlying3
 have g3 := Try.isAgg3
 have z3 := Try.sizeOf3
 have u75 := Try.underlying75
 have g75 := Try.isAgg75
 have z75 := Try.sizeOf75
 have hS : Try.prog.underlying 77 = some (.struct (Try.prog.fieldsOf 77)) := by kernel_rfl
 have hp : Try.prog.stoodInHeld 77 = false := by kernel_rfl
 rw [show (10000 : Nat) = 9999 + 1 from rfl, run_equalIn_agg w 9999 77 _ _ hS hp]
 simp only [Program.fieldsOf, Try.underlying77]
 go_simp
 by_cases h0 : a0 = b0 <;> by_cases h1 : a1 = b1 <;> simp [veqL, veq, h0, h1]
theorem F_neq77 (a0 b0 : Int) (a1 b1 : Int) (x y : Operand) : pureBin Try.prog .neq 77 x y (.agg #[.int .i64 a0, .int .u64 a1]) (.agg #[.int .i64 b0, .int .u64 b1]) = True := by
 have hm : Try.prog.eqGuardType Try.prog.depth 77 = false := by kernel_rfl
 simp only [pureBin, Pure, eq_iff_iff, iff_true]
 intro w
 simp only [Sem.run_bind, run_eqGuard_agg w .neq 77 x y _ _ hm, Result.andThen_ok, run_neq_struct, F_eqi77, binV]
theorem F_go72 : goFn Try.prog 72 := ⟨_, Try.func72, rfl, rfl⟩
theorem F_go44 : goFn Try.prog 44 := ⟨_, Try.func44, rfl, rfl⟩
theorem F_by77 : byT Try.prog 77 = 16 := by kernel_rfl
theorem F_go73 : goFn Try.prog 73 := ⟨_, Try.func73, rfl, rfl⟩
theorem F_go53 : goFn Try.prog 53 := ⟨_, Try.func53, rfl, rfl⟩
theorem F_go47 : goFn Try.prog 47 := ⟨_, Try.func47, rfl, rfl⟩
theorem F_go71 : goFn Try.prog 71 := ⟨_, Try.func71, rfl, rfl⟩
theorem F_go90 : goFn Try.prog 90 := ⟨_, Try.func90, rfl, rfl⟩
theorem F_go43 : goFn Try.prog 43 := ⟨_, Try.func43, rfl, rfl⟩
theorem F_go69 : goFn Try.prog 69 := ⟨_, Try.func69, rfl, rfl⟩
theorem F_go45 : goFn Try.prog 45 := ⟨_, Try.func45, rfl, rfl⟩
theorem F_go70 : goFn Try.prog 70 := ⟨_, Try.func70, rfl, rfl⟩
theorem F_go42 : goFn Try.prog 42 := ⟨_, Try.func42, rfl, rfl⟩
theorem F_go46 : goFn Try.prog 46 := ⟨_, Try.func46, rfl, rfl⟩
theorem F_go23 : goFn Try.prog 23 := ⟨_, Try.func23, rfl, rfl⟩
theorem rRight_ (n : Int) : ACalls Try.prog 44 [iv n] [] (bv (rightN n)) := by
 refine acalls_S (rs := [.tmp 2]) Try.func44 rfl rfl 9 [(0, .d (iv n))] rfl (by simp) rfl ?_
 refine JA fun K0 hK0 => ?_
 refine Qz F_mixed [some 2] rfl ?_
 simp only [zzK, QR, QP, QQ, JB, zz6, QO, ↓Qb]
 refine hK0 _ ?_; try clear hK0 K0
 refine kpA [0] ?_
 refine JA fun K0 hK0 => ?_
 refine Qz F_mixed [some 3, some 4, some 5, some 6, some 7, some 8, some 2] rfl ?_
 simp only [zzK, QR, QP, QQ, QU, JZ, zz5, Qj, Qi, Qh, and_self, JC, zz21, JM, zz31, b_leq, pure_leq, zz13, JQ, JR, JB, zz6, QO, ↓Qb]
 refine hK0 _ ?_; try clear hK0 K0
 refine kpA [2] ?_
 refine JJ ?_
 simp only [zz6, QO, ↓Qb]
 refine dnA ?_
 simp only [QD, QE, resA, JZ, QR, QP, JD, QQ, Qd, Qc, JP]
 have h : (decide (n ≥ -4611686018427387904) && decide (n ≤ 4611686018427387904)) = rightN n := by
  rw [Bool.eq_iff_iff]; simp [rightN]
 rw [h]
theorem Of_ (n : Int) (h0 : -9223372036854775808 ≤ n) (h1 : n < 9223372036854775808) : ACalls Try.prog 72 [iv n] [] (wideA n) := by
 refine acalls_S (rs := [.cell 2 77]) Try.func72 rfl rfl 11 [(0, .d (iv n))] rfl (by simp) rfl ?_
 refine JA fun K0 hK0 => ?_
 refine Qz F_mixed [some 2] rfl ?_
 simp only [zzK, QR, QP, QQ, zz32, JS, F_zero77, zzC, QA, yyE, Qe, zzD, QS, QN, zzH, zz10, zz6, QO, ↓Qb]
 refine hK0 _ ?_; try clear hK0 K0
 refine kpA [0, 2] ?_
 refine JA fun K0 hK0 => ?_
 refine JA fun K1 hK1 => ?_
 refine Qz F_mixed [some 3, some 4] rfl ?_
 simp only [zzK, QR, QP, QQ, JC, zz21, JM, zz22, zz6, QO, ↓Qb]
 refine hK1 _ ?_; try clear hK1 K1
 refine kpA [0, 2, 4] ?_
 refine cnA ?_ ?_
 ·intro hb
  simp only [decide_eq_true_eq] at hb
  refine JA fun K2 hK2 => ?_
  refine Qz F_mixed [some 5, some 6, some 7, none] rfl ?_
  simp only [zzK, QR, QP, QQ, JC, zz27, JM, F_cv3_75, F_cvV75, F_zero77, F_bld77, zz7, splice, Option.getD_some, QG, zz1, zzG, zzD, zzC, QA, yyE, Qe, QS, QN, zzH, zz10, F_fld77_0, F_fld77_1, zz18, F_ok77, F_sz77, zz6, QO, ↓Qb]
  refine hK2 _ ?_; try clear hK2 K2
  refine kpA [2] ?_
  refine JJ ?_
  simp only [zz6, QO, ↓Qb]
  refine done0 (by simp [resCs, resC, S, List.getD, JD, lookR, F_ag77, F_sz77, F_ok77]) ?_ (by simp [Ja, Jb, Jc, wideA]) (by simp [QY, QX, wideA])
  simp only [QD, QE, resA, JZ, S_mem, lookR_cons, lookR_nil, QR, QP, JD, QQ, Qd, Qc, JP, QI, QJ, QH, QL, QK, List.take_zero, F_ag77, F_sz77, F_ok77]
  rw [wide_neg h0 hb]
 ·intro hb
  simp only [decide_eq_false_iff_not, Int.not_lt] at hb
  refine JI ?_
  simp only [zz6, QO, ↓Qb]
  refine hK0 _ ?_; try clear hK0 K0
  refine kpA [0, 2] ?_
  refine JA fun K0 hK0 => ?_
  refine Qz F_mixed [some 8, some 9, some 10, none] rfl ?_
  simp only [zzK, QR, QP, QQ, JC, zz27, JM, F_cv3_75, F_cvV75, F_zero77, F_bld77, zz7, splice, Option.getD_some, QG, zz1, zzG, zzD, zzC, QA, yyE, Qe, QS, QN, zzH, zz10, F_fld77_1, zz18, F_ok77, F_sz77, zz6, QO, ↓Qb]
  refine hK0 _ ?_; try clear hK0 K0
  refine kpA [2] ?_
  refine JJ ?_
  simp only [zz6, QO, ↓Qb]
  refine done0 (by simp [resCs, resC, S, List.getD, JD, lookR, F_ag77, F_sz77, F_ok77]) ?_ (by simp [Ja, Jb, Jc, wideA]) (by simp [QY, QX, wideA])
  simp only [QD, QE, resA, JZ, S_mem, lookR_cons, lookR_nil, QR, QP, JD, QQ, Qd, Qc, JP, QI, QJ, QH, QL, QK, List.take_zero, F_ag77, F_sz77, F_ok77]
  rw [wide_pos h1 hb]
set_option maxRecDepth 100000 in
set_option maxHeartbeats 4000000 in
theorem WSum_ (l : List Int) (hl : l.length ≤ 1000000) (hall : ∀ x ∈ l, -170141183460469231731687303715884105728 ≤ x ∧ x < 170141183460469231731687303715884105728) : ACalls Try.prog 73 [wides l] [] (.tp [wideA (bif fitsW l.sum then l.sum else 0), bv (fitsW l.sum)]) := by
 refine acalls_S (rs := [.cell 2 77, .tmp 3]) Try.func73 rfl rfl 75 [(0, .d (wides l))] rfl (by simp) rfl ?_
 refine JA fun K0 hK0 => ?_
 refine Qz F_mixed [some 2, some 3] rfl ?_
 simp only [zzK, QR, QP, QQ, zz32, JS, F_zero77, zzC, QA, yyE, Qe, zzD, QS, QN, zzH, zz10, JB, zz6, QO, ↓Qb]
 refine hK0 _ ?_; try clear hK0 K0
 refine kpA [0, 2] ?_
 refine JA fun K0 hK0 => ?_
 refine Qz F_mixed [some 4] rfl ?_
 simp only [zzK, QR, QP, QQ, JB, zz6, QO, ↓Qb]
 refine hK0 _ ?_; try clear hK0 K0
 refine kpA [0, 2, 4] ?_
 refine JA fun K0 hK0 => ?_
 refine Qz F_mixed [some 5, some 6] rfl ?_
 simp only [zzK, QR, QP, QQ, JB, zz6, QO, ↓Qb]
 refine hK0 _ ?_; try clear hK0 K0
 refine kpA [0, 2, 4, 5, 6] ?_
 refine JA fun K0 hK0 => ?_
 refine JA fun K1 hK1 => ?_
 refine Qz F_mixed [some 7] rfl ?_
 simp only [zzK, QR, QP, QQ, JB, zz6, QO, ↓Qb]
 refine hK1 _ ?_; try clear hK1 K1
 refine kpA [0, 2, 4, 5, 6, 7] ?_
 refine JH ?_
 refine JL (fun m s => ∃ pre post : List Int, l = pre ++ post ∧ m = post.length ∧ s = S 75 [(0, .d (wides l)), (2, .ptr 2 0 0), (4, .d (iv (topN pre.sum))), (5, .d (.v (.int .u64 (hiN pre.sum)))), (6, .d (.v (.int .u64 (loN pre.sum)))), (7, .d (iv pre.length))] [(2, (⟨True, 77, 2, true, false, 2, [[.d (.v (.int .i64 0)), .d (.v (.int .u64 0))]]⟩ : ARow))]) l.length _ (le_SK id [] rfl (l' := [(0, .d (wides l)), (2, .ptr 2 0 0), (4, .d (iv (topN ([] : List Int).sum))), (5, .d (.v (.int .u64 (hiN ([] : List Int).sum)))), (6, .d (.v (.int .u64 (loN ([] : List Int).sum)))), (7, .d (iv ([] : List Int).length))]) (m' := [(2, (⟨True, 77, 2, true, false, 2, [[.d (.v (.int .i64 0)), .d (.v (.int .u64 0))]]⟩ : ARow))]) ?_ ?_ ?_ ?_) ⟨[], l, rfl, rfl, rfl⟩ ?_
 ·simp only [leV, JD, QQ, Qd, Qc, List.sum_nil]; exact ⟨Qn _, Qn _, Qn _, Qn _, Qn _, Qn _, trivial⟩
 ·exact ⟨fun _ => ⟨_, rfl, ⟨id, rfl, rfl, fun _ => rfl, id, .inl, VLess.refl _⟩⟩, fun h => by simp at h, trivial⟩
 ·simp [wfV, QY, lookR]
 ·simp [wfR, QX, QY]
 rintro m s ⟨pre, post, rfl, rfl, rfl⟩
 refine JA fun K2 hK2 => ?_
 refine JA fun K3 hK3 => ?_
 refine Qz F_mixed [some 13, some 14, some 15, some 16] rfl ?_
 simp only [zzK, QR, QP, QQ, JC, JE, zz12, F_sl122, Option.isSome_some, zz21, JM, zz22, wides, JN, zz6, QO, ↓Qb]
 refine hK3 _ ?_; try clear hK3 K3
 refine kpA [0, 2, 4, 5, 6, 7, 16] ?_
 refine cnA ?_ ?_
 ·intro hb
  obtain ⟨x, post, rfl⟩ := more_of hb; clear hb
  have hx := hall x (by simp)
  have hs := wsum_bound (l := pre) (fun y hy => hall y (by simp [hy])) (by simp at hl; omega)
  refine JI ?_
  simp only [zz6, QO, ↓Qb]
  refine hK2 _ ?_; try clear hK2 K2
  refine kpA [0, 2, 4, 5, 6, 7] ?_
  refine JA fun K2 hK2 => ?_
  refine JH ?_
  refine JA fun K3 hK3 => ?_
  refine Qz F_mixed [some 20, some 21, some 22, some 23, some 24, some 25, some 26, some 19, some 27, some 28, some 8, some 9] rfl ?_
  simp only [zzK, QR, QP, QQ, JC, JW, zz23, zz24, F_sl122, F_sz77, QA, zzC, yyE, Qe, zz19, F_off77_1, zzH, QN, QS, F_ok75, F_ag75, F_sz75, zz8, zzD, JE, JF, zz14, JB, wides, wideC, getD_mid, JN, lt_mid, ge_mid, zz6, QO, ↓Qb]
  refine call_ext _ _ (add64 (loN pre.sum) (x % 18446744073709551616) 0 (lo_nn _) (by omega) (by decide) (by decide)) ?_
  simp only [zzK, QR, QP, QQ, JC, JW, zz23, zz24, F_sl122, F_sz77, QA, zzC, yyE, Qe, zz19, F_off77_1, zzH, QN, QS, F_ok75, F_ag75, F_sz75, zz8, zzD, JE, JF, zz14, JB, wides, wideC, getD_mid, JN, lt_mid, ge_mid, zz6, QO, ↓Qb, grsL, JM, QB, QA, oksL, ofV_pair, ofV_int, ofV_bool]
  refine hK3 _ ?_; try clear hK3 K3
  refine kpA [0, 2, 4, 5, 7, 8, 9] ?_
  refine JA fun K3 hK3 => ?_
  refine Qz F_mixed [some 30, some 31, some 32, some 33, some 34, some 35, some 36, some 37, some 38, some 29, some 39, some 40, some 10, some 11] rfl ?_
  simp only [zzK, QR, QP, QQ, JC, JW, zz23, zz24, F_sl122, F_sz77, QA, zzC, yyE, Qe, zz19, F_off77_0, zzH, QN, QS, F_ok3, F_ag3, F_sz3, zz8, zzD, zz27, JM, F_cv3_75, F_cvV75, JE, JF, zz14, JB, wides, wideC, getD_mid, JN, lt_mid, ge_mid, zz6, QO, ↓Qb]
  refine call_ext _ _ (add64 (hiN pre.sum) (Ql .u64 (x / 18446744073709551616)) ((loN pre.sum + x % 18446744073709551616 + 0) / 18446744073709551616) (hi_nn _) (wu_nn _) (wcarry0 _ _) (wcarry1 _ _)) ?_
  simp only [zzK, QR, QP, QQ, JC, JW, zz23, zz24, F_sl122, F_sz77, QA, zzC, yyE, Qe, zz19, F_off77_0, zzH, QN, QS, F_ok3, F_ag3, F_sz3, zz8, zzD, zz27, JM, F_cv3_75, F_cvV75, JE, JF, zz14, JB, wides, wideC, getD_mid, JN, lt_mid, ge_mid, zz6, QO, ↓Qb, grsL, JM, QB, QA, oksL, ofV_pair, ofV_int, ofV_bool]
  refine hK3 _ ?_; try clear hK3 K3
  refine kpA [0, 2, 4, 7, 8, 10, 11] ?_
  refine JA fun K3 hK3 => ?_
  refine Qz F_mixed [some 41, some 42, some 6, some 5] rfl ?_
  simp only [zzK, QR, QP, QQ, JC, JB, zz6, QO, ↓Qb]
  refine hK3 _ ?_; try clear hK3 K3
  refine kpA [0, 2, 4, 5, 6, 7, 11] ?_
  refine JA fun K3 hK3 => ?_
  refine Qz F_mixed [some 43, some 44, some 45, some 46, some 4] rfl ?_
  simp only [zzK, QR, QP, QQ, JC, zz27, JM, F_cv75_3, F_cvV3, zz21, zz26, JB, zz6, QO, ↓Qb]
  refine hK3 _ ?_; try clear hK3 K3
  refine kpA [0, 2, 4, 5, 6, 7] ?_
  refine JA fun K3 hK3 => ?_
  refine Qz F_mixed [some 47, some 48, some 49, some 50, some 51, some 52] rfl ?_
  simp only [zzK, QR, QP, QQ, JC, JW, zz23, zz24, F_sl122, F_sz77, QA, zzC, yyE, Qe, zz19, F_off77_0, zzH, QN, QS, F_ok3, F_ag3, F_sz3, zz8, zzD, zz21, JM, zz22, wides, wideC, getD_mid, JN, lt_mid, ge_mid, zz6, QO, ↓Qb]
  refine hK3 _ ?_; try clear hK3 K3
  refine kpA [0, 2, 4, 5, 6, 7, 52] ?_
  refine cnA ?_ ?_
  ·intro hb
   refine Qz F_mixed [some 53, some 54, some 4] rfl ?_
   simp only [zzK, QR, QP, QQ, JC, zz21, JM, zz33, JB, zz6, QO, ↓Qb]
   refine hK2 _ ?_; try clear hK2 K2
   refine kpA [0, 2, 4, 5, 6, 7] ?_
   refine Qz F_mixed [some 17, some 18, some 7] rfl ?_
   simp only [zzK, QR, QP, QQ, JC, zz21, JM, zz26, JB, zz6, QO, ↓Qb]
   refine ⟨post.length, _, by simp, le_SK id [] rfl (l' := [(0, .d (wides (pre ++ x :: post))), (2, .ptr 2 0 0), (4, .d (iv (topN (pre ++ [x]).sum))), (5, .d (.v (.int .u64 (hiN (pre ++ [x]).sum)))), (6, .d (.v (.int .u64 (loN (pre ++ [x]).sum)))), (7, .d (iv (pre ++ [x]).length))]) (m' := [(2, (⟨True, 77, 2, true, false, 2, [[.d (.v (.int .i64 0)), .d (.v (.int .u64 0))]]⟩ : ARow))]) ?_ ?_ ?_ ?_, pre ++ [x], post, by simp, rfl, rfl⟩
   ·simp only [leV, JD, QQ, Qd, Qc, wides, wrap_len pre x (by simp at hl; omega), sum_snoc]
    refine ⟨Qn _, Qn _, ?_, ?_, ?_, Qn _, trivial⟩
    ·(first | rw [wsum_topA hs.1 hs.2 hx.1 hx.2 hb] | rw [wsum_topB hs.1 hs.2 hx.1 hx.2 hb]); exact Qn _
    ·rw [wsum_hi]; exact Qn _
    ·rw [wsum_lo]; exact Qn _
   ·exact ⟨fun _ => ⟨_, rfl, ⟨id, rfl, rfl, fun _ => rfl, id, .inl, VLess.refl _⟩⟩, fun h => by simp at h, trivial⟩
   ·simp [wfV, QY, lookR]
   ·simp [wfR, QX, QY]
  ·intro hb
   refine JI ?_
   simp only [zz6, QO, ↓Qb]
   refine hK2 _ ?_; try clear hK2 K2
   refine kpA [0, 2, 4, 5, 6, 7] ?_
   refine Qz F_mixed [some 17, some 18, some 7] rfl ?_
   simp only [zzK, QR, QP, QQ, JC, zz21, JM, zz26, JB, zz6, QO, ↓Qb]
   refine ⟨post.length, _, by simp, le_SK id [] rfl (l' := [(0, .d (wides (pre ++ x :: post))), (2, .ptr 2 0 0), (4, .d (iv (topN (pre ++ [x]).sum))), (5, .d (.v (.int .u64 (hiN (pre ++ [x]).sum)))), (6, .d (.v (.int .u64 (loN (pre ++ [x]).sum)))), (7, .d (iv (pre ++ [x]).length))]) (m' := [(2, (⟨True, 77, 2, true, false, 2, [[.d (.v (.int .i64 0)), .d (.v (.int .u64 0))]]⟩ : ARow))]) ?_ ?_ ?_ ?_, pre ++ [x], post, by simp, rfl, rfl⟩
   ·simp only [leV, JD, QQ, Qd, Qc, wides, wrap_len pre x (by simp at hl; omega), sum_snoc]
    refine ⟨Qn _, Qn _, ?_, ?_, ?_, Qn _, trivial⟩
    ·(first | rw [wsum_topA hs.1 hs.2 hx.1 hx.2 hb] | rw [wsum_topB hs.1 hs.2 hx.1 hx.2 hb]); exact Qn _
    ·rw [wsum_hi]; exact Qn _
    ·rw [wsum_lo]; exact Qn _
   ·exact ⟨fun _ => ⟨_, rfl, ⟨id, rfl, rfl, fun _ => rfl, id, .inl, VLess.refl _⟩⟩, fun h => by simp at h, trivial⟩
   ·simp [wfV, QY, lookR]
   ·simp [wfR, QX, QY]
 ·intro hb
  obtain rfl := none_of hb; clear hb
  simp only [QG] at hl hall ⊢
  refine JK ?_
  simp only [zz6, QO, ↓Qb]
  refine hK0 _ ?_; try clear hK0 K0
  refine kpA [2, 4, 5, 6] ?_
  refine JA fun K0 hK0 => ?_
  refine Qz F_mixed [some 55, some 56, some 12] rfl ?_
  simp only [zzK, QR, QP, QQ, JC, zz27, JM, F_cv75_3, F_cvV3, JB, zz6, QO, ↓Qb]
  refine hK0 _ ?_; try clear hK0 K0
  refine kpA [2, 4, 6, 12] ?_
  refine JA fun K0 hK0 => ?_
  refine JA fun K1 hK1 => ?_
  refine Qz F_mixed [some 57, some 58, some 59, some 60, some 61, some 62, some 63, some 64, some 65, some 66, some 67, some 68, some 69, some 70] rfl ?_
  simp only [zzK, QR, QP, QQ, QU, JZ, zz5, Qj, Qi, Qh, and_self, JC, zz21, JM, zz34, zz31, zz13, JQ, JR, zz22, zz6, QO, ↓Qb]
  refine hK1 _ ?_; try clear hK1 K1
  refine kpA [2, 6, 12, 70] ?_
  refine cnA ?_ ?_
  ·intro hb
   rw [fits_law] at hb
   refine JA fun K2 hK2 => ?_
   refine Qz F_mixed [some 71, some 72, some 73, none, some 3] rfl ?_
   simp only [zzK, QR, QP, QQ, JC, F_zero77, F_bld77, zz7, splice, Option.getD_some, QG, zz1, zzG, zzD, zzC, QA, yyE, Qe, QS, QN, zzH, zz10, F_fld77_0, F_fld77_1, zz18, F_ok77, F_sz77, JB, zz6, QO, ↓Qb]
   refine hK2 _ ?_; try clear hK2 K2
   refine kpA [2, 3] ?_
   refine JJ ?_
   simp only [zz6, QO, ↓Qb]
   refine done0 (by simp [resCs, resC, S, List.getD, JD, lookR, F_ag77, F_sz77, F_ok77]) ?_ (by simp [Ja, Jb, Jc, wideA]) (by simp [QY, QX, wideA])
   simp only [QD, QE, resA, JZ, S_mem, lookR_cons, lookR_nil, QR, QP, JD, QQ, Qd, Qc, JP, QI, QJ, QH, QL, QK, List.take_zero, F_ag77, F_sz77, F_ok77]
   simp only [QG, hb, wide_fit hb, Qd]
  ·intro hb
   rw [fits_law] at hb
   refine JI ?_
   simp only [zz6, QO, ↓Qb]
   refine hK0 _ ?_; try clear hK0 K0
   refine kpA [2] ?_
   refine JA fun K0 hK0 => ?_
   refine Qz F_mixed [some 74, none, some 3] rfl ?_
   simp only [zzK, QR, QP, QQ, F_zero77, F_bld77, zz7, splice, Option.getD_some, QG, zz1, zzG, zzD, zzC, QA, yyE, Qe, QS, QN, zzH, zz10, zz18, F_ok77, F_sz77, JB, zz6, QO, ↓Qb]
   refine hK0 _ ?_; try clear hK0 K0
   refine kpA [2, 3] ?_
   refine JJ ?_
   simp only [zz6, QO, ↓Qb]
   refine done0 (by simp [resCs, resC, S, List.getD, JD, lookR, F_ag77, F_sz77, F_ok77]) ?_ (by simp [Ja, Jb, Jc, wideA]) (by simp [QY, QX, wideA])
   simp only [QD, QE, resA, JZ, S_mem, lookR_cons, lookR_nil, QR, QP, JD, QQ, Qd, Qc, JP, QI, QJ, QH, QL, QK, List.take_zero, F_ag77, F_sz77, F_ok77]
   simp only [QG, hb, Qc]; rfl
theorem Int_ (t : Int) : ACalls Try.prog 53 [.agg (wideC t)] [] (.tp [.d (iv (bif rightN t then t else 0)), bv (rightN t)]) := by
 refine acalls_S (rs := [.tmp 2, .tmp 3]) Try.func53 rfl rfl 18 [(0, .d (.agg (wideC t)))] rfl (by simp) rfl ?_
 refine JA fun K0 hK0 => ?_
 refine Qz F_mixed [some 1, some 2, some 3] rfl ?_
 simp only [zzK, QR, QP, QQ, zz35, JS, zz1, zzG, zzD, zzC, QA, yyE, Qe, QS, QN, zzH, JB, wideC, zz6, QO, ↓Qb]
 refine hK0 _ ?_; try clear hK0 K0
 refine kpA [1] ?_
 refine JA fun K0 hK0 => ?_
 refine Qz F_mixed [some 5, some 6, some 7, some 4] rfl ?_
 simp only [zzK, QR, QP, QQ, zz19, zz23, F_off77_1, zzH, QN, QS, F_ok75, F_ag75, F_sz75, zz8, zzD, zzC, QA, yyE, Qe, zz27, JM, F_cv75_3, F_cvV3, JB, zz6, QO, ↓Qb]
 refine hK0 _ ?_; try clear hK0 K0
 refine kpA [1, 4] ?_
 refine JA fun K0 hK0 => ?_
 refine JA fun K1 hK1 => ?_
 refine awp_draw F_mixed [some 8, some 9, some 10, some 11, some 12, some 13, some 14, some 15, some 16] rfl (by kernel_rfl) ?_
 simp only [zzK, QR, QP, QQ, QU, JZ, zz5, Qj, Qi, Qh, JC, JE, JF, F_ok77, F_ag77, F_sz77, zz8, zz23, zzD, QS, QN, zzH, zzC, QA, yyE, Qe, zz21, JM, gr_ag, gr_agg, grL_cons, grL_nil, grD_cons, grD_nil, b_eqla, b_neqa, F_neq77, zz29, zz30, zz13, JQ, JR, wideA, wideC, zz6, QO, ↓Qb]
 refine JT F_go72 (fun hG => Of_ (Ql .i64 (t % 18446744073709551616)) (wI0 _) (wI1 _)) (by simp [QY, QX, wideA, wideC]) (by simp) ?_
 simp only [zzK, QR, QP, QQ, QU, JZ, zz5, Qj, Qi, Qh, JC, JE, JF, F_ok77, F_ag77, F_sz77, zz8, zz23, zzD, QS, QN, zzH, zzC, QA, yyE, Qe, zz21, JM, gr_ag, gr_agg, grL_cons, grL_nil, grD_cons, grD_nil, b_eqla, b_neqa, F_neq77, zz29, zz30, zz13, JQ, JR, wideA, wideC, zz6, QO, ↓Qb, atsL, oksG, JV, QZ, Qa, JO, Qm, QT, QS, zz9, QB, QA, S_mem, yyF, QF, zz2]
 refine JT F_go44 (fun hG => rRight_ (Ql .i64 (t % 18446744073709551616))) (by simp [QY, QX, wideA, wideC]) (by simp) ?_
 simp only [zzK, QR, QP, QQ, QU, JZ, zz5, Qj, Qi, Qh, JC, JE, JF, F_ok77, F_ag77, F_sz77, zz8, zz23, zzD, QS, QN, zzH, zzC, QA, yyE, Qe, zz21, JM, gr_ag, gr_agg, grL_cons, grL_nil, grD_cons, grD_nil, b_eqla, b_neqa, F_neq77, zz29, zz30, zz13, JQ, JR, wideA, wideC, zz6, QO, ↓Qb, atsL, oksG, JV, QZ, Qa, JO, Qm, QT, QS, zz9, QB, QA, S_mem, yyF, QF, zz2]
 refine hK1 _ ?_; try clear hK1 K1
 refine kpA [4, 16] ?_
 refine cnA ?_ ?_
 ·intro hb
  rw [int_law] at hb
  simp only [Bool.not_eq_true'] at hb
  refine JA fun K2 hK2 => ?_
  refine Qz F_mixed [some 2, some 3] rfl ?_
  simp only [zzK, QR, QP, QQ, JB, zz6, QO, ↓Qb]
  refine hK2 _ ?_; try clear hK2 K2
  refine kpA [2, 3] ?_
  refine JJ ?_
  simp only [zz6, QO, ↓Qb]
  refine dnA ?_
  simp only [QD, QE, resA, JZ, QR, QP, JD, QQ, Qd, Qc, JP]
  simp only [hb, Qc]
 ·intro hb
  rw [int_law] at hb
  simp only [Bool.not_eq_false'] at hb
  refine JI ?_
  simp only [zz6, QO, ↓Qb]
  refine hK0 _ ?_; try clear hK0 K0
  refine kpA [4] ?_
  refine JA fun K0 hK0 => ?_
  refine Qz F_mixed [some 17, some 2, some 3] rfl ?_
  simp only [zzK, QR, QP, QQ, JC, JB, zz6, QO, ↓Qb]
  refine hK0 _ ?_; try clear hK0 K0
  refine kpA [2, 3] ?_
  refine JJ ?_
  simp only [zz6, QO, ↓Qb]
  refine dnA ?_
  simp only [QD, QE, resA, JZ, QR, QP, JD, QQ, Qd, Qc, JP]
  simp only [hb, Qd, int_val hb]
theorem Add_ (l : List Int) (hl : l.length ≤ 1000000) (hall : ∀ x ∈ l, -9223372036854775808 ≤ x ∧ x < 9223372036854775808) : ACalls Try.prog 45 [ints l] [] (.tp [.d (iv (bif rightN l.sum then l.sum else 0)), bv (rightN l.sum)]) := by
 refine acalls_S (rs := [.tmp 2, .tmp 3]) Try.func45 rfl rfl 33 [(0, .d (ints l))] rfl (by simp) rfl ?_
 refine JA fun K0 hK0 => ?_
 refine Qz F_mixed [some 2, some 3] rfl ?_
 simp only [zzK, QR, QP, QQ, JB, zz6, QO, ↓Qb]
 refine hK0 _ ?_; try clear hK0 K0
 refine kpA [0] ?_
 refine JA fun K0 hK0 => ?_
 refine Qz F_mixed [some 4] rfl ?_
 simp only [zzK, QR, QP, QQ, JB, zz6, QO, ↓Qb]
 refine hK0 _ ?_; try clear hK0 K0
 refine kpA [0, 4] ?_
 refine JA fun K0 hK0 => ?_
 refine JA fun K1 hK1 => ?_
 refine Qz F_mixed [some 5] rfl ?_
 simp only [zzK, QR, QP, QQ, JB, zz6, QO, ↓Qb]
 refine hK1 _ ?_; try clear hK1 K1
 refine kpA [0, 4, 5] ?_
 refine JH ?_
 refine JL (fun m s => ∃ pre post : List Int, l = pre ++ post ∧ m = post.length ∧ s = S 33 [(0, .d (ints l)), (4, .ref 4 pre.length), (5, .d (iv pre.length))] [(4, grow 77 2 4 (pre.map wideC))]) l.length _ (le_SK id [4] rfl (l' := [(0, .d (ints l)), (4, .ref 4 ([] : List Int).length), (5, .d (iv ([] : List Int).length))]) (m' := [(4, grow 77 2 4 (([] : List Int).map wideC))]) ?_ ?_ ?_ ?_) ⟨[], l, rfl, rfl, rfl⟩ ?_
 ·simp only [leV, JD, QQ, Qd, Qc]; exact ⟨VLe.data_ _, Qq (by decide), VLe.data_ _, trivial⟩
 ·simp [leR, grow]
 ·simp [wfV, QY, lookR]
 ·simp [wfR, grow]
 rintro m s ⟨pre, post, rfl, rfl, rfl⟩
 refine JA fun K2 hK2 => ?_
 refine JA fun K3 hK3 => ?_
 refine Qz F_mixed [some 8, some 9, some 10, some 11] rfl ?_
 simp only [zzK, QR, QP, QQ, JC, JE, zz12, F_sl90, Option.isSome_some, zz21, JM, zz22, ints, JN, zz6, QO, ↓Qb]
 refine hK3 _ ?_; try clear hK3 K3
 refine kpA [0, 4, 5, 11] ?_
 refine cnA ?_ ?_
 ·intro hb
  obtain ⟨x, post, rfl⟩ := more_of hb; clear hb
  have hx := hall x (by simp)
  refine JI ?_
  simp only [zz6, QO, ↓Qb]
  refine hK2 _ ?_; try clear hK2 K2
  refine kpA [0, 4, 5] ?_
  refine JA fun K2 hK2 => ?_
  refine JH ?_
  refine Qz F_mixed [some 14, some 15, some 16, some 17, some 18, some 19, some 20, some 21, some 4] rfl ?_
  simp only [zzK, QR, QP, QQ, JC, JW, zz23, zz24, F_sl90, F_sz3, QA, zzC, yyE, Qe, F_ok3, F_ag3, zz8, zzD, QS, QN, zzH, JE, JF, F_sl122, F_zero77, F_sz77, zz3, JS, zz1, zzG, maxLen_le, QT, F_by77, zz4, zz9, QB, JB, ints, grow, wideA, wideC, getD_mid, JN, lt_mid, ge_mid, zz6, QO, ↓Qb]
  refine JT F_go72 (fun hG => Of_ x hx.1 hx.2) (by simp [QY, QX, wideA, wideC]) (by simp) ?_
  simp only [zzK, QR, QP, QQ, JC, JW, zz23, zz24, F_sl90, F_sz3, QA, zzC, yyE, Qe, F_ok3, F_ag3, zz8, zzD, QS, QN, zzH, JE, JF, F_sl122, F_zero77, F_sz77, zz3, JS, zz1, zzG, maxLen_le, QT, F_by77, zz4, zz9, QB, JB, ints, grow, wideA, wideC, getD_mid, JN, lt_mid, ge_mid, zz6, QO, ↓Qb, atsL, oksG, JV, QZ, Qa, JO, Qm, QT, QS, unDs_cons, QB, QA, S_mem, yyF, QF, zz2]
  have hm : pre.length + 1 ≤ 1000000 := by simp at hl; omega
  refine ⟨by rw [maxLen_le _ hm]; trivial, by omega, ?_⟩
  clear hm
  refine hK2 _ ?_; try clear hK2 K2
  refine kpA [0, 4, 5] ?_
  refine Qz F_mixed [some 12, some 13, some 5] rfl ?_
  simp only [zzK, QR, QP, QQ, JC, zz21, JM, zz26, JB, zz6, QO, ↓Qb]
  refine ⟨post.length, _, by simp, le_SK (fun _ => 21) [] rfl (l' := [(0, .d (ints (pre ++ x :: post))), (4, .ref 4 (pre ++ [x]).length), (5, .d (iv (pre ++ [x]).length))]) (m' := [(4, grow 77 2 4 ((pre ++ [x]).map wideC))]) ?_ ?_ ?_ ?_, pre ++ [x], post, by simp, rfl, rfl⟩
  ·simp only [leV, JD, QQ, Qd, Qc, ints, wrap_len pre x (by simp at hl; omega)]
   refine ⟨VLe.data_ _, ?_, VLe.data_ _, trivial⟩
   rw [show pre.length + 1 = (pre ++ [x]).length from by simp]; exact VLe.ref_ (f := fun _ => 21) (r := 4) (by simp)
  ·refine ⟨fun _ => ⟨_, rfl, Qw (by simp [wideC])⟩, fun h => by simp at h, trivial⟩
  ·simp [wfV, QY, lookR, grow]
  ·exact ⟨wf_data _ _, trivial⟩
 ·intro hb
  obtain rfl := none_of hb; clear hb
  simp only [QG] at hl hall ⊢
  have hfit := fits_small hall hl
  refine JK ?_
  simp only [zz6, QO, ↓Qb]
  refine hK0 _ ?_; try clear hK0 K0
  refine kpA [4] ?_
  refine JA fun K0 hK0 => ?_
  refine Qz F_mixed [some 23, some 24, some 22, some 25, some 26, some 6, none, some 7] rfl ?_
  simp only [zzK, QR, QP, QQ, JC, JE, JF, zz14, zzD, QS, QN, zz32, JS, F_zero77, zzC, QA, yyE, Qe, zzH, zz10, zz18, F_ok77, F_sz77, splice, QG, zz1, zzG, JB, wides, wideA, JN, grow, zz6, QO, ↓Qb]
  refine JT F_go73 (fun hG => WSum_ pre hl (fun x hx => ⟨by have := (hall x hx).1; omega, by have := (hall x hx).2; omega⟩)) (by simp [QY, QX, wideA]) (by simp) ?_
  simp only [zzK, QR, QP, QQ, JC, JE, JF, zz14, zzD, QS, QN, zz32, JS, F_zero77, zzC, QA, yyE, Qe, zzH, zz10, zz18, F_ok77, F_sz77, splice, QG, zz1, zzG, JB, wides, wideA, JN, grow, zz6, QO, ↓Qb, atsL, oksG, JV, QZ, Qa, JO, Qm, QT, QS, zz9, QB, QA, S_mem, yyF, QF, zz2]
  refine hK0 _ ?_; try clear hK0 K0
  refine kpA [6, 7] ?_
  refine JA fun K0 hK0 => ?_
  refine JA fun K1 hK1 => ?_
  refine Qz F_mixed [some 27, some 28] rfl ?_
  simp only [zzK, QR, QP, QQ, JC, zz29, JM, zz30, zz6, QO, ↓Qb]
  refine hK1 _ ?_; try clear hK1 K1
  refine kpA [6, 28] ?_
  refine cnA ?_ ?_
  ·intro hb
   simp [hfit] at hb
  ·intro hb
   clear hb
   refine JI ?_
   simp only [zz6, QO, ↓Qb]
   refine hK0 _ ?_; try clear hK0 K0
   refine kpA [6] ?_
   refine JA fun K0 hK0 => ?_
   refine Qz F_mixed [some 29, some 30, some 31, some 32, some 2, some 3] rfl ?_
   simp only [zzK, QR, QP, QQ, F_ok77, F_ag77, F_sz77, zz8, zz23, zzD, QS, QN, zzH, zzC, QA, yyE, Qe, JE, JF, zz14, JB, hfit, wideC, wideA, QW, zz6, QO, ↓Qb]
   refine JT F_go53 (fun hG => Int_ pre.sum) (by simp [QY, QX, wideC, wideA]) (by simp) ?_
   simp only [zzK, QR, QP, QQ, F_ok77, F_ag77, F_sz77, zz8, zz23, zzD, QS, QN, zzH, zzC, QA, yyE, Qe, JE, JF, zz14, JB, hfit, wideC, wideA, QW, zz6, QO, ↓Qb, atsL, oksG, JV, QZ, Qa, JO, Qm, QT, QS, zz9, QB, QA, S_mem, yyF, QF, zz2]
   refine hK0 _ ?_; try clear hK0 K0
   refine kpA [2, 3] ?_
   refine JJ ?_
   simp only [zz6, QO, ↓Qb]
   refine dnA ?_
   simp only [QD, QE, resA, JZ, QR, QP, JD, QQ, Qd, Qc, JP]
   simp only [QG]
theorem rIn_ (n lo hi : Int) : ACalls Try.prog 47 [iv n, iv lo, iv hi] [] (bv (inR n lo hi)) := by
 refine acalls_S (rs := [.tmp 6]) Try.func47 rfl rfl 15 [(0, .d (iv n)), (1, .d (iv lo)), (2, .d (iv hi))] rfl (by simp) rfl ?_
 refine JA fun K0 hK0 => ?_
 refine Qz F_mixed [some 6] rfl ?_
 simp only [zzK, QR, QP, QQ, JB, zz6, QO, ↓Qb]
 refine hK0 _ ?_; try clear hK0 K0
 refine kpA [0, 1, 2] ?_
 refine JA fun K0 hK0 => ?_
 refine Qz F_mixed [some 7, some 8, some 9, some 10, some 11, some 12, some 13, some 14, some 6] rfl ?_
 simp only [zzK, QR, QP, QQ, QU, JZ, zz5, Qj, Qi, Qh, and_self, JC, zz21, JM, zz31, b_leq, pure_leq, zz13, JQ, JR, JB, zz6, QO, ↓Qb]
 refine hK0 _ ?_; try clear hK0 K0
 refine kpA [6] ?_
 refine JJ ?_
 simp only [zz6, QO, ↓Qb]
 refine dnA ?_
 simp only [QD, QE, resA, JZ, QR, QP, JD, QQ, Qd, Qc, JP]
 rfl
theorem rWho_ (n : Int) : ACalls Try.prog 71 [iv n] [] (bv (inR n 1 16)) := by
 refine acalls_S (rs := [.tmp 2]) Try.func71 rfl rfl 5 [(0, .d (iv n))] rfl (by simp) rfl ?_
 refine JA fun K0 hK0 => ?_
 refine Qz F_mixed [some 2] rfl ?_
 simp only [zzK, QR, QP, QQ, JB, zz6, QO, ↓Qb]
 refine hK0 _ ?_; try clear hK0 K0
 refine kpA [0] ?_
 refine JA fun K0 hK0 => ?_
 refine Qz F_mixed [some 3, some 4, some 2] rfl ?_
 simp only [zzK, QR, QP, QQ, JC, JE, JF, JB, zz6, QO, ↓Qb]
 refine JT F_go47 (fun hG => rIn_ n 1 16) (by simp [QY, QX]) (by simp) ?_
 simp only [zzK, QR, QP, QQ, JC, JE, JF, JB, zz6, QO, ↓Qb, atsL, oksG, JV, QZ, Qa, JO, Qm, QT, QS, zz9, QB, QA, zzC, yyF, zzD, zz2]
 refine hK0 _ ?_; try clear hK0 K0
 refine kpA [2] ?_
 refine JJ ?_
 simp only [zz6, QO, ↓Qb]
 refine dnA ?_
 simp only [QD, QE, resA, JZ, QR, QP, JD, QQ, Qd, Qc, JP]
 
theorem rSized_ (t : TradeV) : ACalls Try.prog 90 [.agg (tradeC t)] [] (bv (tradeOk t)) := by
 refine acalls_S (rs := [.tmp 2]) Try.func90 rfl rfl 11 [(0, .d (.agg (tradeC t)))] rfl (by simp) rfl ?_
 refine JA fun K0 hK0 => ?_
 refine Qz F_mixed [some 1, some 2] rfl ?_
 simp only [zzK, QR, QP, QQ, zz35, JS, zz1, zzG, zzD, zzC, QA, yyE, Qe, QS, QN, zzH, JB, tradeC, zz6, QO, ↓Qb]
 refine hK0 _ ?_; try clear hK0 K0
 refine kpA [1] ?_
 refine JA fun K0 hK0 => ?_
 refine Qz F_mixed [some 3, some 4, some 5, some 6, some 7, some 8, some 9, some 10, some 2] rfl ?_
 simp only [zzK, QR, QP, QQ, QU, JZ, zz5, Qj, Qi, Qh, zz19, zz23, F_off86_4, zzH, QN, QS, F_ok3, F_ag3, F_sz3, zz8, zzD, zzC, QA, yyE, Qe, JE, JF, JC, F_off86_5, zz13, JQ, JR, JB, zz6, QO, ↓Qb]
 refine JT F_go47 (fun hG => rIn_ t.qty 1 1048576) (by simp [QY, QX]) (by simp) ?_
 simp only [zzK, QR, QP, QQ, QU, JZ, zz5, Qj, Qi, Qh, zz19, zz23, F_off86_4, zzH, QN, QS, F_ok3, F_ag3, F_sz3, zz8, zzD, zzC, QA, yyE, Qe, JE, JF, JC, F_off86_5, zz13, JQ, JR, JB, zz6, QO, ↓Qb, atsL, oksG, JV, QZ, Qa, JO, Qm, QT, QS, zz9, QB, QA, S_mem, yyF, QF, zz2]
 refine JT F_go47 (fun hG => rIn_ t.price 1 1073741824) (by simp [QY, QX]) (by simp) ?_
 simp only [zzK, QR, QP, QQ, QU, JZ, zz5, Qj, Qi, Qh, zz19, zz23, F_off86_4, zzH, QN, QS, F_ok3, F_ag3, F_sz3, zz8, zzD, zzC, QA, yyE, Qe, JE, JF, JC, F_off86_5, zz13, JQ, JR, JB, zz6, QO, ↓Qb, atsL, oksG, JV, QZ, Qa, JO, Qm, QT, QS, zz9, QB, QA, S_mem, yyF, QF, zz2]
 refine hK0 _ ?_; try clear hK0 K0
 refine kpA [2] ?_
 refine JJ ?_
 simp only [zz6, QO, ↓Qb]
 refine dnA ?_
 simp only [QD, QE, resA, JZ, QR, QP, JD, QQ, Qd, Qc, JP]
 simp only [inR, tradeOk, Bool.and_assoc]
theorem rKey_ (w n : Int) : ACalls Try.prog 43 [.agg [iv w, iv n]] [] (bv (keyOk w n)) := by
 refine acalls_S (rs := [.tmp 2]) Try.func43 rfl rfl 11 [(0, .d (.agg [iv w, iv n]))] rfl (by simp) rfl ?_
 refine JA fun K0 hK0 => ?_
 refine Qz F_mixed [some 1, some 2] rfl ?_
 simp only [zzK, QR, QP, QQ, zz35, JS, zz1, zzG, zzD, zzC, QA, yyE, Qe, QS, QN, zzH, JB, zz6, QO, ↓Qb]
 refine hK0 _ ?_; try clear hK0 K0
 refine kpA [1] ?_
 refine JA fun K0 hK0 => ?_
 refine Qz F_mixed [some 3, some 4, some 5, some 6, some 7, some 8, some 9, some 10, some 2] rfl ?_
 simp only [zzK, QR, QP, QQ, QU, JZ, zz5, Qj, Qi, Qh, zz19, zz23, F_off29_0, zzH, QN, QS, F_ok3, F_ag3, F_sz3, zz8, zzD, zzC, QA, yyE, Qe, JE, JF, JC, F_off29_1, zz13, JQ, JR, JB, zz6, QO, ↓Qb]
 refine JT F_go71 (fun hG => rWho_ w) (by simp [QY, QX]) (by simp) ?_
 simp only [zzK, QR, QP, QQ, QU, JZ, zz5, Qj, Qi, Qh, zz19, zz23, F_off29_0, zzH, QN, QS, F_ok3, F_ag3, F_sz3, zz8, zzD, zzC, QA, yyE, Qe, JE, JF, JC, F_off29_1, zz13, JQ, JR, JB, zz6, QO, ↓Qb, atsL, oksG, JV, QZ, Qa, JO, Qm, QT, QS, zz9, QB, QA, S_mem, yyF, QF, zz2]
 refine JT F_go47 (fun hG => rIn_ n 1 8) (by simp [QY, QX]) (by simp) ?_
 simp only [zzK, QR, QP, QQ, QU, JZ, zz5, Qj, Qi, Qh, zz19, zz23, F_off29_0, zzH, QN, QS, F_ok3, F_ag3, F_sz3, zz8, zzD, zzC, QA, yyE, Qe, JE, JF, JC, F_off29_1, zz13, JQ, JR, JB, zz6, QO, ↓Qb, atsL, oksG, JV, QZ, Qa, JO, Qm, QT, QS, zz9, QB, QA, S_mem, yyF, QF, zz2]
 refine hK0 _ ?_; try clear hK0 K0
 refine kpA [2] ?_
 refine JJ ?_
 simp only [zz6, QO, ↓Qb]
 refine dnA ?_
 simp only [QD, QE, resA, JZ, QR, QP, JD, QQ, Qd, Qc, JP]
 simp only [keyOk, inR, Bool.and_assoc]
theorem rKeyLess_ (a b c d : Int) : ACalls Try.prog 69 [.agg [iv a, iv b], .agg [iv c, iv d]] [] (bv (keyLt a b c d)) := by
 refine acalls_S (rs := [.tmp 4]) Try.func69 rfl rfl 24 [(0, .d (.agg [iv a, iv b])), (1, .d (.agg [iv c, iv d]))] rfl (by simp) rfl ?_
 refine JA fun K0 hK0 => ?_
 refine Qz F_mixed [some 2, some 3, some 4] rfl ?_
 simp only [zzK, QR, QP, QQ, zz35, JS, zz1, zzG, zzD, zzC, QA, yyE, Qe, QS, QN, zzH, JB, zz6, QO, ↓Qb]
 refine hK0 _ ?_; try clear hK0 K0
 refine kpA [2, 3] ?_
 refine JA fun K0 hK0 => ?_
 refine Qz F_mixed [some 5, some 6, some 7, some 8, some 9, some 10, some 11, some 12, some 13, some 14, some 15, some 16, some 17, some 18, some 19, some 20, some 21, some 22, some 23, some 4] rfl ?_
 simp only [zzK, QR, QP, QQ, QU, JZ, zz5, Qj, Qi, Qh, zz19, zz23, F_off29_0, zzH, QN, QS, F_ok3, F_ag3, F_sz3, zz8, zzD, zzC, QA, yyE, Qe, zz21, JM, zz22, JC, zz34, F_off29_1, zz13, JQ, JR, JB, zz6, QO, ↓Qb]
 refine hK0 _ ?_; try clear hK0 K0
 refine kpA [4] ?_
 refine JJ ?_
 simp only [zz6, QO, ↓Qb]
 refine dnA ?_
 simp only [QD, QE, resA, JZ, QR, QP, JD, QQ, Qd, Qc, JP]
 try rfl
theorem rNum_ (t : TradeV) : ACalls Try.prog 70 [.agg (tradeC t)] [] (bv (rtOk t)) := by
 refine acalls_S (rs := [.tmp 2]) Try.func70 rfl rfl 27 [(0, .d (.agg (tradeC t)))] rfl (by simp) rfl ?_
 refine JA fun K0 hK0 => ?_
 refine Qz F_mixed [some 1, some 2] rfl ?_
 simp only [zzK, QR, QP, QQ, zz35, JS, zz1, zzG, zzD, zzC, QA, yyE, Qe, QS, QN, zzH, JB, tradeC, zz6, QO, ↓Qb]
 refine hK0 _ ?_; try clear hK0 K0
 refine kpA [1] ?_
 refine JA fun K0 hK0 => ?_
 refine Qz F_mixed [some 3, some 4, some 5, some 6, some 7, some 8, some 9, some 10, some 11, some 12, some 13, some 14, some 15, some 16, some 17, some 18, some 19, some 20, some 21, some 22, some 23, some 24, some 25, some 26, some 2] rfl ?_
 simp only [zzK, QR, QP, QQ, QU, JZ, zz5, Qj, Qi, Qh, F_ok86, F_ag86, F_sz86, zz8, zz23, zzD, QS, QN, zzH, zzC, QA, yyE, Qe, JE, JF, JC, zz19, F_off86_1, F_ok3, F_ag3, F_sz3, zz13, JQ, JR, F_off86_2, zz21, JM, zz28, F_off86_3, JB, tradeC, QW, zz6, QO, ↓Qb]
 refine JT F_go90 (fun hG => rSized_ t) (by simp [QY, QX]) (by simp) ?_
 simp only [zzK, QR, QP, QQ, QU, JZ, zz5, Qj, Qi, Qh, F_ok86, F_ag86, F_sz86, zz8, zz23, zzD, QS, QN, zzH, zzC, QA, yyE, Qe, JE, JF, JC, zz19, F_off86_1, F_ok3, F_ag3, F_sz3, zz13, JQ, JR, F_off86_2, zz21, JM, zz28, F_off86_3, JB, tradeC, QW, zz6, QO, ↓Qb, atsL, oksG, JV, QZ, Qa, JO, Qm, QT, QS, zz9, QB, QA, S_mem, yyF, QF, zz2]
 refine JT F_go71 (fun hG => rWho_ t.buyer) (by simp [QY, QX]) (by simp) ?_
 simp only [zzK, QR, QP, QQ, QU, JZ, zz5, Qj, Qi, Qh, F_ok86, F_ag86, F_sz86, zz8, zz23, zzD, QS, QN, zzH, zzC, QA, yyE, Qe, JE, JF, JC, zz19, F_off86_1, F_ok3, F_ag3, F_sz3, zz13, JQ, JR, F_off86_2, zz21, JM, zz28, F_off86_3, JB, tradeC, QW, zz6, QO, ↓Qb, atsL, oksG, JV, QZ, Qa, JO, Qm, QT, QS, zz9, QB, QA, S_mem, yyF, QF, zz2]
 refine JT F_go71 (fun hG => rWho_ t.seller) (by simp [QY, QX]) (by simp) ?_
 simp only [zzK, QR, QP, QQ, QU, JZ, zz5, Qj, Qi, Qh, F_ok86, F_ag86, F_sz86, zz8, zz23, zzD, QS, QN, zzH, zzC, QA, yyE, Qe, JE, JF, JC, zz19, F_off86_1, F_ok3, F_ag3, F_sz3, zz13, JQ, JR, F_off86_2, zz21, JM, zz28, F_off86_3, JB, tradeC, QW, zz6, QO, ↓Qb, atsL, oksG, JV, QZ, Qa, JO, Qm, QT, QS, zz9, QB, QA, S_mem, yyF, QF, zz2]
 refine JT F_go47 (fun hG => rIn_ t.inst 1 8) (by simp [QY, QX]) (by simp) ?_
 simp only [zzK, QR, QP, QQ, QU, JZ, zz5, Qj, Qi, Qh, F_ok86, F_ag86, F_sz86, zz8, zz23, zzD, QS, QN, zzH, zzC, QA, yyE, Qe, JE, JF, JC, zz19, F_off86_1, F_ok3, F_ag3, F_sz3, zz13, JQ, JR, F_off86_2, zz21, JM, zz28, F_off86_3, JB, tradeC, QW, zz6, QO, ↓Qb, atsL, oksG, JV, QZ, Qa, JO, Qm, QT, QS, zz9, QB, QA, S_mem, yyF, QF, zz2]
 refine hK0 _ ?_; try clear hK0 K0
 refine kpA [2] ?_
 refine JJ ?_
 simp only [zz6, QO, ↓Qb]
 refine dnA ?_
 simp only [QD, QE, resA, JZ, QR, QP, JD, QQ, Qd, Qc, JP]
 rw [rtOk_ref]
set_option maxRecDepth 100000 in
set_option maxHeartbeats 4000000 in
theorem rBook_ (nx : Int) (ts : List TradeV) (ps : List PosV) (ht : ts.length ≤ 500000) (hp : ps.length ≤ 500000) : ACalls Try.prog 42 [.agg (bookC ⟨nx, ts, ps⟩)] [] (bv (bookOk ⟨nx, ts, ps⟩)) := by
 refine acalls_S (rs := [.tmp 2]) Try.func42 rfl rfl 156 [(0, .d (.agg (bookC ⟨nx, ts, ps⟩)))] rfl (by simp) rfl ?_
 refine JA fun K0 hK0 => ?_
 refine Qz F_mixed [some 1, some 2] rfl ?_
 simp only [zzK, QR, QP, QQ, zz35, JS, zz1, zzG, zzD, zzC, QA, yyE, Qe, QS, QN, zzH, JB, bookC, tradesB, poss, zz6, QO, ↓Qb]
 refine hK0 _ ?_; try clear hK0 K0
 refine kpA [1] ?_
 refine JA fun K0 hK0 => ?_
 refine JA fun K1 hK1 => ?_
 refine Qz F_mixed [some 12, some 13, some 14, some 15, some 16, some 17, some 18, some 19, some 20, some 21] rfl ?_
 simp only [zzK, QR, QP, QQ, QU, JZ, zz5, Qj, Qi, Qh, zz19, zz23, F_off58_0, zzH, QN, QS, F_ok3, F_ag3, F_sz3, zz8, zzD, zzC, QA, yyE, Qe, JE, JF, zz29, JM, zz30, JC, F_off58_1, F_ok56, F_ag56, F_sz56, zz12, F_sl56, Option.isSome_some, zz21, zz25, zz13, JQ, JR, JN, zz6, QO, ↓Qb]
 refine JT F_go47 (fun hG => rIn_ nx 0 1099511627776) (by simp [QY, QX]) (by simp) ?_
 simp only [zzK, QR, QP, QQ, QU, JZ, zz5, Qj, Qi, Qh, zz19, zz23, F_off58_0, zzH, QN, QS, F_ok3, F_ag3, F_sz3, zz8, zzD, zzC, QA, yyE, Qe, JE, JF, zz29, JM, zz30, JC, F_off58_1, F_ok56, F_ag56, F_sz56, zz12, F_sl56, Option.isSome_some, zz21, zz25, zz13, JQ, JR, JN, zz6, QO, ↓Qb, atsL, oksG, JV, QZ, Qa, JO, Qm, QT, QS, zz9, QB, QA, S_mem, yyF, QF, zz2]
 refine hK1 _ ?_; try clear hK1 K1
 refine kpA [1, 21] ?_
 refine cnA ?_ ?_
 ·intro hb
  have hd : _ = true := hb
  clear hb
  refine JA fun K2 hK2 => ?_
  refine Qz F_mixed [some 2] rfl ?_
  simp only [zzK, QR, QP, QQ, JB, zz6, QO, ↓Qb]
  refine hK2 _ ?_; try clear hK2 K2
  refine kpA [2] ?_
  refine JJ ?_
  simp only [zz6, QO, ↓Qb]
  refine dnA ?_
  simp only [QD, QE, resA, JZ, QR, QP, JD, QQ, Qd, Qc, JP]
  rw [rb_head hd]
 ·intro hb
  have hd : (!inR nx 0 1099511627776 || decide ((ts.length : Int) > 128)) = false := hb
  clear hb
  refine JI ?_
  simp only [zz6, QO, ↓Qb]
  refine hK0 _ ?_; try clear hK0 K0
  refine kpA [1] ?_
  refine JA fun K0 hK0 => ?_
  refine JA fun K1 hK1 => ?_
  refine Qz F_mixed [some 3] rfl ?_
  simp only [zzK, QR, QP, QQ, JB, zz6, QO, ↓Qb]
  refine hK1 _ ?_; try clear hK1 K1
  refine kpA [1, 3] ?_
  refine JH ?_
  refine JL (fun m s => ∃ pre post : List PosV, ps = pre ++ post ∧ chkR posOk pLt none ps = chkR posOk pLt pre.getLast? post ∧ m = post.length ∧ s = S 156 [(1, .ptr 1 0 0), (3, .d (iv pre.length))] [(1, (⟨True, 58, 3, true, false, 1, [[.d (iv nx), .d (.sl 7 (ts.map tradeC)), .d (.sl 4 (ps.map posC))]]⟩ : ARow))]) ps.length _ (le_SK id [] rfl (l' := [(1, .ptr 1 0 0), (3, .d (iv ([] : List PosV).length))]) (m' := [(1, (⟨True, 58, 3, true, false, 1, [[.d (iv nx), .d (.sl 7 (ts.map tradeC)), .d (.sl 4 (ps.map posC))]]⟩ : ARow))]) ?_ ?_ ?_ ?_) ⟨[], ps, rfl, rfl, rfl, rfl⟩ ?_
  ·simp only [leV, JD, QQ, Qd, Qc, JN]; exact ⟨Qn _, Qn _, trivial⟩
  ·exact ⟨fun _ => ⟨_, rfl, ⟨id, rfl, rfl, fun _ => rfl, id, .inl, VLess.refl _⟩⟩, fun h => by simp at h, trivial⟩
  ·simp [wfV, QY, QX, lookR]
  ·simp [wfR, QX, QY]
  rintro m s ⟨pre, post, rfl, hck, rfl, rfl⟩
  refine JA fun K2 hK2 => ?_
  refine JA fun K3 hK3 => ?_
  refine Qz F_mixed [some 22, some 23, some 24, some 25, some 26] rfl ?_
  simp only [zzK, QR, QP, QQ, JC, zz19, zz23, F_off58_2, zzH, QN, QS, F_ok42, F_ag42, F_sz42, zz8, zzD, zzC, QA, yyE, Qe, JE, zz12, F_sl42, Option.isSome_some, zz21, JM, zz22, JN, zz6, QO, ↓Qb]
  refine hK3 _ ?_; try clear hK3 K3
  refine kpA [1, 3, 26] ?_
  refine cnA ?_ ?_
  ·intro hb
   obtain ⟨x, post, rfl⟩ := more_of hb; clear hb
   have hpp : pre.length < 4611686018427387904 := by simp at hp; omega
   have hpg := prev_get posC pre post x [] hpp
   refine JI ?_
   simp only [zz6, QO, ↓Qb]
   refine hK2 _ ?_; try clear hK2 K2
   refine kpA [1, 3] ?_
   refine JA fun K2 hK2 => ?_
   refine JH ?_
   refine JA fun K3 hK3 => ?_
   refine Qz F_mixed [some 29, some 30, some 31, some 32, some 33, some 4, none] rfl ?_
   simp only [zzK, QR, QP, QQ, zz19, zz23, F_off58_2, zzH, QN, QS, F_ok42, F_ag42, F_sz42, zz8, zzD, zzC, QA, yyE, Qe, JC, JW, zz24, F_sl42, F_sz46, F_ok46, F_ag46, zz32, JS, F_zero46, zz10, zz18, splice, QG, zz1, zzG, posC, getD_mid, JN, lt_mid, ge_mid, zz6, QO, ↓Qb]
   refine hK3 _ ?_; try clear hK3 K3
   refine kpA [1, 3, 4] ?_
   refine JA fun K3 hK3 => ?_
   refine awp_draw F_mixed [some 34, some 35, some 36, some 37, some 38, some 39, some 40, some 41, some 42, some 43, some 44, some 45, some 46, some 47, some 48, some 49, some 50, some 51, some 52, some 53, some 54, some 55, some 56, some 57, some 58, some 59, some 60, some 61, some 62, some 63, some 64, some 65, some 66, some 67, some 68, some 69, some 70, some 71, some 72, some 73, some 74, some 75, some 76] rfl (by kernel_rfl) ?_
   simp only [zzK, QR, QP, QQ, QU, JZ, zz5, Qj, Qi, Qh, zz19, zz23, F_off46_0, zzH, QN, QS, F_ok29, F_ag29, F_sz29, zz8, zzD, zzC, QA, yyE, Qe, JE, JF, zz29, JM, zz30, JC, F_off46_1, F_ok3, F_ag3, F_sz3, zz13, JQ, JR, F_off46_2, zz21, zz34, zz25, F_off58_2, F_ok42, F_ag42, F_sz42, zz33, JW, zz24, F_sl42, F_sz46, QW, posC, hpg, getD_mid, JN, lt_mid, ge_mid, zz6, QO, ↓Qb]
   refine JT F_go43 (fun hG => rKey_ x.who x.inst) (by simp [QY, QX]) (by simp) ?_
   simp only [zzK, QR, QP, QQ, QU, JZ, zz5, Qj, Qi, Qh, zz19, zz23, F_off46_0, zzH, QN, QS, F_ok29, F_ag29, F_sz29, zz8, zzD, zzC, QA, yyE, Qe, JE, JF, zz29, JM, zz30, JC, F_off46_1, F_ok3, F_ag3, F_sz3, zz13, JQ, JR, F_off46_2, zz21, zz34, zz25, F_off58_2, F_ok42, F_ag42, F_sz42, zz33, JW, zz24, F_sl42, F_sz46, QW, posC, hpg, getD_mid, JN, lt_mid, ge_mid, zz6, QO, ↓Qb, atsL, oksG, JV, QZ, Qa, JO, Qm, QT, QS, zz9, QB, QA, S_mem, yyF, QF, zz2]
   refine JT F_go47 (fun hG => rIn_ x.qty (-1099511627776) 1099511627776) (by simp [QY, QX]) (by simp) ?_
   simp only [zzK, QR, QP, QQ, QU, JZ, zz5, Qj, Qi, Qh, zz19, zz23, F_off46_0, zzH, QN, QS, F_ok29, F_ag29, F_sz29, zz8, zzD, zzC, QA, yyE, Qe, JE, JF, zz29, JM, zz30, JC, F_off46_1, F_ok3, F_ag3, F_sz3, zz13, JQ, JR, F_off46_2, zz21, zz34, zz25, F_off58_2, F_ok42, F_ag42, F_sz42, zz33, JW, zz24, F_sl42, F_sz46, QW, posC, hpg, getD_mid, JN, lt_mid, ge_mid, zz6, QO, ↓Qb, atsL, oksG, JV, QZ, Qa, JO, Qm, QT, QS, zz9, QB, QA, S_mem, yyF, QF, zz2]
   refine JT F_go44 (fun hG => rRight_ x.cost) (by simp [QY, QX]) (by simp) ?_
   simp only [zzK, QR, QP, QQ, QU, JZ, zz5, Qj, Qi, Qh, zz19, zz23, F_off46_0, zzH, QN, QS, F_ok29, F_ag29, F_sz29, zz8, zzD, zzC, QA, yyE, Qe, JE, JF, zz29, JM, zz30, JC, F_off46_1, F_ok3, F_ag3, F_sz3, zz13, JQ, JR, F_off46_2, zz21, zz34, zz25, F_off58_2, F_ok42, F_ag42, F_sz42, zz33, JW, zz24, F_sl42, F_sz46, QW, posC, hpg, getD_mid, JN, lt_mid, ge_mid, zz6, QO, ↓Qb, atsL, oksG, JV, QZ, Qa, JO, Qm, QT, QS, zz9, QB, QA, S_mem, yyF, QF, zz2]
   refine ⟨⟨fun _ hp2 => prev_ok pre hpp hp2, fun _ _ => prev_lt pre post x hpp⟩, ?_⟩
   refine JT F_go69 (fun hG => rKeyLess_ (lastOr x pre).who (lastOr x pre).inst x.who x.inst) (by simp [QY, QX]) (by simp) ?_
   simp only [zzK, QR, QP, QQ, QU, JZ, zz5, Qj, Qi, Qh, zz19, zz23, F_off46_0, zzH, QN, QS, F_ok29, F_ag29, F_sz29, zz8, zzD, zzC, QA, yyE, Qe, JE, JF, zz29, JM, zz30, JC, F_off46_1, F_ok3, F_ag3, F_sz3, zz13, JQ, JR, F_off46_2, zz21, zz34, zz25, F_off58_2, F_ok42, F_ag42, F_sz42, zz33, JW, zz24, F_sl42, F_sz46, QW, posC, hpg, getD_mid, JN, lt_mid, ge_mid, zz6, QO, ↓Qb, atsL, oksG, JV, QZ, Qa, JO, Qm, QT, QS, zz9, QB, QA, S_mem, yyF, QF, zz2]
   refine hK3 _ ?_; try clear hK3 K3
   refine kpA [1, 3, 76] ?_
   refine cnA ?_ ?_
   ·intro hb
    have hs : (!posOk x || (decide ((pre.length : Int) > 0) && !pLt (lastOr x pre) x)) = true := by rw [posOk_ref]; exact hb
    clear hb
    refine JA fun K4 hK4 => ?_
    refine Qz F_mixed [some 2] rfl ?_
    simp only [zzK, QR, QP, QQ, JB, zz6, QO, ↓Qb]
    refine hK4 _ ?_; try clear hK4 K4
    refine kpA [2] ?_
    refine JJ ?_
    simp only [zz6, QO, ↓Qb]
    refine dnA ?_
    simp only [QD, QE, resA, JZ, QR, QP, JD, QQ, Qd, Qc, JP]
    have e : bookOk ⟨nx, ts, pre ++ x :: post⟩ = false := by simp only [bookOk]; rw [hck, chkR_step, hs]; rfl
    rw [e]
   ·intro hb
    have hs : (!posOk x || (decide ((pre.length : Int) > 0) && !pLt (lastOr x pre) x)) = false := by rw [posOk_ref]; exact hb
    clear hb
    refine JI ?_
    simp only [zz6, QO, ↓Qb]
    refine hK2 _ ?_; try clear hK2 K2
    refine kpA [1, 3] ?_
    refine Qz F_mixed [some 27, some 28, some 3] rfl ?_
    simp only [zzK, QR, QP, QQ, JC, zz21, JM, zz26, JB, zz6, QO, ↓Qb]
    refine ⟨post.length, _, by simp, le_SK id [] rfl (l' := [(1, .ptr 1 0 0), (3, .d (iv (pre ++ [x]).length))]) (m' := [(1, (⟨True, 58, 3, true, false, 1, [[.d (iv nx), .d (.sl 7 (ts.map tradeC)), .d (.sl 4 ((pre ++ x :: post).map posC))]]⟩ : ARow))]) ?_ ?_ ?_ ?_, pre ++ [x], post, by simp, by rw [hck, chkR_step, hs]; simp, rfl, rfl⟩
    ·simp only [leV, JD, QQ, Qd, Qc, JN, wrap_len pre x (by simp at hp; omega)]; exact ⟨Qn _, Qn _, trivial⟩
    ·exact ⟨fun _ => ⟨_, rfl, ⟨id, rfl, rfl, fun _ => rfl, id, .inl, VLess.refl _⟩⟩, fun h => by simp at h, trivial⟩
    ·simp [wfV, QY, QX, lookR]
    ·simp [wfR, QX, QY]
  ·intro hb
   obtain rfl := none_of hb; clear hb
   simp only [QG] at hck hp ⊢
   obtain ⟨ps, eps⟩ : ∃ x, x = pre := ⟨_, rfl⟩
   subst eps
   obtain ⟨hk0, hall⟩ := chk_pos hck
   clear hck
   refine JK ?_
   simp only [zz6, QO, ↓Qb]
   refine hK0 _ ?_; try clear hK0 K0
   refine kpA [1] ?_
   refine JA fun K0 hK0 => ?_
   refine JA fun K1 hK1 => ?_
   refine Qz F_mixed [some 5] rfl ?_
   simp only [zzK, QR, QP, QQ, JB, zz6, QO, ↓Qb]
   refine hK1 _ ?_; try clear hK1 K1
   refine kpA [1, 5] ?_
   refine JH ?_
   refine JL (fun m s => ∃ (k : Nat), (k ≤ 8) ∧ (levelTo ps k = true) ∧ m = 8 - k ∧ s = S 156 [(1, .ptr 1 0 0), (5, .d (iv (((k : Nat) : Int) + 1)))] [(1, (⟨True, 58, 3, true, false, 1, [[.d (iv nx), .d (.sl 7 (ts.map tradeC)), .d (.sl 4 (ps.map posC))]]⟩ : ARow))]) (8) _ (le_SK id [] rfl (l' := [(1, .ptr 1 0 0), (5, .d (iv (((0 : Nat) : Int) + 1)))]) (m' := [(1, (⟨True, 58, 3, true, false, 1, [[.d (iv nx), .d (.sl 7 (ts.map tradeC)), .d (.sl 4 (ps.map posC))]]⟩ : ARow))]) ?_ ?_ ?_ ?_) ⟨0, by omega, rfl, rfl, rfl⟩ ?_
   ·simp only [leV, JD, QQ, Qd, Qc]; exact ⟨(by first | exact Qo rfl | exact Qq (by decide) | exact Qp | exact Qn _ | exact Qs (by simp) (by rfl) | exact Qr (by simp) (by rfl) (by first | rfl | (simp; done) | (simp; omega)) | exact Qt (by first | rfl | simp)), (by first | exact Qo rfl | exact Qq (by decide) | exact Qp | exact Qn _ | exact Qs (by simp) (by rfl) | exact Qr (by simp) (by rfl) (by first | rfl | (simp; done) | (simp; omega)) | exact Qt (by first | rfl | simp)), trivial⟩
   ·exact ⟨fun _ => ⟨_, rfl, (by first | exact Qw (by first | rfl | simp) | exact Qx (by first | rfl | simp) (by simp) ids_data | exact Qv (by simp [QX, QY]) | exact Qu (by simp) (by simp [QX, QY]))⟩, fun h => by simp at h, trivial⟩
   ·simp [wfV, QY, QX, lookR, grow]
   ·exact ⟨by simp [QX, QY, lookR], trivial⟩
   rintro m s ⟨k, hk8, hlv, rfl, rfl⟩
   refine JA fun K2 hK2 => ?_
   refine JA fun K3 hK3 => ?_
   refine Qz F_mixed [some 77, some 78] rfl ?_
   simp only [zzK, QR, QP, QQ, JC, zz21, JM, b_leq, pure_leq, zz6, QO, ↓Qb]
   refine hK3 _ ?_; try clear hK3 K3
   refine kpA [1, 5, 78] ?_
   refine cnA ?_ ?_
   ·intro hb
    have hk : k < 8 := by have := Qg hb; omega
    clear hb
    have hw : Ql .i64 (((k : Nat) : Int) + 1 + 1) = (((k + 1 : Nat) : Int) + 1) := by rw [wrapI (by omega) (by omega)]; omega
    refine JI ?_
    simp only [zz6, QO, ↓Qb]
    refine hK2 _ ?_; try clear hK2 K2
    refine kpA [1, 5] ?_
    refine JA fun K2 hK2 => ?_
    refine JH ?_
    refine JA fun K3 hK3 => ?_
    refine Qz F_mixed [some 6] rfl ?_
    simp only [zzK, QR, QP, QQ, JB, zz6, QO, ↓Qb]
    refine hK3 _ ?_; try clear hK3 K3
    refine kpA [1, 5, 6] ?_
    refine JA fun K3 hK3 => ?_
    refine JA fun K4 hK4 => ?_
    refine Qz F_mixed [some 7] rfl ?_
    simp only [zzK, QR, QP, QQ, JB, zz6, QO, ↓Qb]
    refine hK4 _ ?_; try clear hK4 K4
    refine kpA [1, 5, 6, 7] ?_
    refine JH ?_
    refine JL (fun m s => ∃ (pre : List PosV) (post : List PosV), (ps = pre ++ post) ∧ m = post.length ∧ s = S 156 [(1, .ptr 1 0 0), (5, .d (iv ((k : Int) + 1))), (6, .ref 6 (levelQ pre (k + 1)).length), (7, .d (iv pre.length))] [(1, (⟨True, 58, 3, true, false, 1, [[.d (iv nx), .d (.sl 7 (ts.map tradeC)), .d (.sl 4 (ps.map posC))]]⟩ : ARow)), (6, grow 3 1 6 ((levelQ pre (k + 1)).map fun n => [iv n]))]) (ps.length) _ (le_SK id [6] rfl (l' := [(1, .ptr 1 0 0), (5, .d (iv ((k : Int) + 1))), (6, .ref 6 (levelQ [] (k + 1)).length), (7, .d (iv [].length))]) (m' := [(1, (⟨True, 58, 3, true, false, 1, [[.d (iv nx), .d (.sl 7 (ts.map tradeC)), .d (.sl 4 (ps.map posC))]]⟩ : ARow)), (6, grow 3 1 6 ((levelQ [] (k + 1)).map fun n => [iv n]))]) ?_ ?_ ?_ ?_) ⟨[], ps, rfl, rfl, rfl⟩ ?_
    ·simp only [leV, JD, QQ, Qd, Qc]; exact ⟨(by first | exact Qo rfl | exact Qq (by decide) | exact Qp | exact Qn _ | exact Qs (by simp) (by rfl) | exact Qr (by simp) (by rfl) (by first | rfl | (simp; done) | (simp; omega)) | exact Qt (by first | rfl | simp)), (by first | exact Qo rfl | exact Qq (by decide) | exact Qp | exact Qn _ | exact Qs (by simp) (by rfl) | exact Qr (by simp) (by rfl) (by first | rfl | (simp; done) | (simp; omega)) | exact Qt (by first | rfl | simp)), (by first | exact Qo rfl | exact Qq (by decide) | exact Qp | exact Qn _ | exact Qs (by simp) (by rfl) | exact Qr (by simp) (by rfl) (by first | rfl | (simp; done) | (simp; omega)) | exact Qt (by first | rfl | simp)), (by first | exact Qo rfl | exact Qq (by decide) | exact Qp | exact Qn _ | exact Qs (by simp) (by rfl) | exact Qr (by simp) (by rfl) (by first | rfl | (simp; done) | (simp; omega)) | exact Qt (by first | rfl | simp)), trivial⟩
    ·exact ⟨fun _ => ⟨_, rfl, (by first | exact Qw (by first | rfl | simp) | exact Qx (by first | rfl | simp) (by simp) ids_data | exact Qv (by simp [QX, QY]) | exact Qu (by simp) (by simp [QX, QY]))⟩, fun h => by simp at h, fun h => by simp at h, fun _ => rfl, trivial⟩
    ·simp [wfV, QY, QX, lookR, grow]
    ·exact ⟨by simp [QX, QY, lookR], wf_data _ _, trivial⟩
    rintro m s ⟨pre, post, hsp, rfl, rfl⟩
    have hspl := congrArg List.length hsp
    simp only [QC] at hspl
    have hql := levelQ_len pre (k + 1)
    refine JA fun K5 hK5 => ?_
    refine JA fun K6 hK6 => ?_
    refine Qz F_mixed [some 81, some 82, some 83, some 84, some 85] rfl ?_
    simp only [zzK, QR, QP, QQ, JC, zz19, zz23, F_off58_2, zzH, QN, QS, F_ok42, F_ag42, F_sz42, zz8, zzD, zzC, QA, yyE, Qe, JE, zz12, F_sl42, Option.isSome_some, zz21, JM, zz22, JN, zz6, QO, ↓Qb]
    refine hK6 _ ?_; try clear hK6 K6
    refine kpA [1, 5, 6, 7, 85] ?_
    refine cnA ?_ ?_
    ·intro hb
     obtain ⟨x, post2, rfl⟩ : ∃ x t, post = x :: t := by
      cases post with
      | nil => have := Qg hb; simp at hspl; omega
      | cons x t => exact ⟨x, t, rfl⟩
     clear hb
     simp only [QF] at hspl
     have gx : (ps.map posC).getD pre.length [] = [iv x.who, iv x.inst, iv x.qty, iv x.cost] := by
      rw [hsp, List.map_append]; exact gd_mid' (A := pre.map posC) _ _ (by simp)
     have bx := ltI (show pre.length < ps.length by omega)
     have hwx : Ql .i64 ((pre.length : Int) + 1) = ((pre ++ [x]).length : Int) := by rw [wrapI (by omega) (by omega)]; simp
     refine JI ?_
     simp only [zz6, QO, ↓Qb]
     refine hK5 _ ?_; try clear hK5 K5
     refine kpA [1, 5, 6, 7] ?_
     refine JA fun K5 hK5 => ?_
     refine JH ?_
     refine JA fun K6 hK6 => ?_
     refine Qz F_mixed [some 88, some 89, some 90, some 91, some 92, some 93, some 94, some 95, some 96] rfl ?_
     simp only [zzK, QR, QP, QQ, zz19, zz23, F_off58_2, zzH, QN, QS, F_ok42, F_ag42, F_sz42, zz8, zzD, zzC, QA, yyE, Qe, JC, JW, zz24, F_sl42, F_sz46, F_off46_0, F_off29_1, F_ok3, F_ag3, F_sz3, zz21, JM, zz34, posC, gx, bx, hwx, JN, ge0, QV, QW, zz6, QO, ↓Qb]
     refine hK6 _ ?_; try clear hK6 K6
     refine kpA [1, 5, 6, 7, 96] ?_
     refine cnA ?_ ?_
     ·intro hb
      have hs : (x.inst == ((k : Int) + 1)) = true := hb
      clear hb
      have hsl := levelQ_yes hs pre
      refine Qz F_mixed [some 97, some 98, some 99, some 100, some 101, some 102, some 103, some 104, some 105, some 6] rfl ?_
      simp only [zzK, QR, QP, QQ, JC, zz19, zz23, F_off58_2, zzH, QN, QS, F_ok42, F_ag42, F_sz42, zz8, zzD, zzC, QA, yyE, Qe, JW, zz24, F_sl42, F_sz46, F_off46_1, F_ok3, F_ag3, F_sz3, F_sl90, F_zero3, zz3, JS, zz1, zzG, maxLen_le, QT, JE, F_by3, zz4, zz9, QB, JB, posC, grow, unDs_map, gx, bx, hwx, JN, ge0, QV, QW, zz6, QO, ↓Qb]
      have hm : (levelQ pre (k + 1)).length + 1 ≤ 1000000 := by first | omega | (simp; omega)
      first | refine ⟨le_maxLen hm, by omega, ?_⟩ | refine ⟨by simp, le_maxLen hm, by omega, ?_⟩
      clear hm
      refine hK5 _ ?_; try clear hK5 K5
      refine kpA [1, 5, 6, 7] ?_
      refine Qz F_mixed [some 86, some 87, some 7] rfl ?_
      simp only [zzK, QR, QP, QQ, JC, zz21, JM, zz26, JB, hwx, zz6, QO, ↓Qb]
      refine ⟨post2.length, _, by simp, le_SK (fun r => bif r == 6 then 105 else r) [] rfl (l' := [(1, .ptr 1 0 0), (5, .d (iv ((k : Int) + 1))), (6, .ref 6 (levelQ (pre ++ [x]) (k + 1)).length), (7, .d (iv (pre ++ [x]).length))]) (m' := [(1, (⟨True, 58, 3, true, false, 1, [[.d (iv nx), .d (.sl 7 (ts.map tradeC)), .d (.sl 4 (ps.map posC))]]⟩ : ARow)), (6, grow 3 1 6 ((levelQ (pre ++ [x]) (k + 1)).map fun n => [iv n]))]) ?_ ?_ ?_ ?_, (pre ++ [x]), post2, by simp [hsp], rfl, rfl⟩
      ·simp only [leV, JD, QQ, Qd, Qc, hwx, hsl]; exact ⟨(by first | exact Qo rfl | exact Qq (by decide) | exact Qp | exact Qn _ | exact Qs (by simp) (by rfl) | exact Qr (by simp) (by rfl) (by first | rfl | (simp; done) | (simp; omega)) | exact Qt (by first | rfl | simp)), (by first | exact Qo rfl | exact Qq (by decide) | exact Qp | exact Qn _ | exact Qs (by simp) (by rfl) | exact Qr (by simp) (by rfl) (by first | rfl | (simp; done) | (simp; omega)) | exact Qt (by first | rfl | simp)), (by first | exact Qo rfl | exact Qq (by decide) | exact Qp | exact Qn _ | exact Qs (by simp) (by rfl) | exact Qr (by simp) (by rfl) (by first | rfl | (simp; done) | (simp; omega)) | exact Qt (by first | rfl | simp)), (by first | exact Qo rfl | exact Qq (by decide) | exact Qp | exact Qn _ | exact Qs (by simp) (by rfl) | exact Qr (by simp) (by rfl) (by first | rfl | (simp; done) | (simp; omega)) | exact Qt (by first | rfl | simp)), trivial⟩
      ·exact ⟨fun _ => ⟨_, rfl, (by first | exact Qw (by first | rfl | simp) | exact Qx (by first | rfl | simp) (by simp) ids_data | exact Qv (by simp [QX, QY]) | exact Qu (by simp) (by simp [QX, QY]))⟩, fun h => by simp at h, fun _ => ⟨_, rfl, Qw (by rw [hsl]; simp)⟩, fun h => by simp at h, trivial⟩
      ·simp [wfV, QY, QX, lookR, grow]
      ·exact ⟨by simp [QX, QY, lookR], wf_data _ _, trivial⟩
     ·intro hb
      have hs : (x.inst == ((k : Int) + 1)) = false := hb
      clear hb
      have hsl := levelQ_no hs pre
      refine JI ?_
      simp only [zz6, QO, ↓Qb]
      refine hK5 _ ?_; try clear hK5 K5
      refine kpA [1, 5, 6, 7] ?_
      refine Qz F_mixed [some 86, some 87, some 7] rfl ?_
      simp only [zzK, QR, QP, QQ, JC, zz21, JM, zz26, JB, hwx, zz6, QO, ↓Qb]
      refine ⟨post2.length, _, by simp, le_SK id [] rfl (l' := [(1, .ptr 1 0 0), (5, .d (iv ((k : Int) + 1))), (6, .ref 6 (levelQ (pre ++ [x]) (k + 1)).length), (7, .d (iv (pre ++ [x]).length))]) (m' := [(1, (⟨True, 58, 3, true, false, 1, [[.d (iv nx), .d (.sl 7 (ts.map tradeC)), .d (.sl 4 (ps.map posC))]]⟩ : ARow)), (6, grow 3 1 6 ((levelQ (pre ++ [x]) (k + 1)).map fun n => [iv n]))]) ?_ ?_ ?_ ?_, (pre ++ [x]), post2, by simp [hsp], rfl, rfl⟩
      ·simp only [leV, JD, QQ, Qd, Qc, hwx, hsl]; exact ⟨(by first | exact Qo rfl | exact Qq (by decide) | exact Qp | exact Qn _ | exact Qs (by simp) (by rfl) | exact Qr (by simp) (by rfl) (by first | rfl | (simp; done) | (simp; omega)) | exact Qt (by first | rfl | simp)), (by first | exact Qo rfl | exact Qq (by decide) | exact Qp | exact Qn _ | exact Qs (by simp) (by rfl) | exact Qr (by simp) (by rfl) (by first | rfl | (simp; done) | (simp; omega)) | exact Qt (by first | rfl | simp)), (by first | exact Qo rfl | exact Qq (by decide) | exact Qp | exact Qn _ | exact Qs (by simp) (by rfl) | exact Qr (by simp) (by rfl) (by first | rfl | (simp; done) | (simp; omega)) | exact Qt (by first | rfl | simp)), (by first | exact Qo rfl | exact Qq (by decide) | exact Qp | exact Qn _ | exact Qs (by simp) (by rfl) | exact Qr (by simp) (by rfl) (by first | rfl | (simp; done) | (simp; omega)) | exact Qt (by first | rfl | simp)), trivial⟩
      ·exact ⟨fun _ => ⟨_, rfl, (by first | exact Qw (by first | rfl | simp) | exact Qx (by first | rfl | simp) (by simp) ids_data | exact Qv (by simp [QX, QY]) | exact Qu (by simp) (by simp [QX, QY]))⟩, fun h => by simp at h, fun _ => ⟨_, rfl, Qw (by rw [hsl])⟩, fun h => by simp at h, trivial⟩
      ·simp [wfV, QY, QX, lookR, grow]
      ·exact ⟨by simp [QX, QY, lookR], wf_data _ _, trivial⟩
    ·intro hb
     obtain rfl : post = [] := by
      cases post with
      | nil => rfl
      | cons x t => have := Qf hb; simp at hspl; omega
     clear hb
     simp only [QG] at hsp
     obtain rfl : ps = pre := hsp
     refine JK ?_
     simp only [zz6, QO, ↓Qb]
     refine hK3 _ ?_; try clear hK3 K3
     refine kpA [1, 5, 6] ?_
     refine JA fun K3 hK3 => ?_
     refine Qz F_mixed [some 107, some 108, some 106, some 109, some 110, some 8, some 9] rfl ?_
     simp only [zzK, QR, QP, QQ, JC, JE, JF, zz14, zzD, QS, QN, zzF, JB, ints, grow, JN, zz6, QO, ↓Qb]
     refine JT F_go45 (fun hG => Add_ (levelQ ps (k + 1)) (by omega) (levQ_bnd hall _)) (by simp [QY, QX]) (by simp) ?_
     simp only [zzK, QR, QP, QQ, JC, JE, JF, zz14, zzD, QS, QN, zzF, JB, ints, grow, JN, zz6, QO, ↓Qb, atsL, oksG, JV, QZ, Qa, JO, Qm, QT, QS, zz9, QB, QA, zzC, yyF, QF, zz2]
     try refine ⟨by simp, ?_⟩
     refine hK3 _ ?_; try clear hK3 K3
     refine kpA [1, 5, 8, 9] ?_
     refine JA fun K3 hK3 => ?_
     refine Qz F_mixed [some 111, some 112, some 113, some 114, some 115, some 116] rfl ?_
     simp only [zzK, QR, QP, QQ, QU, JZ, zz5, Qj, Qi, Qh, and_self, JC, zz29, JM, zz30, zz21, zz28, zz13, JQ, JR, zz6, QO, ↓Qb]
     refine hK3 _ ?_; try clear hK3 K3
     refine kpA [1, 5, 116] ?_
     refine cnA ?_ ?_
     ·intro hb
      have hli : levelI ps (k + 1) = false := by
       have e := lev_ref hall ((k : Int) + 1)
       rw [show _ = true from hb] at e
       simpa using e.symm
      clear hb
      refine JA fun K4 hK4 => ?_
      refine Qz F_mixed [some 2] rfl ?_
      simp only [zzK, QR, QP, QQ, JB, zz6, QO, ↓Qb]
      refine hK4 _ ?_; try clear hK4 K4
      refine kpA [2] ?_
      refine JJ ?_
      simp only [zz6, QO, ↓Qb]
      try simp only [QG]
      refine dnA ?_
      simp only [QD, QE, resA, JZ, QR, QP, JD, QQ, Qd, Qc, JP]
      rw [rb_lev hk hli]
     ·intro hb
      have hli : levelI ps (k + 1) = true := by
       have e := lev_ref hall ((k : Int) + 1)
       rw [show _ = false from hb] at e
       simpa using e.symm
      clear hb
      refine JI ?_
      simp only [zz6, QO, ↓Qb]
      refine hK2 _ ?_; try clear hK2 K2
      refine kpA [1, 5] ?_
      refine Qz F_mixed [some 79, some 80, some 5] rfl ?_
      simp only [zzK, QR, QP, QQ, JC, zz21, JM, zz26, JB, zz6, QO, ↓Qb]
      refine ⟨8 - (k + 1), _, by omega, le_SK id [] rfl (l' := [(1, .ptr 1 0 0), (5, .d (iv ((((k + 1) : Nat) : Int) + 1)))]) (m' := [(1, (⟨True, 58, 3, true, false, 1, [[.d (iv nx), .d (.sl 7 (ts.map tradeC)), .d (.sl 4 (ps.map posC))]]⟩ : ARow))]) ?_ ?_ ?_ ?_, (k + 1), by omega, by rw [levelTo_succ, hlv, hli]; rfl, rfl, rfl⟩
      ·simp only [leV, JD, QQ, Qd, Qc, hw]; exact ⟨(by first | exact Qo rfl | exact Qq (by decide) | exact Qp | exact Qn _ | exact Qs (by simp) (by rfl) | exact Qr (by simp) (by rfl) (by first | rfl | (simp; done) | (simp; omega)) | exact Qt (by first | rfl | simp)), (by first | exact Qo rfl | exact Qq (by decide) | exact Qp | exact Qn _ | exact Qs (by simp) (by rfl) | exact Qr (by simp) (by rfl) (by first | rfl | (simp; done) | (simp; omega)) | exact Qt (by first | rfl | simp)), trivial⟩
      ·exact ⟨fun _ => ⟨_, rfl, (by first | exact Qw (by first | rfl | simp) | exact Qx (by first | rfl | simp) (by simp) ids_data | exact Qv (by simp [QX, QY]) | exact Qu (by simp) (by simp [QX, QY]))⟩, fun h => by simp at h, trivial⟩
      ·simp [wfV, QY, QX, lookR, grow]
      ·exact ⟨by simp [QX, QY, lookR], trivial⟩
   ·intro hb
    obtain rfl : k = 8 := by have := Qf hb; omega
    clear hb
    refine JK ?_
    simp only [zz6, QO, ↓Qb]
    refine hK0 _ ?_; try clear hK0 K0
    refine kpA [1] ?_
    refine JA fun K0 hK0 => ?_
    refine JA fun K1 hK1 => ?_
    refine Qz F_mixed [some 10] rfl ?_
    simp only [zzK, QR, QP, QQ, JB, zz6, QO, ↓Qb]
    refine hK1 _ ?_; try clear hK1 K1
    refine kpA [1, 10] ?_
    refine JH ?_
    refine JL (fun m s => ∃ pre post : List TradeV, ts = pre ++ post ∧ chkR (trOk nx) tLt none ts = chkR (trOk nx) tLt pre.getLast? post ∧ m = post.length ∧ s = S 156 [(1, .ptr 1 0 0), (10, .d (iv pre.length))] [(1, (⟨True, 58, 3, true, false, 1, [[.d (iv nx), .d (.sl 7 (ts.map tradeC)), .d (.sl 4 (ps.map posC))]]⟩ : ARow))]) ts.length _ (le_SK id [] rfl (l' := [(1, .ptr 1 0 0), (10, .d (iv ([] : List TradeV).length))]) (m' := [(1, (⟨True, 58, 3, true, false, 1, [[.d (iv nx), .d (.sl 7 (ts.map tradeC)), .d (.sl 4 (ps.map posC))]]⟩ : ARow))]) ?_ ?_ ?_ ?_) ⟨[], ts, rfl, rfl, rfl, rfl⟩ ?_
    ·simp only [leV, JD, QQ, Qd, Qc, JN]; exact ⟨Qn _, Qn _, trivial⟩
    ·exact ⟨fun _ => ⟨_, rfl, ⟨id, rfl, rfl, fun _ => rfl, id, .inl, VLess.refl _⟩⟩, fun h => by simp at h, trivial⟩
    ·simp [wfV, QY, QX, lookR]
    ·simp [wfR, QX, QY]
    rintro m s ⟨pre, post, rfl, hck, rfl, rfl⟩
    refine JA fun K2 hK2 => ?_
    refine JA fun K3 hK3 => ?_
    refine Qz F_mixed [some 117, some 118, some 119, some 120, some 121] rfl ?_
    simp only [zzK, QR, QP, QQ, JC, zz19, zz23, F_off58_1, zzH, QN, QS, F_ok56, F_ag56, F_sz56, zz8, zzD, zzC, QA, yyE, Qe, JE, zz12, F_sl56, Option.isSome_some, zz21, JM, zz22, JN, zz6, QO, ↓Qb]
    refine hK3 _ ?_; try clear hK3 K3
    refine kpA [1, 10, 121] ?_
    refine cnA ?_ ?_
    ·intro hb
     obtain ⟨x, post, rfl⟩ := more_of hb; clear hb
     have hpp : pre.length < 4611686018427387904 := by simp at ht; omega
     have hpg := prev_get tradeC pre post x [] hpp
     refine JI ?_
     simp only [zz6, QO, ↓Qb]
     refine hK2 _ ?_; try clear hK2 K2
     refine kpA [1, 10] ?_
     refine JA fun K2 hK2 => ?_
     refine JH ?_
     refine JA fun K3 hK3 => ?_
     refine Qz F_mixed [some 124, some 125, some 126, some 127, some 128, some 11, none] rfl ?_
     simp only [zzK, QR, QP, QQ, zz19, zz23, F_off58_1, zzH, QN, QS, F_ok56, F_ag56, F_sz56, zz8, zzD, zzC, QA, yyE, Qe, JC, JW, zz24, F_sl56, F_sz86, F_ok86, F_ag86, zz32, JS, F_zero86, zz10, zz18, splice, QG, zz1, zzG, tradeC, getD_mid, JN, lt_mid, ge_mid, zz6, QO, ↓Qb]
     refine hK3 _ ?_; try clear hK3 K3
     refine kpA [1, 10, 11] ?_
     refine JA fun K3 hK3 => ?_
     refine awp_draw F_mixed [some 129, some 130, some 131, some 132, some 133, some 134, some 135, some 136, some 137, some 138, some 139, some 140, some 141, some 142, some 143, some 144, some 145, some 146, some 147, some 148, some 149, some 150, some 151, some 152, some 153, some 154, some 155] rfl (by kernel_rfl) ?_
     simp only [zzK, QR, QP, QQ, QU, JZ, zz5, Qj, Qi, Qh, F_ok86, F_ag86, F_sz86, zz8, zz23, zzD, QS, QN, zzH, zzC, QA, yyE, Qe, JE, JF, zz29, JM, zz30, JC, zz19, F_off86_0, F_ok3, F_ag3, F_sz3, F_off58_0, zz13, JQ, JR, zz21, zz25, F_off58_1, F_ok56, F_ag56, F_sz56, zz33, JW, zz24, F_sl56, b_leq, pure_leq, tradeC, QW, hpg, getD_mid, JN, lt_mid, ge_mid, zz6, QO, ↓Qb]
     refine JT F_go70 (fun hG => rNum_ x) (by simp [QY, QX]) (by simp) ?_
     simp only [zzK, QR, QP, QQ, QU, JZ, zz5, Qj, Qi, Qh, F_ok86, F_ag86, F_sz86, zz8, zz23, zzD, QS, QN, zzH, zzC, QA, yyE, Qe, JE, JF, zz29, JM, zz30, JC, zz19, F_off86_0, F_ok3, F_ag3, F_sz3, F_off58_0, zz13, JQ, JR, zz21, zz25, F_off58_1, F_ok56, F_ag56, F_sz56, zz33, JW, zz24, F_sl56, b_leq, pure_leq, tradeC, QW, hpg, getD_mid, JN, lt_mid, ge_mid, zz6, QO, ↓Qb, atsL, oksG, JV, QZ, Qa, JO, Qm, QT, QS, zz9, QB, QA, S_mem, yyF, QF, zz2]
     refine JT F_go47 (fun hG => rIn_ x.no 1 nx) (by simp [QY, QX]) (by simp) ?_
     simp only [zzK, QR, QP, QQ, QU, JZ, zz5, Qj, Qi, Qh, F_ok86, F_ag86, F_sz86, zz8, zz23, zzD, QS, QN, zzH, zzC, QA, yyE, Qe, JE, JF, zz29, JM, zz30, JC, zz19, F_off86_0, F_ok3, F_ag3, F_sz3, F_off58_0, zz13, JQ, JR, zz21, zz25, F_off58_1, F_ok56, F_ag56, F_sz56, zz33, JW, zz24, F_sl56, b_leq, pure_leq, tradeC, QW, hpg, getD_mid, JN, lt_mid, ge_mid, zz6, QO, ↓Qb, atsL, oksG, JV, QZ, Qa, JO, Qm, QT, QS, zz9, QB, QA, S_mem, yyF, QF, zz2]
     refine ⟨⟨fun _ hp2 => prev_ok pre hpp hp2, fun _ _ => prev_lt pre post x hpp⟩, ?_⟩
     refine hK3 _ ?_; try clear hK3 K3
     refine kpA [1, 10, 155] ?_
     refine cnA ?_ ?_
     ·intro hb
      have hs : (!trOk nx x || (decide ((pre.length : Int) > 0) && !tLt (lastOr x pre) x)) = true := by rw [trOk_ref]; simpa only [tLt, Bool.not_not, ge_iff_le] using hb
      clear hb
      refine JA fun K4 hK4 => ?_
      refine Qz F_mixed [some 2] rfl ?_
      simp only [zzK, QR, QP, QQ, JB, zz6, QO, ↓Qb]
      refine hK4 _ ?_; try clear hK4 K4
      refine kpA [2] ?_
      refine JJ ?_
      simp only [zz6, QO, ↓Qb]
      try simp only [QG]
      refine dnA ?_
      simp only [QD, QE, resA, JZ, QR, QP, JD, QQ, Qd, Qc, JP]
      have e : bookOk ⟨nx, pre ++ x :: post, ps⟩ = false := by simp only [bookOk]; rw [hk0, hck, chkR_step, hs]; rfl
      rw [e]
     ·intro hb
      have hs : (!trOk nx x || (decide ((pre.length : Int) > 0) && !tLt (lastOr x pre) x)) = false := by rw [trOk_ref]; simpa only [tLt, Bool.not_not, ge_iff_le] using hb
      clear hb
      refine JI ?_
      simp only [zz6, QO, ↓Qb]
      refine hK2 _ ?_; try clear hK2 K2
      refine kpA [1, 10] ?_
      refine Qz F_mixed [some 122, some 123, some 10] rfl ?_
      simp only [zzK, QR, QP, QQ, JC, zz21, JM, zz26, JB, zz6, QO, ↓Qb]
      refine ⟨post.length, _, by simp, le_SK id [] rfl (l' := [(1, .ptr 1 0 0), (10, .d (iv (pre ++ [x]).length))]) (m' := [(1, (⟨True, 58, 3, true, false, 1, [[.d (iv nx), .d (.sl 7 ((pre ++ x :: post).map tradeC)), .d (.sl 4 (ps.map posC))]]⟩ : ARow))]) ?_ ?_ ?_ ?_, pre ++ [x], post, by simp, by rw [hck, chkR_step, hs]; simp, rfl, rfl⟩
      ·simp only [leV, JD, QQ, Qd, Qc, JN, wrap_len pre x (by simp at ht; omega)]; exact ⟨Qn _, Qn _, trivial⟩
      ·exact ⟨fun _ => ⟨_, rfl, ⟨id, rfl, rfl, fun _ => rfl, id, .inl, VLess.refl _⟩⟩, fun h => by simp at h, trivial⟩
      ·simp [wfV, QY, QX, lookR]
      ·simp [wfR, QX, QY]
    ·intro hb
     obtain rfl := none_of hb; clear hb
     simp only [QG] at hck ht hd ⊢
     have hk1 := hck; clear hck
     obtain ⟨ts, ets⟩ : ∃ x, x = pre := ⟨_, rfl⟩
     subst ets
     refine JK ?_
     simp only [zz6, QO, ↓Qb]
     refine hK0 _ ?_; try clear hK0 K0
     refine kpA [] ?_
     refine JA fun K0 hK0 => ?_
     refine Qz F_mixed [some 2] rfl ?_
     simp only [zzK, QR, QP, QQ, JB, zz6, QO, ↓Qb]
     refine hK0 _ ?_; try clear hK0 K0
     refine kpA [2] ?_
     refine JJ ?_
     simp only [zz6, QO, ↓Qb]
     try simp only [QG]
     refine dnA ?_
     simp only [QD, QE, resA, JZ, QR, QP, JD, QQ, Qd, Qc, JP]
     have e : bookOk ⟨nx, ts, ps⟩ = true := by simp only [bookOk]; rw [hk0, hk1, rb_tail hd hlv]; rfl
     rw [e]
theorem rOf13_ (nx : Int) (ts : List TradeV) (ps : List PosV) (w n : Int) (hp : ps.length ≤ 1000000) : ACalls Try.prog 23 [.agg (bookC ⟨nx, ts, ps⟩), .agg [iv w, iv n]] [] (posA (ofP w n ps)) := by
 refine acalls_S (rs := [.cell 4 46]) Try.func23 rfl rfl 42 [(0, .d (.agg (bookC ⟨nx, ts, ps⟩))), (1, .d (.agg [iv w, iv n]))] rfl (by simp) rfl ?_
 refine JA fun K0 hK0 => ?_
 refine Qz F_mixed [some 2, some 3, some 4] rfl ?_
 simp only [zzK, QR, QP, QQ, zz35, JS, zz1, zzG, zzD, zzC, QA, yyE, Qe, QS, QN, zzH, zz32, F_zero46, zz10, bookC, tradesB, poss, zz6, QO, ↓Qb]
 refine hK0 _ ?_; try clear hK0 K0
 refine kpA [2, 3, 4] ?_
 refine JA fun K0 hK0 => ?_
 refine JA fun K1 hK1 => ?_
 refine Qz F_mixed [some 5] rfl ?_
 simp only [zzK, QR, QP, QQ, JB, zz6, QO, ↓Qb]
 refine hK1 _ ?_; try clear hK1 K1
 refine kpA [2, 3, 4, 5] ?_
 refine JH ?_
 refine JL (fun m s => ∃ (pre : List PosV) (post : List PosV), (ps = pre ++ post) ∧ (ofP w n ps = ofP w n post) ∧ m = post.length ∧ s = S 42 [(2, .ptr 2 0 0), (3, .ptr 3 0 0), (4, .ptr 4 0 0), (5, .d (iv pre.length))] [(2, (⟨True, 58, 3, true, false, 2, [[.d (iv nx), .d (.sl 7 (ts.map tradeC)), .d (.sl 4 (ps.map posC))]]⟩ : ARow)), (3, (⟨True, 29, 2, true, false, 3, [[.d (iv w), .d (iv n)]]⟩ : ARow)), (4, (⟨True, 46, 4, true, false, 4, [[.d (iv 0), .d (iv 0), .d (iv 0), .d (iv 0)]]⟩ : ARow))]) (ps.length) _ (le_SK id [] rfl (l' := [(2, .ptr 2 0 0), (3, .ptr 3 0 0), (4, .ptr 4 0 0), (5, .d (iv [].length))]) (m' := [(2, (⟨True, 58, 3, true, false, 2, [[.d (iv nx), .d (.sl 7 (ts.map tradeC)), .d (.sl 4 (ps.map posC))]]⟩ : ARow)), (3, (⟨True, 29, 2, true, false, 3, [[.d (iv w), .d (iv n)]]⟩ : ARow)), (4, (⟨True, 46, 4, true, false, 4, [[.d (iv 0), .d (iv 0), .d (iv 0), .d (iv 0)]]⟩ : ARow))]) ?_ ?_ ?_ ?_) ⟨[], ps, rfl, rfl, rfl, rfl⟩ ?_
 ·simp only [leV, JD, QQ, Qd, Qc]; exact ⟨(by first | exact Qo rfl | exact Qq (by decide) | exact Qp | exact Qn _ | exact Qs (by simp) (by rfl) | exact Qr (by simp) (by rfl) (by first | rfl | (simp; done) | (simp; omega)) | exact Qt (by first | rfl | simp)), (by first | exact Qo rfl | exact Qq (by decide) | exact Qp | exact Qn _ | exact Qs (by simp) (by rfl) | exact Qr (by simp) (by rfl) (by first | rfl | (simp; done) | (simp; omega)) | exact Qt (by first | rfl | simp)), (by first | exact Qo rfl | exact Qq (by decide) | exact Qp | exact Qn _ | exact Qs (by simp) (by rfl) | exact Qr (by simp) (by rfl) (by first | rfl | (simp; done) | (simp; omega)) | exact Qt (by first | rfl | simp)), (by first | exact Qo rfl | exact Qq (by decide) | exact Qp | exact Qn _ | exact Qs (by simp) (by rfl) | exact Qr (by simp) (by rfl) (by first | rfl | (simp; done) | (simp; omega)) | exact Qt (by first | rfl | simp)), trivial⟩
 ·exact ⟨fun _ => ⟨_, rfl, (by first | exact Qw (by first | rfl | simp) | exact Qx (by first | rfl | simp) (by simp) ids_data | exact Qv (by simp [QX, QY]) | exact Qu (by simp) (by simp [QX, QY]))⟩, fun h => by simp at h, fun _ => ⟨_, rfl, (by first | exact Qw (by first | rfl | simp) | exact Qx (by first | rfl | simp) (by simp) ids_data | exact Qv (by simp [QX, QY]) | exact Qu (by simp) (by simp [QX, QY]))⟩, fun h => by simp at h, fun _ => ⟨_, rfl, (by first | exact Qw (by first | rfl | simp) | exact Qx (by first | rfl | simp) (by simp) ids_data | exact Qv (by simp [QX, QY]) | exact Qu (by simp) (by simp [QX, QY]))⟩, fun h => by simp at h, trivial⟩
 ·simp [wfV, QY, QX, lookR, grow]
 ·exact ⟨by simp [QX, QY, lookR], by simp [QX, QY, lookR], by simp [QX, QY, lookR], trivial⟩
 rintro m s ⟨pre, post, hsp, ho, rfl, rfl⟩
 have hspl := congrArg List.length hsp
 simp only [QC] at hspl
 refine JA fun K2 hK2 => ?_
 refine JA fun K3 hK3 => ?_
 refine Qz F_mixed [some 6, some 7, some 8, some 9, some 10] rfl ?_
 simp only [zzK, QR, QP, QQ, JC, zz19, zz23, F_off58_2, zzH, QN, QS, F_ok42, F_ag42, F_sz42, zz8, zzD, zzC, QA, yyE, Qe, JE, zz12, F_sl42, Option.isSome_some, zz21, JM, zz22, JN, zz6, QO, ↓Qb]
 refine hK3 _ ?_; try clear hK3 K3
 refine kpA [2, 3, 4, 5, 10] ?_
 refine cnA ?_ ?_
 ·intro hb
  obtain ⟨x, post2, rfl⟩ : ∃ x t, post = x :: t := by
   cases post with
   | nil => have := Qg hb; simp at hspl; omega
   | cons x t => exact ⟨x, t, rfl⟩
  clear hb
  simp only [QF] at hspl
  have gx : (ps.map posC).getD pre.length [] = [iv x.who, iv x.inst, iv x.qty, iv x.cost] := by
   rw [hsp, List.map_append]; exact gd_mid' (A := pre.map posC) _ _ (by simp)
  have bx := ltI (show pre.length < ps.length by omega)
  have hwx : Ql .i64 ((pre.length : Int) + 1) = ((pre ++ [x]).length : Int) := by rw [wrapI (by omega) (by omega)]; simp
  refine JI ?_
  simp only [zz6, QO, ↓Qb]
  refine hK2 _ ?_; try clear hK2 K2
  refine kpA [2, 3, 4, 5] ?_
  refine JA fun K2 hK2 => ?_
  refine JH ?_
  refine JA fun K3 hK3 => ?_
  refine awp_draw F_mixed [some 13, some 14, some 15, some 16, some 17, some 18, some 19, some 20, some 21, some 22, some 23, some 24, some 25, some 26, some 27, some 28, some 29, some 30, some 31, some 32, some 33, some 34] rfl (by kernel_rfl) ?_
  simp only [zzK, QR, QP, QQ, QU, JZ, zz5, Qj, Qi, Qh, zz19, zz23, F_off58_2, zzH, QN, QS, F_ok42, F_ag42, F_sz42, zz8, zzD, zzC, QA, yyE, Qe, JC, JW, zz24, F_sl42, F_sz46, F_off46_0, F_off29_0, F_ok3, F_ag3, F_sz3, zz21, JM, zz34, F_off29_1, zz13, JQ, JR, posC, gx, bx, hwx, JN, ge0, QV, QW, zz6, QO, ↓Qb]
  refine hK3 _ ?_; try clear hK3 K3
  refine kpA [2, 3, 4, 5, 34] ?_
  refine cnA ?_ ?_
  ·intro hb
   have hs : kSame w n x = true := hb
   clear hb
   refine JA fun K4 hK4 => ?_
   refine Qz F_mixed [some 35, some 36, some 37, some 38, some 39, none] rfl ?_
   simp only [zzK, QR, QP, QQ, zz19, zz23, F_off58_2, zzH, QN, QS, F_ok42, F_ag42, F_sz42, zz8, zzD, zzC, QA, yyE, Qe, JC, JW, zz24, F_sl42, F_sz46, F_ok46, F_ag46, zz18, splice, QG, zz1, zzG, posC, gx, bx, hwx, JN, ge0, QV, QW, zz6, QO, ↓Qb]
   refine hK4 _ ?_; try clear hK4 K4
   refine kpA [4] ?_
   refine JJ ?_
   simp only [zz6, QO, ↓Qb]
   refine done0 (by simp [resCs, resC, S, List.getD, JD, lookR, F_ag46, F_sz46, F_ok46]) ?_ (by simp [Ja, Jb, Jc, posA]) (by simp [QY, QX, posA])
   simp only [QD, QE, resA, JZ, S_mem, lookR_cons, lookR_nil, QR, QP, JD, QQ, Qd, Qc, JP, QI, QJ, QH, QL, QK, List.take_zero, F_ag46, F_sz46, F_ok46]
   rw [ho, ofP, hs]; rfl
  ·intro hb
   have hs : kSame w n x = false := hb
   clear hb
   refine JI ?_
   simp only [zz6, QO, ↓Qb]
   refine hK2 _ ?_; try clear hK2 K2
   refine kpA [2, 3, 4, 5] ?_
   refine Qz F_mixed [some 11, some 12, some 5] rfl ?_
   simp only [zzK, QR, QP, QQ, JC, zz21, JM, zz26, JB, hwx, zz6, QO, ↓Qb]
   refine ⟨post2.length, _, by simp, le_SK id [] rfl (l' := [(2, .ptr 2 0 0), (3, .ptr 3 0 0), (4, .ptr 4 0 0), (5, .d (iv (pre ++ [x]).length))]) (m' := [(2, (⟨True, 58, 3, true, false, 2, [[.d (iv nx), .d (.sl 7 (ts.map tradeC)), .d (.sl 4 (ps.map posC))]]⟩ : ARow)), (3, (⟨True, 29, 2, true, false, 3, [[.d (iv w), .d (iv n)]]⟩ : ARow)), (4, (⟨True, 46, 4, true, false, 4, [[.d (iv 0), .d (iv 0), .d (iv 0), .d (iv 0)]]⟩ : ARow))]) ?_ ?_ ?_ ?_, (pre ++ [x]), post2, by simp [hsp], by rw [ho, ofP, hs]; rfl, rfl, rfl⟩
   ·simp only [leV, JD, QQ, Qd, Qc, hwx]; exact ⟨(by first | exact Qo rfl | exact Qq (by decide) | exact Qp | exact Qn _ | exact Qs (by simp) (by rfl) | exact Qr (by simp) (by rfl) (by first | rfl | (simp; done) | (simp; omega)) | exact Qt (by first | rfl | simp)), (by first | exact Qo rfl | exact Qq (by decide) | exact Qp | exact Qn _ | exact Qs (by simp) (by rfl) | exact Qr (by simp) (by rfl) (by first | rfl | (simp; done) | (simp; omega)) | exact Qt (by first | rfl | simp)), (by first | exact Qo rfl | exact Qq (by decide) | exact Qp | exact Qn _ | exact Qs (by simp) (by rfl) | exact Qr (by simp) (by rfl) (by first | rfl | (simp; done) | (simp; omega)) | exact Qt (by first | rfl | simp)), (by first | exact Qo rfl | exact Qq (by decide) | exact Qp | exact Qn _ | exact Qs (by simp) (by rfl) | exact Qr (by simp) (by rfl) (by first | rfl | (simp; done) | (simp; omega)) | exact Qt (by first | rfl | simp)), trivial⟩
   ·exact ⟨fun _ => ⟨_, rfl, (by first | exact Qw (by first | rfl | simp) | exact Qx (by first | rfl | simp) (by simp) ids_data | exact Qv (by simp [QX, QY]) | exact Qu (by simp) (by simp [QX, QY]))⟩, fun h => by simp at h, fun _ => ⟨_, rfl, (by first | exact Qw (by first | rfl | simp) | exact Qx (by first | rfl | simp) (by simp) ids_data | exact Qv (by simp [QX, QY]) | exact Qu (by simp) (by simp [QX, QY]))⟩, fun h => by simp at h, fun _ => ⟨_, rfl, (by first | exact Qw (by first | rfl | simp) | exact Qx (by first | rfl | simp) (by simp) ids_data | exact Qv (by simp [QX, QY]) | exact Qu (by simp) (by simp [QX, QY]))⟩, fun h => by simp at h, trivial⟩
   ·simp [wfV, QY, QX, lookR, grow]
   ·exact ⟨by simp [QX, QY, lookR], by simp [QX, QY, lookR], by simp [QX, QY, lookR], trivial⟩
 ·intro hb
  obtain rfl : post = [] := by
   cases post with
   | nil => rfl
   | cons x t => have := Qf hb; simp at hspl; omega
  clear hb
  simp only [QG] at hsp
  subst hsp
  refine JK ?_
  simp only [zz6, QO, ↓Qb]
  refine hK0 _ ?_; try clear hK0 K0
  refine kpA [3, 4] ?_
  refine JA fun K0 hK0 => ?_
  refine Qz F_mixed [some 40, some 41, none] rfl ?_
  simp only [zzK, QR, QP, QQ, F_ok29, F_ag29, F_sz29, zz8, zz23, zzD, QS, QN, zzH, zzC, QA, yyE, Qe, F_zero46, F_bld46, zz7, splice, Option.getD_some, QG, zz1, zzG, zz10, F_fld46_0, zz18, F_ok46, F_sz46, QW, zz6, QO, ↓Qb]
  refine hK0 _ ?_; try clear hK0 K0
  refine kpA [4] ?_
  refine JJ ?_
  simp only [zz6, QO, ↓Qb]
  refine done0 (by simp [resCs, resC, S, List.getD, JD, lookR, F_ag46, F_sz46, F_ok46]) ?_ (by simp [Ja, Jb, Jc, posA]) (by simp [QY, QX, posA])
  simp only [QD, QE, resA, JZ, S_mem, lookR_cons, lookR_nil, QR, QP, JD, QQ, Qd, Qc, JP, QI, QJ, QH, QL, QK, List.take_zero, F_ag46, F_sz46, F_ok46]
  rw [ho]; rfl
set_option maxRecDepth 100000 in
set_option maxHeartbeats 4000000 in
theorem rBoth_ (nx : Int) (ts : List TradeV) (ps : List PosV) (n : Int) (hp : ps.length ≤ 900000) : ACalls Try.prog 26 [.agg (bookC ⟨nx, ts, ps⟩), iv n] [] (.tp [.d (iv (tsQ (iF n ps))), .d (iv (tsC (iF n ps)))]) := by
 refine acalls_S (rs := [.tmp 4, .tmp 5]) Try.func26 rfl rfl 83 [(0, .d (.agg (bookC ⟨nx, ts, ps⟩))), (1, .d (iv n))] rfl (by simp) rfl ?_
 refine JA fun K0 hK0 => ?_
 refine Qz F_mixed [some 2, some 4, some 5] rfl ?_
 simp only [zzK, QR, QP, QQ, zz35, JS, zz1, zzG, zzD, zzC, QA, yyE, Qe, QS, QN, zzH, JB, bookC, tradesB, poss, zz6, QO, ↓Qb]
 refine hK0 _ ?_; try clear hK0 K0
 refine kpA [1, 2] ?_
 refine JA fun K0 hK0 => ?_
 refine Qz F_mixed [some 6, some 7] rfl ?_
 simp only [zzK, QR, QP, QQ, JB, zz6, QO, ↓Qb]
 refine hK0 _ ?_; try clear hK0 K0
 refine kpA [1, 2, 6, 7] ?_
 refine JA fun K0 hK0 => ?_
 refine JA fun K1 hK1 => ?_
 refine Qz F_mixed [some 8] rfl ?_
 simp only [zzK, QR, QP, QQ, JB, zz6, QO, ↓Qb]
 refine hK1 _ ?_; try clear hK1 K1
 refine kpA [1, 2, 6, 7, 8] ?_
 refine JH ?_
 refine JL (fun m s => ∃ (pre : List PosV) (post : List PosV), (ps = pre ++ post) ∧ (tsA (iF n pre) = true) ∧ m = post.length ∧ s = S 83 [(1, .d (iv n)), (2, .ptr 2 0 0), (6, .ref 6 ((iF n pre).map PosV.qty).length), (7, .ref 7 ((iF n pre).map PosV.cost).length), (8, .d (iv pre.length))] [(2, (⟨True, 58, 3, true, false, 2, [[.d (iv nx), .d (.sl 7 (ts.map tradeC)), .d (.sl 4 (ps.map posC))]]⟩ : ARow)), (6, grow 3 1 6 (((iF n pre).map PosV.qty).map fun n => [iv n])), (7, grow 3 1 7 (((iF n pre).map PosV.cost).map fun n => [iv n]))]) (ps.length) _ (le_SK id [6, 7] rfl (l' := [(1, .d (iv n)), (2, .ptr 2 0 0), (6, .ref 6 ((iF n []).map PosV.qty).length), (7, .ref 7 ((iF n []).map PosV.cost).length), (8, .d (iv [].length))]) (m' := [(2, (⟨True, 58, 3, true, false, 2, [[.d (iv nx), .d (.sl 7 (ts.map tradeC)), .d (.sl 4 (ps.map posC))]]⟩ : ARow)), (6, grow 3 1 6 (((iF n []).map PosV.qty).map fun n => [iv n])), (7, grow 3 1 7 (((iF n []).map PosV.cost).map fun n => [iv n]))]) ?_ ?_ ?_ ?_) ⟨[], ps, rfl, rfl, rfl, rfl⟩ ?_
 ·simp only [leV, JD, QQ, Qd, Qc]; exact ⟨(by first | exact Qo rfl | exact Qq (by decide) | exact Qp | exact Qn _ | exact Qs (by simp) (by rfl) | exact Qr (by simp) (by rfl) (by first | rfl | (simp; done) | (simp; omega)) | exact Qt (by first | rfl | simp)), (by first | exact Qo rfl | exact Qq (by decide) | exact Qp | exact Qn _ | exact Qs (by simp) (by rfl) | exact Qr (by simp) (by rfl) (by first | rfl | (simp; done) | (simp; omega)) | exact Qt (by first | rfl | simp)), (by first | exact Qo rfl | exact Qq (by decide) | exact Qp | exact Qn _ | exact Qs (by simp) (by rfl) | exact Qr (by simp) (by rfl) (by first | rfl | (simp; done) | (simp; omega)) | exact Qt (by first | rfl | simp)), (by first | exact Qo rfl | exact Qq (by decide) | exact Qp | exact Qn _ | exact Qs (by simp) (by rfl) | exact Qr (by simp) (by rfl) (by first | rfl | (simp; done) | (simp; omega)) | exact Qt (by first | rfl | simp)), (by first | exact Qo rfl | exact Qq (by decide) | exact Qp | exact Qn _ | exact Qs (by simp) (by rfl) | exact Qr (by simp) (by rfl) (by first | rfl | (simp; done) | (simp; omega)) | exact Qt (by first | rfl | simp)), trivial⟩
 ·exact ⟨fun _ => ⟨_, rfl, (by first | exact Qw (by first | rfl | simp) | exact Qx (by first | rfl | simp) (by simp) ids_data | exact Qv (by simp [QX, QY]) | exact Qu (by simp) (by simp [QX, QY]))⟩, fun h => by simp at h, fun h => by simp at h, fun _ => rfl, fun h => by simp at h, fun _ => rfl, trivial⟩
 ·simp [wfV, QY, QX, lookR, grow]
 ·exact ⟨by simp [QX, QY, lookR], wf_data _ _, wf_data _ _, trivial⟩
 rintro m s ⟨pre, post, hsp, hA, rfl, rfl⟩
 have hspl := congrArg List.length hsp
 simp only [QC] at hspl
 have hql := iF_len n pre
 obtain ⟨qn, hqn⟩ : ∃ k, k = ((iF n pre).map PosV.qty).length := ⟨_, rfl⟩
 have hqn2 : ((iF n pre).map PosV.qty).length = (iF n pre).length := by simp
 have hcn2 : ((iF n pre).map PosV.cost).length = (iF n pre).length := by simp
 refine JA fun K2 hK2 => ?_
 refine JA fun K3 hK3 => ?_
 refine Qz F_mixed [some 13, some 14, some 15, some 16, some 17] rfl ?_
 simp only [zzK, QR, QP, QQ, JC, zz19, zz23, F_off58_2, zzH, QN, QS, F_ok42, F_ag42, F_sz42, zz8, zzD, zzC, QA, yyE, Qe, JE, zz12, F_sl42, Option.isSome_some, zz21, JM, zz22, JN, zz6, QO, ↓Qb]
 refine hK3 _ ?_; try clear hK3 K3
 refine kpA [1, 2, 6, 7, 8, 17] ?_
 refine cnA ?_ ?_
 ·intro hb
  obtain ⟨x, post2, rfl⟩ : ∃ x t, post = x :: t := by
   cases post with
   | nil => have := Qg hb; simp at hspl; omega
   | cons x t => exact ⟨x, t, rfl⟩
  clear hb
  simp only [QF] at hspl
  have gx : (ps.map posC).getD pre.length [] = [iv x.who, iv x.inst, iv x.qty, iv x.cost] := by
   rw [hsp, List.map_append]; exact gd_mid' (A := pre.map posC) _ _ (by simp)
  have bx := ltI (show pre.length < ps.length by omega)
  have hwx : Ql .i64 ((pre.length : Int) + 1) = ((pre ++ [x]).length : Int) := by rw [wrapI (by omega) (by omega)]; simp
  refine JI ?_
  simp only [zz6, QO, ↓Qb]
  refine hK2 _ ?_; try clear hK2 K2
  refine kpA [1, 2, 6, 7, 8] ?_
  refine JA fun K2 hK2 => ?_
  refine JH ?_
  refine JA fun K3 hK3 => ?_
  refine Qz F_mixed [some 20, some 21, some 22, some 23, some 24, some 25, some 26, some 27, some 28] rfl ?_
  simp only [zzK, QR, QP, QQ, zz19, zz23, F_off58_2, zzH, QN, QS, F_ok42, F_ag42, F_sz42, zz8, zzD, zzC, QA, yyE, Qe, JC, JW, zz24, F_sl42, F_sz46, F_off46_0, F_off29_1, F_ok3, F_ag3, F_sz3, zz21, JM, zz34, posC, gx, bx, hwx, JN, ge0, QV, QW, zz6, QO, ↓Qb]
  refine hK3 _ ?_; try clear hK3 K3
  refine kpA [1, 2, 6, 7, 8, 28] ?_
  refine cnA ?_ ?_
  ·intro hb
   have hs : (x.inst == n) = true := hb
   clear hb
   refine JA fun K4 hK4 => ?_
   refine JA fun K5 hK5 => ?_
   refine Qz F_mixed [some 29, some 30, some 31, some 32, some 33, some 34, some 35, some 36, some 37, some 38, some 39, some 40, some 41, some 42, some 43, some 44, some 45, some 46] rfl ?_
   simp only [zzK, QR, QP, QQ, QU, JZ, zz5, Qj, Qi, Qh, zz19, zz23, F_off58_2, zzH, QN, QS, F_ok42, F_ag42, F_sz42, zz8, zzD, zzC, QA, yyE, Qe, JC, JW, zz24, F_sl42, F_sz46, F_off46_1, F_ok3, F_ag3, F_sz3, JE, JF, zz29, JM, zz30, F_off46_2, zz13, JQ, JR, posC, gx, bx, hwx, JN, ge0, QV, QW, zz6, QO, ↓Qb]
   refine JT F_go44 (fun hG => rRight_ x.qty) (by simp [QY, QX]) (by simp) ?_
   simp only [zzK, QR, QP, QQ, QU, JZ, zz5, Qj, Qi, Qh, zz19, zz23, F_off58_2, zzH, QN, QS, F_ok42, F_ag42, F_sz42, zz8, zzD, zzC, QA, yyE, Qe, JC, JW, zz24, F_sl42, F_sz46, F_off46_1, F_ok3, F_ag3, F_sz3, JE, JF, zz29, JM, zz30, F_off46_2, zz13, JQ, JR, posC, gx, bx, hwx, JN, ge0, QV, QW, zz6, QO, ↓Qb, atsL, oksG, JV, QZ, Qa, JO, Qm, QT, QS, zz9, QB, QA, S_mem, yyF, QF, zz2]
   refine JT F_go44 (fun hG => rRight_ x.cost) (by simp [QY, QX]) (by simp) ?_
   simp only [zzK, QR, QP, QQ, QU, JZ, zz5, Qj, Qi, Qh, zz19, zz23, F_off58_2, zzH, QN, QS, F_ok42, F_ag42, F_sz42, zz8, zzD, zzC, QA, yyE, Qe, JC, JW, zz24, F_sl42, F_sz46, F_off46_1, F_ok3, F_ag3, F_sz3, JE, JF, zz29, JM, zz30, F_off46_2, zz13, JQ, JR, posC, gx, bx, hwx, JN, ge0, QV, QW, zz6, QO, ↓Qb, atsL, oksG, JV, QZ, Qa, JO, Qm, QT, QS, zz9, QB, QA, S_mem, yyF, QF, zz2]
   refine hK5 _ ?_; try clear hK5 K5
   refine kpA [1, 2, 6, 7, 8, 46] ?_
   refine cnA ?_ ?_
   ·intro hb
    obtain ⟨z1, z2⟩ := both_no (n := n) (ps := ps) (by rw [hsp]; simp) hs hb
    refine JA fun K6 hK6 => ?_
    refine Qz F_mixed [some 4, some 5] rfl ?_
    simp only [zzK, QR, QP, QQ, JB, zz6, QO, ↓Qb]
    refine hK6 _ ?_; try clear hK6 K6
    refine kpA [4, 5] ?_
    refine JJ ?_
    simp only [zz6, QO, ↓Qb]
    refine dnA ?_
    simp only [QD, QE, resA, JZ, QR, QP, JD, QQ, Qd, Qc, JP]
    rw [z1, z2]
   ·intro hb
    have hA2 := both_a hs hb hA
    clear hb
    have hq : ((iF n (pre ++ [x])).map PosV.qty) = ((iF n pre).map PosV.qty) ++ [x.qty] := by rw [iF_yes hs, List.map_append]; rfl
    have hc : ((iF n (pre ++ [x])).map PosV.cost) = ((iF n pre).map PosV.cost) ++ [x.cost] := by rw [iF_yes hs, List.map_append]; rfl
    refine JI ?_
    simp only [zz6, QO, ↓Qb]
    refine hK4 _ ?_; try clear hK4 K4
    refine kpA [1, 2, 6, 7, 8] ?_
    refine JA fun K4 hK4 => ?_
    refine Qz F_mixed [some 47, some 48, some 49, some 50, some 51, some 52, some 53, some 54, some 55, some 6] rfl ?_
    simp only [zzK, QR, QP, QQ, JC, zz19, zz23, F_off58_2, zzH, QN, QS, F_ok42, F_ag42, F_sz42, zz8, zzD, zzC, QA, yyE, Qe, JW, zz24, F_sl42, F_sz46, F_off46_1, F_ok3, F_ag3, F_sz3, F_sl90, F_zero3, zz3, JS, zz1, zzG, maxLen_le, QT, JE, F_by3, zz4, zz9, QB, JB, posC, grow, unDs_map, gx, bx, hwx, JN, ge0, QV, QW, zz6, QO, ↓Qb]
    have hm : (iF n pre).length + 1 ≤ 1000000 := by first | omega | (simp; omega)
    first | refine ⟨le_maxLen hm, by omega, ?_⟩ | refine ⟨by simp, le_maxLen hm, by omega, ?_⟩
    clear hm
    refine hK4 _ ?_; try clear hK4 K4
    refine kpA [1, 2, 6, 7, 8] ?_
    refine Qz F_mixed [some 56, some 57, some 58, some 59, some 60, some 61, some 62, some 63, some 64, some 7] rfl ?_
    simp only [zzK, QR, QP, QQ, JC, zz19, zz23, F_off58_2, zzH, QN, QS, F_ok42, F_ag42, F_sz42, zz8, zzD, zzC, QA, yyE, Qe, JW, zz24, F_sl42, F_sz46, F_off46_2, F_ok3, F_ag3, F_sz3, F_sl90, F_zero3, zz3, JS, zz1, zzG, maxLen_le, QT, JE, F_by3, zz4, zz9, QB, JB, posC, grow, unDs_map, gx, bx, hwx, JN, ge0, QV, QW, zz6, QO, ↓Qb]
    have hm : (iF n pre).length + 1 ≤ 1000000 := by first | omega | (simp; omega)
    first | refine ⟨le_maxLen hm, by omega, ?_⟩ | refine ⟨by simp, le_maxLen hm, by omega, ?_⟩
    clear hm
    refine hK2 _ ?_; try clear hK2 K2
    refine kpA [1, 2, 6, 7, 8] ?_
    refine Qz F_mixed [some 18, some 19, some 8] rfl ?_
    simp only [zzK, QR, QP, QQ, JC, zz21, JM, zz26, JB, hwx, zz6, QO, ↓Qb]
    refine ⟨post2.length, _, by simp, le_SK (fun r => bif r == 7 then 64 else bif r == 6 then 55 else r) [] rfl (l' := [(1, .d (iv n)), (2, .ptr 2 0 0), (6, .ref 6 ((iF n (pre ++ [x])).map PosV.qty).length), (7, .ref 7 ((iF n (pre ++ [x])).map PosV.cost).length), (8, .d (iv (pre ++ [x]).length))]) (m' := [(2, (⟨True, 58, 3, true, false, 2, [[.d (iv nx), .d (.sl 7 (ts.map tradeC)), .d (.sl 4 (ps.map posC))]]⟩ : ARow)), (6, grow 3 1 6 (((iF n (pre ++ [x])).map PosV.qty).map fun n => [iv n])), (7, grow 3 1 7 (((iF n (pre ++ [x])).map PosV.cost).map fun n => [iv n]))]) ?_ ?_ ?_ ?_, (pre ++ [x]), post2, by simp [hsp], hA2, rfl, rfl⟩
    ·simp only [leV, JD, QQ, Qd, Qc, hwx, hq, hc]; exact ⟨(by first | exact Qo rfl | exact Qq (by decide) | exact Qp | exact Qn _ | exact Qs (by simp) (by rfl) | exact Qr (by simp) (by rfl) (by first | rfl | (simp; done) | (simp; omega)) | exact Qt (by first | rfl | simp)), (by first | exact Qo rfl | exact Qq (by decide) | exact Qp | exact Qn _ | exact Qs (by simp) (by rfl) | exact Qr (by simp) (by rfl) (by first | rfl | (simp; done) | (simp; omega)) | exact Qt (by first | rfl | simp)), (by first | exact Qo rfl | exact Qq (by decide) | exact Qp | exact Qn _ | exact Qs (by simp) (by rfl) | exact Qr (by simp) (by rfl) (by first | rfl | (simp; done) | (simp; omega)) | exact Qt (by first | rfl | simp)), (by first | exact Qo rfl | exact Qq (by decide) | exact Qp | exact Qn _ | exact Qs (by simp) (by rfl) | exact Qr (by simp) (by rfl) (by first | rfl | (simp; done) | (simp; omega)) | exact Qt (by first | rfl | simp)), (by first | exact Qo rfl | exact Qq (by decide) | exact Qp | exact Qn _ | exact Qs (by simp) (by rfl) | exact Qr (by simp) (by rfl) (by first | rfl | (simp; done) | (simp; omega)) | exact Qt (by first | rfl | simp)), trivial⟩
    ·exact ⟨fun _ => ⟨_, rfl, (by first | exact Qw (by first | rfl | simp) | exact Qx (by first | rfl | simp) (by simp) ids_data | exact Qv (by simp [QX, QY]) | exact Qu (by simp) (by simp [QX, QY]))⟩, fun h => by simp at h, fun _ => ⟨_, rfl, Qw (by rw [hq]; simp)⟩, fun h => by simp at h, fun _ => ⟨_, rfl, Qw (by rw [hc]; simp)⟩, fun h => by simp at h, trivial⟩
    ·simp [wfV, QY, QX, lookR, grow]
    ·exact ⟨by simp [QX, QY, lookR], wf_data _ _, wf_data _ _, trivial⟩
  ·intro hb
   have hs : (x.inst == n) = false := hb
   clear hb
   have hA2 := both_b hs hA
   have hq : ((iF n (pre ++ [x])).map PosV.qty) = ((iF n pre).map PosV.qty) := by rw [iF_no hs]
   have hc : ((iF n (pre ++ [x])).map PosV.cost) = ((iF n pre).map PosV.cost) := by rw [iF_no hs]
   refine JI ?_
   simp only [zz6, QO, ↓Qb]
   refine hK2 _ ?_; try clear hK2 K2
   refine kpA [1, 2, 6, 7, 8] ?_
   refine Qz F_mixed [some 18, some 19, some 8] rfl ?_
   simp only [zzK, QR, QP, QQ, JC, zz21, JM, zz26, JB, hwx, zz6, QO, ↓Qb]
   refine ⟨post2.length, _, by simp, le_SK id [] rfl (l' := [(1, .d (iv n)), (2, .ptr 2 0 0), (6, .ref 6 ((iF n (pre ++ [x])).map PosV.qty).length), (7, .ref 7 ((iF n (pre ++ [x])).map PosV.cost).length), (8, .d (iv (pre ++ [x]).length))]) (m' := [(2, (⟨True, 58, 3, true, false, 2, [[.d (iv nx), .d (.sl 7 (ts.map tradeC)), .d (.sl 4 (ps.map posC))]]⟩ : ARow)), (6, grow 3 1 6 (((iF n (pre ++ [x])).map PosV.qty).map fun n => [iv n])), (7, grow 3 1 7 (((iF n (pre ++ [x])).map PosV.cost).map fun n => [iv n]))]) ?_ ?_ ?_ ?_, (pre ++ [x]), post2, by simp [hsp], hA2, rfl, rfl⟩
   ·simp only [leV, JD, QQ, Qd, Qc, hwx, hq, hc]; exact ⟨(by first | exact Qo rfl | exact Qq (by decide) | exact Qp | exact Qn _ | exact Qs (by simp) (by rfl) | exact Qr (by simp) (by rfl) (by first | rfl | (simp; done) | (simp; omega)) | exact Qt (by first | rfl | simp)), (by first | exact Qo rfl | exact Qq (by decide) | exact Qp | exact Qn _ | exact Qs (by simp) (by rfl) | exact Qr (by simp) (by rfl) (by first | rfl | (simp; done) | (simp; omega)) | exact Qt (by first | rfl | simp)), (by first | exact Qo rfl | exact Qq (by decide) | exact Qp | exact Qn _ | exact Qs (by simp) (by rfl) | exact Qr (by simp) (by rfl) (by first | rfl | (simp; done) | (simp; omega)) | exact Qt (by first | rfl | simp)), (by first | exact Qo rfl | exact Qq (by decide) | exact Qp | exact Qn _ | exact Qs (by simp) (by rfl) | exact Qr (by simp) (by rfl) (by first | rfl | (simp; done) | (simp; omega)) | exact Qt (by first | rfl | simp)), (by first | exact Qo rfl | exact Qq (by decide) | exact Qp | exact Qn _ | exact Qs (by simp) (by rfl) | exact Qr (by simp) (by rfl) (by first | rfl | (simp; done) | (simp; omega)) | exact Qt (by first | rfl | simp)), trivial⟩
   ·exact ⟨fun _ => ⟨_, rfl, (by first | exact Qw (by first | rfl | simp) | exact Qx (by first | rfl | simp) (by simp) ids_data | exact Qv (by simp [QX, QY]) | exact Qu (by simp) (by simp [QX, QY]))⟩, fun h => by simp at h, fun _ => ⟨_, rfl, Qw (by rw [hq])⟩, fun h => by simp at h, fun _ => ⟨_, rfl, Qw (by rw [hc])⟩, fun h => by simp at h, trivial⟩
   ·simp [wfV, QY, QX, lookR, grow]
   ·exact ⟨by simp [QX, QY, lookR], wf_data _ _, wf_data _ _, trivial⟩
 ·intro hb
  obtain rfl : post = [] := by
   cases post with
   | nil => rfl
   | cons x t => have := Qf hb; simp at hspl; omega
  clear hb
  simp only [QG] at hsp
  obtain rfl : ps = pre := hsp
  obtain ⟨b1, b2⟩ := both_bnd hA
  refine JK ?_
  simp only [zz6, QO, ↓Qb]
  refine hK0 _ ?_; try clear hK0 K0
  refine kpA [6, 7] ?_
  refine JA fun K0 hK0 => ?_
  refine Qz F_mixed [some 66, some 67, some 65, some 68, some 69, some 9, some 10] rfl ?_
  simp only [zzK, QR, QP, QQ, JC, JE, JF, zz14, zzD, QS, QN, zzF, JB, ints, grow, D.sl.injEq, JN, zz6, QO, ↓Qb]
  refine JT F_go45 (fun hG => Add_ ((iF n ps).map PosV.qty) (by omega) b1) (by simp [QY, QX]) (by simp) ?_
  simp only [zzK, QR, QP, QQ, JC, JE, JF, zz14, zzD, QS, QN, zzF, JB, ints, grow, JN, zz6, QO, ↓Qb, atsL, oksG, JV, QZ, Qa, JO, Qm, QT, QS, zz9, QB, QA, zzC, yyF, QF, zz2]
  first | refine ⟨by simp, ?_⟩ | skip
  refine hK0 _ ?_; try clear hK0 K0
  refine kpA [7, 9, 10] ?_
  refine JA fun K0 hK0 => ?_
  refine Qz F_mixed [some 71, some 72, some 70, some 73, some 74, some 11, some 12] rfl ?_
  simp only [zzK, QR, QP, QQ, JC, JE, JF, zz14, zzD, QS, QN, zzF, JB, ints, grow, D.sl.injEq, JN, zz6, QO, ↓Qb]
  refine JT F_go45 (fun hG => Add_ ((iF n ps).map PosV.cost) (by omega) b2) (by simp [QY, QX]) (by simp) ?_
  simp only [zzK, QR, QP, QQ, JC, JE, JF, zz14, zzD, QS, QN, zzF, JB, ints, grow, JN, zz6, QO, ↓Qb, atsL, oksG, JV, QZ, Qa, JO, Qm, QT, QS, zz9, QB, QA, zzC, yyF, QF, zz2]
  first | refine ⟨by simp, ?_⟩ | skip
  refine hK0 _ ?_; try clear hK0 K0
  refine kpA [9, 10, 11, 12] ?_
  refine JA fun K0 hK0 => ?_
  refine JA fun K1 hK1 => ?_
  refine Qz F_mixed [some 75, some 76, some 77, some 78, some 79, some 80] rfl ?_
  simp only [zzK, QR, QP, QQ, QU, JZ, zz5, Qj, Qi, Qh, and_self, JC, zz29, JM, zz30, zz13, JQ, JR, zz6, QO, ↓Qb]
  refine hK1 _ ?_; try clear hK1 K1
  refine kpA [9, 11, 80] ?_
  refine cnA ?_ ?_
  ·intro hb
   obtain ⟨z1, z2⟩ := both_bad hA hb
   refine JA fun K2 hK2 => ?_
   refine Qz F_mixed [some 4, some 5] rfl ?_
   simp only [zzK, QR, QP, QQ, JB, zz6, QO, ↓Qb]
   refine hK2 _ ?_; try clear hK2 K2
   refine kpA [4, 5] ?_
   refine JJ ?_
   simp only [zz6, QO, ↓Qb]
   refine dnA ?_
   simp only [QD, QE, resA, JZ, QR, QP, JD, QQ, Qd, Qc, JP]
   rw [z1, z2]
  ·intro hb
   obtain ⟨z1, z2⟩ := both_val hA hb
   refine JI ?_
   simp only [zz6, QO, ↓Qb]
   refine hK0 _ ?_; try clear hK0 K0
   refine kpA [9, 11] ?_
   refine JA fun K0 hK0 => ?_
   refine Qz F_mixed [some 81, some 82, some 4, some 5] rfl ?_
   simp only [zzK, QR, QP, QQ, JC, JB, zz6, QO, ↓Qb]
   refine hK0 _ ?_; try clear hK0 K0
   refine kpA [4, 5] ?_
   refine JJ ?_
   simp only [zz6, QO, ↓Qb]
   refine dnA ?_
   simp only [QD, QE, resA, JZ, QR, QP, JD, QQ, Qd, Qc, JP]
   rw [← z1, ← z2]
theorem twinBk_ (nx : Int) (ts : List TradeV) (ps : List PosV) (ht : ts.length ≤ 1000000) (hp : ps.length ≤ 1000000) : ACalls Try.prog 46 [.agg (bookC ⟨nx, ts, ps⟩)] [⟨86, 7, ts.map tradeC⟩, ⟨46, 4, ps.map posC⟩] (.ag [.d (iv nx), .ref 0 ts.length, .ref 1 ps.length]) := by
 refine acalls_S (rs := [.cell 2 58]) Try.func46 rfl rfl 20 [(0, .d (.agg (bookC ⟨nx, ts, ps⟩)))] rfl (by simp) rfl ?_
 refine JA fun K0 hK0 => ?_
 refine Qz F_mixed [some 1, some 2] rfl ?_
 simp only [zzK, QR, QP, QQ, zz35, JS, zz1, zzG, zzD, zzC, QA, yyE, Qe, QS, QN, zzH, zz32, F_zero58, zz10, bookC, tradesB, poss, zz6, QO, ↓Qb]
 refine hK0 _ ?_; try clear hK0 K0
 refine kpA [1, 2] ?_
 refine JA fun K0 hK0 => ?_
 refine Qz F_mixed [some 4, some 5, some 6, some 3, none] rfl ?_
 simp only [zzK, QR, QP, QQ, zz19, zz23, F_off58_0, zzH, QN, QS, F_ok3, F_ag3, F_sz3, zz8, zzD, zzC, QA, yyE, Qe, F_zero58, F_bld58, zz7, splice, Option.getD_some, QG, zz1, zzG, zz10, F_fld58_0, zz32, JS, zz18, F_ok58, F_sz58, QW, zz6, QO, ↓Qb]
 refine hK0 _ ?_; try clear hK0 K0
 refine kpA [1, 2, 3] ?_
 refine JA fun K0 hK0 => ?_
 refine Qz F_mixed [some 7, some 8, some 9, some 10, some 11, some 12, none] rfl ?_
 simp only [zzK, QR, QP, QQ, zz19, zz23, F_off58_1, zzH, QN, QS, F_ok56, F_ag56, F_sz56, zz8, zzD, zzC, QA, yyE, Qe, JE, F_sl56, F_zero86, F_sz86, F_by86, zz4, maxLen_le, QT, JS, zz9, QB, zz18, splice, QG, zz1, zzG, JN, zz6, QO, ↓Qb]
 first | refine ⟨le_maxLen ht, by omega, ?_⟩ | refine ⟨by simp, le_maxLen ht, by omega, ?_⟩ | refine ⟨⟨le_maxLen ht, by omega⟩, ?_⟩
 refine hK0 _ ?_; try clear hK0 K0
 refine kpA [1, 2, 3] ?_
 refine JA fun K0 hK0 => ?_
 refine Qz F_mixed [some 13, some 14, some 15, some 16, some 17, some 18, none] rfl ?_
 simp only [zzK, QR, QP, QQ, zz19, zz23, F_off58_2, zzH, QN, QS, F_ok42, F_ag42, F_sz42, zz8, zzD, zzC, QA, yyE, Qe, JE, F_sl42, F_zero46, F_sz46, F_by46, zz4, maxLen_le, QT, JS, zz9, QB, zz18, splice, QG, zz1, zzG, JN, zz6, QO, ↓Qb]
 first | refine ⟨le_maxLen hp, by omega, ?_⟩ | refine ⟨by simp, le_maxLen hp, by omega, ?_⟩ | refine ⟨⟨le_maxLen hp, by omega⟩, ?_⟩
 refine hK0 _ ?_; try clear hK0 K0
 refine kpA [2, 3] ?_
 refine JA fun K0 hK0 => ?_
 refine Qz F_mixed [some 19, none] rfl ?_
 simp only [zzK, QR, QP, QQ, F_ok58, F_ag58, F_sz58, zz8, zz23, zzD, QS, QN, zzH, zzC, QA, yyE, Qe, zz18, splice, QG, zz1, zzG, zz6, QO, ↓Qb]
 refine hK0 _ ?_; try clear hK0 K0
 refine kpA [2] ?_
 refine JJ ?_
 simp only [zz6, QO, ↓Qb]
 refine doneN [11, 17] (by simp [resCs, resC, S, List.getD, JD, lookR, F_ag58, F_sz58, F_ok58]) ?_ (by simp [Ja, Jb, Jc, ]) (by simp [QY, QX, ]) (by decide) ?_
 ·simp only [QD, QE, resA, JZ, S_mem, lookR_cons, lookR_nil, QR, QP, JD, QQ, Qd, Qc, JP, QI, QJ, QH, QL, QK, List.take_zero, F_ag58, F_sz58, F_ok58]; rfl
 ·exact ⟨⟨_, rfl, trivial, rfl, rfl, rfl, rfl⟩, by simp [flatDs, Jc, tradeC], ⟨_, rfl, trivial, rfl, rfl, rfl, rfl⟩, by simp [flatDs, Jc, posC], trivial⟩
set_option maxRecDepth 100000 in
set_option maxHeartbeats 4000000 in
theorem rAdd_ (nx : Int) (ts : List TradeV) (ps g : List PosV) (ht : ts.length ≤ 200000) (hp : ps.length ≤ 200000) (hg : g.length ≤ 200000) : ACalls Try.prog 25 [.agg (bookC ⟨nx, ts, ps⟩), poss g] [⟨86, 7, (addV ⟨nx, ts, ps⟩ g).trades.map tradeC⟩, ⟨46, 4, (addV ⟨nx, ts, ps⟩ g).poss.map posC⟩] (.tp [.ag [.d (iv (addV ⟨nx, ts, ps⟩ g).next), .ref 0 (addV ⟨nx, ts, ps⟩ g).trades.length, .ref 1 (addV ⟨nx, ts, ps⟩ g).poss.length], .d (iv (addE ⟨nx, ts, ps⟩ g))]) := by
 refine acalls_S (rs := [.cell 4 58, .tmp 5]) Try.func25 rfl rfl 199 [(0, .d (.agg (bookC ⟨nx, ts, ps⟩))), (1, .d (poss g))] rfl (by simp) rfl ?_
 refine JA fun K0 hK0 => ?_
 refine Qz F_mixed [some 2, some 4, some 5] rfl ?_
 simp only [zzK, QR, QP, QQ, zz35, JS, zz1, zzG, zzD, zzC, QA, yyE, Qe, QS, QN, zzH, zz32, F_zero58, zz10, JB, bookC, tradesB, poss, zz6, QO, ↓Qb]
 refine hK0 _ ?_; try clear hK0 K0
 refine kpA [1, 2, 4] ?_
 refine JA fun K0 hK0 => ?_
 refine JA fun K1 hK1 => ?_
 refine Qz F_mixed [some 23, some 24, some 25] rfl ?_
 simp only [zzK, QR, QP, QQ, F_ok58, F_ag58, F_sz58, zz8, zz23, zzD, QS, QN, zzH, zzC, QA, yyE, Qe, JE, JF, zz29, JM, zz30, bookC, tradesB, poss, QW, zz6, QO, ↓Qb]
 refine JT F_go42 (fun hG => rBook_ nx ts ps (by omega) (by omega)) (by simp [QY, QX]) (by simp) ?_
 simp only [zzK, QR, QP, QQ, F_ok58, F_ag58, F_sz58, zz8, zz23, zzD, QS, QN, zzH, zzC, QA, yyE, Qe, JE, JF, zz29, JM, zz30, bookC, tradesB, poss, QW, zz6, QO, ↓Qb, atsL, oksG, JV, QZ, Qa, JO, Qm, QT, QS, zz9, QB, QA, S_mem, yyF, QF, zz2]
 refine hK1 _ ?_; try clear hK1 K1
 refine kpA [1, 2, 4, 25] ?_
 refine cnA ?_ ?_
 ·intro hb
  have ho : bookOk ⟨nx, ts, ps⟩ = false := by simpa using hb
  clear hb
  refine JA fun K2 hK2 => ?_
  refine Qz F_mixed [some 26, none, some 5] rfl ?_
  simp only [zzK, QR, QP, QQ, F_zero58, F_bld58, zz7, splice, Option.getD_some, QG, zz1, zzG, zzD, zzC, QA, yyE, Qe, QS, QN, zzH, zz10, zz18, F_ok58, F_sz58, JB, zz6, QO, ↓Qb]
  refine hK2 _ ?_; try clear hK2 K2
  refine kpA [4, 5] ?_
  have e : addE ⟨nx, ts, ps⟩ g = 14 := by rw [addE_def, ho]; try rfl
  have ev : addV ⟨nx, ts, ps⟩ g = ⟨0, [], []⟩ := add_no (by rw [e]; decide)
  refine awp_le (le_SK id [0, 1] rfl (l' := [(4, .ptr 4 0 0), (5, .d (iv 14))]) (m' := [(4, (⟨True, 58, 3, true, false, 4, [[.d (.v (.int .i64 0)), .ref 0 0, .ref 1 0]]⟩ : ARow)), (0, (⟨True, 86, 7, true, true, 0, []⟩ : ARow)), (1, (⟨True, 46, 4, true, true, 1, []⟩ : ARow))]) ?_ ?_ ?_ ?_) ?_
  ·simp only [leV, JD, QQ, Qd, Qc]; exact ⟨VLe.ptr_ (f := id) (by decide), Qo rfl, trivial⟩
  ·exact ⟨fun _ => ⟨_, rfl, RowLe.cells (VLess.one_ (VLes.cons_ (Qo rfl) (VLes.cons_ (Qq (by decide)) (VLes.cons_ (Qq (by decide)) VLes.nil_))))⟩, fun h => by simp at h, fun h => by simp at h, fun _ => rfl, fun h => by simp at h, fun _ => rfl, trivial⟩
  ·simp [wfV, QY, lookR]
  ·simp [wfR, QX, QY, lookR]
  refine JJ ?_
  simp only [zz6, QO, ↓Qb]
  rw [ev, e]
  refine doneN [0, 1] (by simp [resCs, resC, S, List.getD, JD, lookR, F_ag58, F_sz58, F_ok58]) ?_ (by simp [Ja, Jb, Jc, ]) (by simp [QY, QX, ]) (by decide) ?_
  ·simp only [QD, QE, resA, JZ, S_mem, lookR_cons, lookR_nil, QR, QP, JD, QQ, Qd, Qc, JP, QI, QJ, QH, QL, QK, List.take_zero, F_ag58, F_sz58, F_ok58]; rfl
  ·exact ⟨⟨_, rfl, trivial, rfl, rfl, rfl, rfl⟩, by simp [flatDs, Jc, tradeC], ⟨_, rfl, trivial, rfl, rfl, rfl, rfl⟩, by simp [flatDs, Jc, posC], trivial⟩
 ·intro hb
  have ho : bookOk ⟨nx, ts, ps⟩ = true := by simpa using hb
  clear hb
  have hG := (bookOk_iff _).1 ho
  refine JI ?_
  simp only [zz6, QO, ↓Qb]
  refine hK0 _ ?_; try clear hK0 K0
  refine kpA [1, 2, 4] ?_
  refine JA fun K0 hK0 => ?_
  refine JA fun K1 hK1 => ?_
  refine Qz F_mixed [some 6] rfl ?_
  simp only [zzK, QR, QP, QQ, JB, zz6, QO, ↓Qb]
  refine hK1 _ ?_; try clear hK1 K1
  refine kpA [1, 2, 4, 6] ?_
  refine JH ?_
  refine JL (fun m s => ∃ (pre : List PosV) (post : List PosV), (g = pre ++ post) ∧ (pre.any badLeg = false) ∧ m = post.length ∧ s = S 199 [(1, .d (poss g)), (2, .ptr 2 0 0), (4, .ptr 4 0 0), (6, .d (iv pre.length))] [(2, (⟨True, 58, 3, true, false, 2, [[.d (iv nx), .d (.sl 7 (ts.map tradeC)), .d (.sl 4 (ps.map posC))]]⟩ : ARow)), (4, (⟨True, 58, 3, true, false, 4, [[.d (.v (.int .i64 0)), .d (.v (.slice none 0 0)), .d (.v (.slice none 0 0))]]⟩ : ARow))]) (g.length) _ (le_SK id [] rfl (l' := [(1, .d (poss g)), (2, .ptr 2 0 0), (4, .ptr 4 0 0), (6, .d (iv [].length))]) (m' := [(2, (⟨True, 58, 3, true, false, 2, [[.d (iv nx), .d (.sl 7 (ts.map tradeC)), .d (.sl 4 (ps.map posC))]]⟩ : ARow)), (4, (⟨True, 58, 3, true, false, 4, [[.d (.v (.int .i64 0)), .d (.v (.slice none 0 0)), .d (.v (.slice none 0 0))]]⟩ : ARow))]) ?_ ?_ ?_ ?_) ⟨[], g, rfl, rfl, rfl, rfl⟩ ?_
  ·simp only [leV, JD, QQ, Qd, Qc]; exact ⟨(by first | exact Qo rfl | exact Qq (by decide) | exact Qp | exact Qn _ | exact Qs (by simp) (by rfl) | exact Qr (by simp) (by rfl) (by first | rfl | (simp; done) | (simp; omega)) | exact Qt (by first | rfl | simp)), (by first | exact Qo rfl | exact Qq (by decide) | exact Qp | exact Qn _ | exact Qs (by simp) (by rfl) | exact Qr (by simp) (by rfl) (by first | rfl | (simp; done) | (simp; omega)) | exact Qt (by first | rfl | simp)), (by first | exact Qo rfl | exact Qq (by decide) | exact Qp | exact Qn _ | exact Qs (by simp) (by rfl) | exact Qr (by simp) (by rfl) (by first | rfl | (simp; done) | (simp; omega)) | exact Qt (by first | rfl | simp)), (by first | exact Qo rfl | exact Qq (by decide) | exact Qp | exact Qn _ | exact Qs (by simp) (by rfl) | exact Qr (by simp) (by rfl) (by first | rfl | (simp; done) | (simp; omega)) | exact Qt (by first | rfl | simp)), trivial⟩
  ·exact ⟨fun _ => ⟨_, rfl, (by first | exact Qw (by first | rfl | simp) | exact Qx (by first | rfl | simp) (by simp) ids_data | exact Qv (by simp [QX, QY]) | exact Qu (by simp) (by simp [QX, QY]))⟩, fun h => by simp at h, fun _ => ⟨_, rfl, (by first | exact Qw (by first | rfl | simp) | exact Qx (by first | rfl | simp) (by simp) ids_data | exact Qv (by simp [QX, QY]) | exact Qu (by simp) (by simp [QX, QY]))⟩, fun h => by simp at h, trivial⟩
  ·simp [wfV, QY, QX, lookR, grow]
  ·exact ⟨by simp [QX, QY, lookR], by simp [QX, QY, lookR], trivial⟩
  rintro m s ⟨pre, post, hsp, hany, rfl, rfl⟩
  have hspl := congrArg List.length hsp
  simp only [QC] at hspl
  refine JA fun K2 hK2 => ?_
  refine JA fun K3 hK3 => ?_
  refine Qz F_mixed [some 27, some 28, some 29, some 30] rfl ?_
  simp only [zzK, QR, QP, QQ, JC, JE, zz12, F_sl42, Option.isSome_some, zz21, JM, zz22, poss, JN, zz6, QO, ↓Qb]
  refine hK3 _ ?_; try clear hK3 K3
  refine kpA [1, 2, 4, 6, 30] ?_
  refine cnA ?_ ?_
  ·intro hb
   obtain ⟨x, post2, rfl⟩ : ∃ x t, post = x :: t := by
    cases post with
    | nil => have := Qg hb; simp at hspl; omega
    | cons x t => exact ⟨x, t, rfl⟩
   clear hb
   simp only [QF] at hspl
   have gx : (g.map posC).getD pre.length [] = [iv x.who, iv x.inst, iv x.qty, iv x.cost] := by
    rw [hsp, List.map_append]; exact gd_mid' (A := pre.map posC) _ _ (by simp)
   have bx := ltI (show pre.length < g.length by omega)
   have hwx : Ql .i64 ((pre.length : Int) + 1) = ((pre ++ [x]).length : Int) := by rw [wrapI (by omega) (by omega)]; simp
   refine JI ?_
   simp only [zz6, QO, ↓Qb]
   refine hK2 _ ?_; try clear hK2 K2
   refine kpA [1, 2, 4, 6] ?_
   refine JA fun K2 hK2 => ?_
   refine JH ?_
   refine JA fun K3 hK3 => ?_
   refine Qz F_mixed [some 33, some 34, some 35, some 36, some 37, some 38, some 39, some 40, some 41, some 42, some 43, some 44, some 45, some 46, some 47, some 48, some 49, some 50, some 51, some 52, some 53, some 54, some 55, some 56, some 57] rfl ?_
   simp only [zzK, QR, QP, QQ, QU, JZ, zz5, Qj, Qi, Qh, JC, JW, zz23, zz24, F_sl42, F_sz46, QA, zzC, yyE, Qe, zz19, F_off46_0, zzH, QN, QS, F_ok29, F_ag29, F_sz29, zz8, zzD, JE, JF, zz29, JM, zz30, F_off46_1, F_ok3, F_ag3, F_sz3, zz13, JQ, JR, F_off46_2, poss, posC, gx, bx, hwx, JN, ge0, QV, QW, zz6, QO, ↓Qb]
   refine JT F_go43 (fun hG => rKey_ x.who x.inst) (by simp [QY, QX]) (by simp) ?_
   simp only [zzK, QR, QP, QQ, QU, JZ, zz5, Qj, Qi, Qh, JC, JW, zz23, zz24, F_sl42, F_sz46, QA, zzC, yyE, Qe, zz19, F_off46_0, zzH, QN, QS, F_ok29, F_ag29, F_sz29, zz8, zzD, JE, JF, zz29, JM, zz30, F_off46_1, F_ok3, F_ag3, F_sz3, zz13, JQ, JR, F_off46_2, poss, posC, gx, bx, hwx, JN, ge0, QV, QW, zz6, QO, ↓Qb, atsL, oksG, JV, QZ, Qa, JO, Qm, QT, QS, zz9, QB, QA, S_mem, yyF, QF, zz2]
   refine JT F_go44 (fun hG => rRight_ x.qty) (by simp [QY, QX]) (by simp) ?_
   simp only [zzK, QR, QP, QQ, QU, JZ, zz5, Qj, Qi, Qh, JC, JW, zz23, zz24, F_sl42, F_sz46, QA, zzC, yyE, Qe, zz19, F_off46_0, zzH, QN, QS, F_ok29, F_ag29, F_sz29, zz8, zzD, JE, JF, zz29, JM, zz30, F_off46_1, F_ok3, F_ag3, F_sz3, zz13, JQ, JR, F_off46_2, poss, posC, gx, bx, hwx, JN, ge0, QV, QW, zz6, QO, ↓Qb, atsL, oksG, JV, QZ, Qa, JO, Qm, QT, QS, zz9, QB, QA, S_mem, yyF, QF, zz2]
   refine JT F_go44 (fun hG => rRight_ x.cost) (by simp [QY, QX]) (by simp) ?_
   simp only [zzK, QR, QP, QQ, QU, JZ, zz5, Qj, Qi, Qh, JC, JW, zz23, zz24, F_sl42, F_sz46, QA, zzC, yyE, Qe, zz19, F_off46_0, zzH, QN, QS, F_ok29, F_ag29, F_sz29, zz8, zzD, JE, JF, zz29, JM, zz30, F_off46_1, F_ok3, F_ag3, F_sz3, zz13, JQ, JR, F_off46_2, poss, posC, gx, bx, hwx, JN, ge0, QV, QW, zz6, QO, ↓Qb, atsL, oksG, JV, QZ, Qa, JO, Qm, QT, QS, zz9, QB, QA, S_mem, yyF, QF, zz2]
   refine hK3 _ ?_; try clear hK3 K3
   refine kpA [1, 2, 4, 6, 57] ?_
   refine cnA ?_ ?_
   ·intro hb
    have hx : badLeg x = true := by rw [badLeg_ref]; exact hb
    clear hb
    have hal : g.any badLeg = true := by rw [hsp]; simp only [List.any_append, List.any_cons, hx, Bool.true_or, Bool.or_true]
    refine JA fun K4 hK4 => ?_
    refine Qz F_mixed [some 58, none, some 5] rfl ?_
    simp only [zzK, QR, QP, QQ, F_zero58, F_bld58, zz7, splice, Option.getD_some, QG, zz1, zzG, zzD, zzC, QA, yyE, Qe, QS, QN, zzH, zz10, zz18, F_ok58, F_sz58, JB, zz6, QO, ↓Qb]
    refine hK4 _ ?_; try clear hK4 K4
    refine kpA [4, 5] ?_
    have e : addE ⟨nx, ts, ps⟩ g = 3 := by rw [addE_def, ho, hal]; try rfl
    have ev : addV ⟨nx, ts, ps⟩ g = ⟨0, [], []⟩ := add_no (by rw [e]; decide)
    refine awp_le (le_SK id [0, 1] rfl (l' := [(4, .ptr 4 0 0), (5, .d (iv 3))]) (m' := [(4, (⟨True, 58, 3, true, false, 4, [[.d (.v (.int .i64 0)), .ref 0 0, .ref 1 0]]⟩ : ARow)), (0, (⟨True, 86, 7, true, true, 0, []⟩ : ARow)), (1, (⟨True, 46, 4, true, true, 1, []⟩ : ARow))]) ?_ ?_ ?_ ?_) ?_
    ·simp only [leV, JD, QQ, Qd, Qc]; exact ⟨VLe.ptr_ (f := id) (by decide), Qo rfl, trivial⟩
    ·exact ⟨fun _ => ⟨_, rfl, RowLe.cells (VLess.one_ (VLes.cons_ (Qo rfl) (VLes.cons_ (Qq (by decide)) (VLes.cons_ (Qq (by decide)) VLes.nil_))))⟩, fun h => by simp at h, fun h => by simp at h, fun _ => rfl, fun h => by simp at h, fun _ => rfl, trivial⟩
    ·simp [wfV, QY, lookR]
    ·simp [wfR, QX, QY, lookR]
    refine JJ ?_
    simp only [zz6, QO, ↓Qb]
    rw [ev, e]
    refine doneN [0, 1] (by simp [resCs, resC, S, List.getD, JD, lookR, F_ag58, F_sz58, F_ok58]) ?_ (by simp [Ja, Jb, Jc, ]) (by simp [QY, QX, ]) (by decide) ?_
    ·simp only [QD, QE, resA, JZ, S_mem, lookR_cons, lookR_nil, QR, QP, JD, QQ, Qd, Qc, JP, QI, QJ, QH, QL, QK, List.take_zero, F_ag58, F_sz58, F_ok58]; rfl
    ·exact ⟨⟨_, rfl, trivial, rfl, rfl, rfl, rfl⟩, by simp [flatDs, Jc, tradeC], ⟨_, rfl, trivial, rfl, rfl, rfl, rfl⟩, by simp [flatDs, Jc, posC], trivial⟩
   ·intro hb
    have hx : badLeg x = false := by rw [badLeg_ref]; exact hb
    clear hb
    refine JI ?_
    simp only [zz6, QO, ↓Qb]
    refine hK2 _ ?_; try clear hK2 K2
    refine kpA [1, 2, 4, 6] ?_
    refine Qz F_mixed [some 31, some 32, some 6] rfl ?_
    simp only [zzK, QR, QP, QQ, JC, zz21, JM, zz26, JB, hwx, zz6, QO, ↓Qb]
    refine ⟨post2.length, _, by simp, le_SK id [] rfl (l' := [(1, .d (poss g)), (2, .ptr 2 0 0), (4, .ptr 4 0 0), (6, .d (iv (pre ++ [x]).length))]) (m' := [(2, (⟨True, 58, 3, true, false, 2, [[.d (iv nx), .d (.sl 7 (ts.map tradeC)), .d (.sl 4 (ps.map posC))]]⟩ : ARow)), (4, (⟨True, 58, 3, true, false, 4, [[.d (.v (.int .i64 0)), .d (.v (.slice none 0 0)), .d (.v (.slice none 0 0))]]⟩ : ARow))]) ?_ ?_ ?_ ?_, (pre ++ [x]), post2, by simp [hsp], by simp only [List.any_append, hany, List.any_cons, hx, List.any_nil, Bool.or_false], rfl, rfl⟩
    ·simp only [leV, JD, QQ, Qd, Qc, hwx]; exact ⟨(by first | exact Qo rfl | exact Qq (by decide) | exact Qp | exact Qn _ | exact Qs (by simp) (by rfl) | exact Qr (by simp) (by rfl) (by first | rfl | (simp; done) | (simp; omega)) | exact Qt (by first | rfl | simp)), (by first | exact Qo rfl | exact Qq (by decide) | exact Qp | exact Qn _ | exact Qs (by simp) (by rfl) | exact Qr (by simp) (by rfl) (by first | rfl | (simp; done) | (simp; omega)) | exact Qt (by first | rfl | simp)), (by first | exact Qo rfl | exact Qq (by decide) | exact Qp | exact Qn _ | exact Qs (by simp) (by rfl) | exact Qr (by simp) (by rfl) (by first | rfl | (simp; done) | (simp; omega)) | exact Qt (by first | rfl | simp)), (by first | exact Qo rfl | exact Qq (by decide) | exact Qp | exact Qn _ | exact Qs (by simp) (by rfl) | exact Qr (by simp) (by rfl) (by first | rfl | (simp; done) | (simp; omega)) | exact Qt (by first | rfl | simp)), trivial⟩
    ·exact ⟨fun _ => ⟨_, rfl, (by first | exact Qw (by first | rfl | simp) | exact Qx (by first | rfl | simp) (by simp) ids_data | exact Qv (by simp [QX, QY]) | exact Qu (by simp) (by simp [QX, QY]))⟩, fun h => by simp at h, fun _ => ⟨_, rfl, (by first | exact Qw (by first | rfl | simp) | exact Qx (by first | rfl | simp) (by simp) ids_data | exact Qv (by simp [QX, QY]) | exact Qu (by simp) (by simp [QX, QY]))⟩, fun h => by simp at h, trivial⟩
    ·simp [wfV, QY, QX, lookR, grow]
    ·exact ⟨by simp [QX, QY, lookR], by simp [QX, QY, lookR], trivial⟩
  ·intro hb
   obtain rfl : post = [] := by
    cases post with
    | nil => rfl
    | cons x t => have := Qf hb; simp at hspl; omega
   clear hb
   simp only [QG] at hsp
   subst hsp
   have hR : RtL g := RtL_any.1 hany
   have hA := hG.rt.app hR
   simp only at hA
   refine JK ?_
   simp only [zz6, QO, ↓Qb]
   refine hK0 _ ?_; try clear hK0 K0
   refine kpA [1, 2, 4] ?_
   refine JA fun K0 hK0 => ?_
   refine JA fun K1 hK1 => ?_
   refine Qz F_mixed [some 7] rfl ?_
   simp only [zzK, QR, QP, QQ, JB, zz6, QO, ↓Qb]
   refine hK1 _ ?_; try clear hK1 K1
   refine kpA [1, 2, 4, 7] ?_
   refine JH ?_
   refine JL (fun m s => ∃ (k : Nat), (k ≤ 8) ∧ (levelTo g k = true) ∧ m = 8 - k ∧ s = S 199 [(1, .d (poss g)), (2, .ptr 2 0 0), (4, .ptr 4 0 0), (7, .d (iv (((k : Nat) : Int) + 1)))] [(2, (⟨True, 58, 3, true, false, 2, [[.d (iv nx), .d (.sl 7 (ts.map tradeC)), .d (.sl 4 (ps.map posC))]]⟩ : ARow)), (4, (⟨True, 58, 3, true, false, 4, [[.d (.v (.int .i64 0)), .d (.v (.slice none 0 0)), .d (.v (.slice none 0 0))]]⟩ : ARow))]) (8) _ (le_SK id [] rfl (l' := [(1, .d (poss g)), (2, .ptr 2 0 0), (4, .ptr 4 0 0), (7, .d (iv (((0 : Nat) : Int) + 1)))]) (m' := [(2, (⟨True, 58, 3, true, false, 2, [[.d (iv nx), .d (.sl 7 (ts.map tradeC)), .d (.sl 4 (ps.map posC))]]⟩ : ARow)), (4, (⟨True, 58, 3, true, false, 4, [[.d (.v (.int .i64 0)), .d (.v (.slice none 0 0)), .d (.v (.slice none 0 0))]]⟩ : ARow))]) ?_ ?_ ?_ ?_) ⟨0, by omega, rfl, rfl, rfl⟩ ?_
   ·simp only [leV, JD, QQ, Qd, Qc]; exact ⟨(by first | exact Qo rfl | exact Qq (by decide) | exact Qp | exact Qn _ | exact Qs (by simp) (by rfl) | exact Qr (by simp) (by rfl) (by first | rfl | (simp; done) | (simp; omega)) | exact Qt (by first | rfl | simp)), (by first | exact Qo rfl | exact Qq (by decide) | exact Qp | exact Qn _ | exact Qs (by simp) (by rfl) | exact Qr (by simp) (by rfl) (by first | rfl | (simp; done) | (simp; omega)) | exact Qt (by first | rfl | simp)), (by first | exact Qo rfl | exact Qq (by decide) | exact Qp | exact Qn _ | exact Qs (by simp) (by rfl) | exact Qr (by simp) (by rfl) (by first | rfl | (simp; done) | (simp; omega)) | exact Qt (by first | rfl | simp)), (by first | exact Qo rfl | exact Qq (by decide) | exact Qp | exact Qn _ | exact Qs (by simp) (by rfl) | exact Qr (by simp) (by rfl) (by first | rfl | (simp; done) | (simp; omega)) | exact Qt (by first | rfl | simp)), trivial⟩
   ·exact ⟨fun _ => ⟨_, rfl, (by first | exact Qw (by first | rfl | simp) | exact Qx (by first | rfl | simp) (by simp) ids_data | exact Qv (by simp [QX, QY]) | exact Qu (by simp) (by simp [QX, QY]))⟩, fun h => by simp at h, fun _ => ⟨_, rfl, (by first | exact Qw (by first | rfl | simp) | exact Qx (by first | rfl | simp) (by simp) ids_data | exact Qv (by simp [QX, QY]) | exact Qu (by simp) (by simp [QX, QY]))⟩, fun h => by simp at h, trivial⟩
   ·simp [wfV, QY, QX, lookR, grow]
   ·exact ⟨by simp [QX, QY, lookR], by simp [QX, QY, lookR], trivial⟩
   rintro m s ⟨k, hk8, hlv, rfl, rfl⟩
   refine JA fun K2 hK2 => ?_
   refine JA fun K3 hK3 => ?_
   refine Qz F_mixed [some 59, some 60] rfl ?_
   simp only [zzK, QR, QP, QQ, JC, zz21, JM, b_leq, pure_leq, zz6, QO, ↓Qb]
   refine hK3 _ ?_; try clear hK3 K3
   refine kpA [1, 2, 4, 7, 60] ?_
   refine cnA ?_ ?_
   ·intro hb
    have hk : k < 8 := by have := Qg hb; omega
    clear hb
    have hw : Ql .i64 (((k : Nat) : Int) + 1 + 1) = (((k + 1 : Nat) : Int) + 1) := by rw [wrapI (by omega) (by omega)]; omega
    refine JI ?_
    simp only [zz6, QO, ↓Qb]
    refine hK2 _ ?_; try clear hK2 K2
    refine kpA [1, 2, 4, 7] ?_
    refine JA fun K2 hK2 => ?_
    refine JH ?_
    refine JA fun K3 hK3 => ?_
    refine Qz F_mixed [some 8] rfl ?_
    simp only [zzK, QR, QP, QQ, JB, zz6, QO, ↓Qb]
    refine hK3 _ ?_; try clear hK3 K3
    refine kpA [1, 2, 4, 7, 8] ?_
    refine JA fun K3 hK3 => ?_
    refine JA fun K4 hK4 => ?_
    refine Qz F_mixed [some 9] rfl ?_
    simp only [zzK, QR, QP, QQ, JB, zz6, QO, ↓Qb]
    refine hK4 _ ?_; try clear hK4 K4
    refine kpA [1, 2, 4, 7, 8, 9] ?_
    refine JH ?_
    refine JL (fun m s => ∃ (pre : List PosV) (post : List PosV), (g = pre ++ post) ∧ m = post.length ∧ s = S 199 [(1, .d (poss g)), (2, .ptr 2 0 0), (4, .ptr 4 0 0), (7, .d (iv ((k : Int) + 1))), (8, .ref 8 (levelQ pre (k + 1)).length), (9, .d (iv pre.length))] [(2, (⟨True, 58, 3, true, false, 2, [[.d (iv nx), .d (.sl 7 (ts.map tradeC)), .d (.sl 4 (ps.map posC))]]⟩ : ARow)), (4, (⟨True, 58, 3, true, false, 4, [[.d (.v (.int .i64 0)), .d (.v (.slice none 0 0)), .d (.v (.slice none 0 0))]]⟩ : ARow)), (8, grow 3 1 8 ((levelQ pre (k + 1)).map fun n => [iv n]))]) (g.length) _ (le_SK id [8] rfl (l' := [(1, .d (poss g)), (2, .ptr 2 0 0), (4, .ptr 4 0 0), (7, .d (iv ((k : Int) + 1))), (8, .ref 8 (levelQ [] (k + 1)).length), (9, .d (iv [].length))]) (m' := [(2, (⟨True, 58, 3, true, false, 2, [[.d (iv nx), .d (.sl 7 (ts.map tradeC)), .d (.sl 4 (ps.map posC))]]⟩ : ARow)), (4, (⟨True, 58, 3, true, false, 4, [[.d (.v (.int .i64 0)), .d (.v (.slice none 0 0)), .d (.v (.slice none 0 0))]]⟩ : ARow)), (8, grow 3 1 8 ((levelQ [] (k + 1)).map fun n => [iv n]))]) ?_ ?_ ?_ ?_) ⟨[], g, rfl, rfl, rfl⟩ ?_
    ·simp only [leV, JD, QQ, Qd, Qc]; exact ⟨(by first | exact Qo rfl | exact Qq (by decide) | exact Qp | exact Qn _ | exact Qs (by simp) (by rfl) | exact Qr (by simp) (by rfl) (by first | rfl | (simp; done) | (simp; omega)) | exact Qt (by first | rfl | simp)), (by first | exact Qo rfl | exact Qq (by decide) | exact Qp | exact Qn _ | exact Qs (by simp) (by rfl) | exact Qr (by simp) (by rfl) (by first | rfl | (simp; done) | (simp; omega)) | exact Qt (by first | rfl | simp)), (by first | exact Qo rfl | exact Qq (by decide) | exact Qp | exact Qn _ | exact Qs (by simp) (by rfl) | exact Qr (by simp) (by rfl) (by first | rfl | (simp; done) | (simp; omega)) | exact Qt (by first | rfl | simp)), (by first | exact Qo rfl | exact Qq (by decide) | exact Qp | exact Qn _ | exact Qs (by simp) (by rfl) | exact Qr (by simp) (by rfl) (by first | rfl | (simp; done) | (simp; omega)) | exact Qt (by first | rfl | simp)), (by first | exact Qo rfl | exact Qq (by decide) | exact Qp | exact Qn _ | exact Qs (by simp) (by rfl) | exact Qr (by simp) (by rfl) (by first | rfl | (simp; done) | (simp; omega)) | exact Qt (by first | rfl | simp)), (by first | exact Qo rfl | exact Qq (by decide) | exact Qp | exact Qn _ | exact Qs (by simp) (by rfl) | exact Qr (by simp) (by rfl) (by first | rfl | (simp; done) | (simp; omega)) | exact Qt (by first | rfl | simp)), trivial⟩
    ·exact ⟨fun _ => ⟨_, rfl, (by first | exact Qw (by first | rfl | simp) | exact Qx (by first | rfl | simp) (by simp) ids_data | exact Qv (by simp [QX, QY]) | exact Qu (by simp) (by simp [QX, QY]))⟩, fun h => by simp at h, fun _ => ⟨_, rfl, (by first | exact Qw (by first | rfl | simp) | exact Qx (by first | rfl | simp) (by simp) ids_data | exact Qv (by simp [QX, QY]) | exact Qu (by simp) (by simp [QX, QY]))⟩, fun h => by simp at h, fun h => by simp at h, fun _ => rfl, trivial⟩
    ·simp [wfV, QY, QX, lookR, grow]
    ·exact ⟨by simp [QX, QY, lookR], by simp [QX, QY, lookR], wf_data _ _, trivial⟩
    rintro m s ⟨pre, post, hsp, rfl, rfl⟩
    have hspl := congrArg List.length hsp
    simp only [QC] at hspl
    have hql := levelQ_len pre (k + 1)
    refine JA fun K5 hK5 => ?_
    refine JA fun K6 hK6 => ?_
    refine Qz F_mixed [some 63, some 64, some 65, some 66] rfl ?_
    simp only [zzK, QR, QP, QQ, JC, JE, zz12, F_sl42, Option.isSome_some, zz21, JM, zz22, poss, JN, zz6, QO, ↓Qb]
    refine hK6 _ ?_; try clear hK6 K6
    refine kpA [1, 2, 4, 7, 8, 9, 66] ?_
    refine cnA ?_ ?_
    ·intro hb
     obtain ⟨x, post2, rfl⟩ : ∃ x t, post = x :: t := by
      cases post with
      | nil => have := Qg hb; simp at hspl; omega
      | cons x t => exact ⟨x, t, rfl⟩
     clear hb
     simp only [QF] at hspl
     have gx : (g.map posC).getD pre.length [] = [iv x.who, iv x.inst, iv x.qty, iv x.cost] := by
      rw [hsp, List.map_append]; exact gd_mid' (A := pre.map posC) _ _ (by simp)
     have bx := ltI (show pre.length < g.length by omega)
     have hwx : Ql .i64 ((pre.length : Int) + 1) = ((pre ++ [x]).length : Int) := by rw [wrapI (by omega) (by omega)]; simp
     refine JI ?_
     simp only [zz6, QO, ↓Qb]
     refine hK5 _ ?_; try clear hK5 K5
     refine kpA [1, 2, 4, 7, 8, 9] ?_
     refine JA fun K5 hK5 => ?_
     refine JH ?_
     refine JA fun K6 hK6 => ?_
     refine Qz F_mixed [some 69, some 70, some 71, some 72, some 73, some 74, some 75, some 76] rfl ?_
     simp only [zzK, QR, QP, QQ, JC, JW, zz23, zz24, F_sl42, F_sz46, QA, zzC, yyE, Qe, zz19, F_off46_0, zzH, QN, QS, F_off29_1, F_ok3, F_ag3, F_sz3, zz8, zzD, zz21, JM, zz34, poss, posC, gx, bx, hwx, JN, ge0, QV, QW, zz6, QO, ↓Qb]
     refine hK6 _ ?_; try clear hK6 K6
     refine kpA [1, 2, 4, 7, 8, 9, 76] ?_
     refine cnA ?_ ?_
     ·intro hb
      have hs : (x.inst == ((k : Int) + 1)) = true := hb
      clear hb
      have hsl := levelQ_yes hs pre
      refine Qz F_mixed [some 77, some 78, some 79, some 80, some 81, some 82, some 83, some 84, some 8] rfl ?_
      simp only [zzK, QR, QP, QQ, JC, JW, zz23, zz24, F_sl42, F_sz46, QA, zzC, yyE, Qe, zz19, F_off46_1, zzH, QN, QS, F_ok3, F_ag3, F_sz3, zz8, zzD, F_sl90, F_zero3, zz3, JS, zz1, zzG, maxLen_le, QT, JE, F_by3, zz4, zz9, QB, JB, poss, posC, grow, unDs_map, gx, bx, hwx, JN, ge0, QV, QW, zz6, QO, ↓Qb]
      have hm : (levelQ pre (k + 1)).length + 1 ≤ 1000000 := by first | omega | (simp; omega)
      first | refine ⟨le_maxLen hm, by omega, ?_⟩ | refine ⟨by simp, le_maxLen hm, by omega, ?_⟩
      clear hm
      refine hK5 _ ?_; try clear hK5 K5
      refine kpA [1, 2, 4, 7, 8, 9] ?_
      refine Qz F_mixed [some 67, some 68, some 9] rfl ?_
      simp only [zzK, QR, QP, QQ, JC, zz21, JM, zz26, JB, hwx, zz6, QO, ↓Qb]
      refine ⟨post2.length, _, by simp, le_SK (fun r => bif r == 8 then 84 else r) [] rfl (l' := [(1, .d (poss g)), (2, .ptr 2 0 0), (4, .ptr 4 0 0), (7, .d (iv ((k : Int) + 1))), (8, .ref 8 (levelQ (pre ++ [x]) (k + 1)).length), (9, .d (iv (pre ++ [x]).length))]) (m' := [(2, (⟨True, 58, 3, true, false, 2, [[.d (iv nx), .d (.sl 7 (ts.map tradeC)), .d (.sl 4 (ps.map posC))]]⟩ : ARow)), (4, (⟨True, 58, 3, true, false, 4, [[.d (.v (.int .i64 0)), .d (.v (.slice none 0 0)), .d (.v (.slice none 0 0))]]⟩ : ARow)), (8, grow 3 1 8 ((levelQ (pre ++ [x]) (k + 1)).map fun n => [iv n]))]) ?_ ?_ ?_ ?_, (pre ++ [x]), post2, by simp [hsp], rfl, rfl⟩
      ·simp only [leV, JD, QQ, Qd, Qc, hwx, hsl]; exact ⟨(by first | exact Qo rfl | exact Qq (by decide) | exact Qp | exact Qn _ | exact Qs (by simp) (by rfl) | exact Qr (by simp) (by rfl) (by first | rfl | (simp; done) | (simp; omega)) | exact Qt (by first | rfl | simp)), (by first | exact Qo rfl | exact Qq (by decide) | exact Qp | exact Qn _ | exact Qs (by simp) (by rfl) | exact Qr (by simp) (by rfl) (by first | rfl | (simp; done) | (simp; omega)) | exact Qt (by first | rfl | simp)), (by first | exact Qo rfl | exact Qq (by decide) | exact Qp | exact Qn _ | exact Qs (by simp) (by rfl) | exact Qr (by simp) (by rfl) (by first | rfl | (simp; done) | (simp; omega)) | exact Qt (by first | rfl | simp)), (by first | exact Qo rfl | exact Qq (by decide) | exact Qp | exact Qn _ | exact Qs (by simp) (by rfl) | exact Qr (by simp) (by rfl) (by first | rfl | (simp; done) | (simp; omega)) | exact Qt (by first | rfl | simp)), (by first | exact Qo rfl | exact Qq (by decide) | exact Qp | exact Qn _ | exact Qs (by simp) (by rfl) | exact Qr (by simp) (by rfl) (by first | rfl | (simp; done) | (simp; omega)) | exact Qt (by first | rfl | simp)), (by first | exact Qo rfl | exact Qq (by decide) | exact Qp | exact Qn _ | exact Qs (by simp) (by rfl) | exact Qr (by simp) (by rfl) (by first | rfl | (simp; done) | (simp; omega)) | exact Qt (by first | rfl | simp)), trivial⟩
      ·exact ⟨fun _ => ⟨_, rfl, (by first | exact Qw (by first | rfl | simp) | exact Qx (by first | rfl | simp) (by simp) ids_data | exact Qv (by simp [QX, QY]) | exact Qu (by simp) (by simp [QX, QY]))⟩, fun h => by simp at h, fun _ => ⟨_, rfl, (by first | exact Qw (by first | rfl | simp) | exact Qx (by first | rfl | simp) (by simp) ids_data | exact Qv (by simp [QX, QY]) | exact Qu (by simp) (by simp [QX, QY]))⟩, fun h => by simp at h, fun _ => ⟨_, rfl, Qw (by rw [hsl]; simp)⟩, fun h => by simp at h, trivial⟩
      ·simp [wfV, QY, QX, lookR, grow]
      ·exact ⟨by simp [QX, QY, lookR], by simp [QX, QY, lookR], wf_data _ _, trivial⟩
     ·intro hb
      have hs : (x.inst == ((k : Int) + 1)) = false := hb
      clear hb
      have hsl := levelQ_no hs pre
      refine JI ?_
      simp only [zz6, QO, ↓Qb]
      refine hK5 _ ?_; try clear hK5 K5
      refine kpA [1, 2, 4, 7, 8, 9] ?_
      refine Qz F_mixed [some 67, some 68, some 9] rfl ?_
      simp only [zzK, QR, QP, QQ, JC, zz21, JM, zz26, JB, hwx, zz6, QO, ↓Qb]
      refine ⟨post2.length, _, by simp, le_SK id [] rfl (l' := [(1, .d (poss g)), (2, .ptr 2 0 0), (4, .ptr 4 0 0), (7, .d (iv ((k : Int) + 1))), (8, .ref 8 (levelQ (pre ++ [x]) (k + 1)).length), (9, .d (iv (pre ++ [x]).length))]) (m' := [(2, (⟨True, 58, 3, true, false, 2, [[.d (iv nx), .d (.sl 7 (ts.map tradeC)), .d (.sl 4 (ps.map posC))]]⟩ : ARow)), (4, (⟨True, 58, 3, true, false, 4, [[.d (.v (.int .i64 0)), .d (.v (.slice none 0 0)), .d (.v (.slice none 0 0))]]⟩ : ARow)), (8, grow 3 1 8 ((levelQ (pre ++ [x]) (k + 1)).map fun n => [iv n]))]) ?_ ?_ ?_ ?_, (pre ++ [x]), post2, by simp [hsp], rfl, rfl⟩
      ·simp only [leV, JD, QQ, Qd, Qc, hwx, hsl]; exact ⟨(by first | exact Qo rfl | exact Qq (by decide) | exact Qp | exact Qn _ | exact Qs (by simp) (by rfl) | exact Qr (by simp) (by rfl) (by first | rfl | (simp; done) | (simp; omega)) | exact Qt (by first | rfl | simp)), (by first | exact Qo rfl | exact Qq (by decide) | exact Qp | exact Qn _ | exact Qs (by simp) (by rfl) | exact Qr (by simp) (by rfl) (by first | rfl | (simp; done) | (simp; omega)) | exact Qt (by first | rfl | simp)), (by first | exact Qo rfl | exact Qq (by decide) | exact Qp | exact Qn _ | exact Qs (by simp) (by rfl) | exact Qr (by simp) (by rfl) (by first | rfl | (simp; done) | (simp; omega)) | exact Qt (by first | rfl | simp)), (by first | exact Qo rfl | exact Qq (by decide) | exact Qp | exact Qn _ | exact Qs (by simp) (by rfl) | exact Qr (by simp) (by rfl) (by first | rfl | (simp; done) | (simp; omega)) | exact Qt (by first | rfl | simp)), (by first | exact Qo rfl | exact Qq (by decide) | exact Qp | exact Qn _ | exact Qs (by simp) (by rfl) | exact Qr (by simp) (by rfl) (by first | rfl | (simp; done) | (simp; omega)) | exact Qt (by first | rfl | simp)), (by first | exact Qo rfl | exact Qq (by decide) | exact Qp | exact Qn _ | exact Qs (by simp) (by rfl) | exact Qr (by simp) (by rfl) (by first | rfl | (simp; done) | (simp; omega)) | exact Qt (by first | rfl | simp)), trivial⟩
      ·exact ⟨fun _ => ⟨_, rfl, (by first | exact Qw (by first | rfl | simp) | exact Qx (by first | rfl | simp) (by simp) ids_data | exact Qv (by simp [QX, QY]) | exact Qu (by simp) (by simp [QX, QY]))⟩, fun h => by simp at h, fun _ => ⟨_, rfl, (by first | exact Qw (by first | rfl | simp) | exact Qx (by first | rfl | simp) (by simp) ids_data | exact Qv (by simp [QX, QY]) | exact Qu (by simp) (by simp [QX, QY]))⟩, fun h => by simp at h, fun _ => ⟨_, rfl, Qw (by rw [hsl])⟩, fun h => by simp at h, trivial⟩
      ·simp [wfV, QY, QX, lookR, grow]
      ·exact ⟨by simp [QX, QY, lookR], by simp [QX, QY, lookR], wf_data _ _, trivial⟩
    ·intro hb
     obtain rfl : post = [] := by
      cases post with
      | nil => rfl
      | cons x t => have := Qf hb; simp at hspl; omega
     clear hb
     simp only [QG] at hsp
     subst hsp
     refine JK ?_
     simp only [zz6, QO, ↓Qb]
     refine hK3 _ ?_; try clear hK3 K3
     refine kpA [1, 2, 4, 7, 8] ?_
     refine JA fun K3 hK3 => ?_
     refine Qz F_mixed [some 86, some 87, some 85, some 88, some 89, some 10, some 11] rfl ?_
     simp only [zzK, QR, QP, QQ, JC, JE, JF, zz14, zzD, QS, QN, zzF, JB, ints, grow, JN, zz6, QO, ↓Qb]
     refine JT F_go45 (fun hG => Add_ (levelQ g (k + 1)) (by omega) (levQ_bndR hR _)) (by simp [QY, QX]) (by simp) ?_
     simp only [zzK, QR, QP, QQ, JC, JE, JF, zz14, zzD, QS, QN, zzF, JB, ints, grow, JN, zz6, QO, ↓Qb, atsL, oksG, JV, QZ, Qa, JO, Qm, QT, QS, zz9, QB, QA, zzC, yyF, QF, zz2]
     try refine ⟨by simp, ?_⟩
     refine hK3 _ ?_; try clear hK3 K3
     refine kpA [1, 2, 4, 7, 10, 11] ?_
     refine JA fun K3 hK3 => ?_
     refine Qz F_mixed [some 90, some 91, some 92, some 93, some 94, some 95] rfl ?_
     simp only [zzK, QR, QP, QQ, QU, JZ, zz5, Qj, Qi, Qh, and_self, JC, zz29, JM, zz30, zz21, zz28, zz13, JQ, JR, zz6, QO, ↓Qb]
     refine hK3 _ ?_; try clear hK3 K3
     refine kpA [1, 2, 4, 7, 95] ?_
     refine cnA ?_ ?_
     ·intro hb
      have hli : levelI g (k + 1) = false := by
       have e := lev_refR hR ((k : Int) + 1)
       rw [show _ = true from hb] at e
       simpa using e.symm
      clear hb
      have hlv2 : levelOk g = false := levelTo_false hk hli
      refine JA fun K4 hK4 => ?_
      refine Qz F_mixed [some 96, none, some 5] rfl ?_
      simp only [zzK, QR, QP, QQ, F_zero58, F_bld58, zz7, splice, Option.getD_some, QG, zz1, zzG, zzD, zzC, QA, yyE, Qe, QS, QN, zzH, zz10, zz18, F_ok58, F_sz58, JB, zz6, QO, ↓Qb]
      refine hK4 _ ?_; try clear hK4 K4
      refine kpA [4, 5] ?_
      have e : addE ⟨nx, ts, ps⟩ g = 12 := by rw [addE_def, ho, hany, hlv2]; try rfl
      have ev : addV ⟨nx, ts, ps⟩ g = ⟨0, [], []⟩ := add_no (by rw [e]; decide)
      refine awp_le (le_SK id [0, 1] rfl (l' := [(4, .ptr 4 0 0), (5, .d (iv 12))]) (m' := [(4, (⟨True, 58, 3, true, false, 4, [[.d (.v (.int .i64 0)), .ref 0 0, .ref 1 0]]⟩ : ARow)), (0, (⟨True, 86, 7, true, true, 0, []⟩ : ARow)), (1, (⟨True, 46, 4, true, true, 1, []⟩ : ARow))]) ?_ ?_ ?_ ?_) ?_
      ·simp only [leV, JD, QQ, Qd, Qc]; exact ⟨VLe.ptr_ (f := id) (by decide), Qo rfl, trivial⟩
      ·exact ⟨fun _ => ⟨_, rfl, RowLe.cells (VLess.one_ (VLes.cons_ (Qo rfl) (VLes.cons_ (Qq (by decide)) (VLes.cons_ (Qq (by decide)) VLes.nil_))))⟩, fun h => by simp at h, fun h => by simp at h, fun _ => rfl, fun h => by simp at h, fun _ => rfl, trivial⟩
      ·simp [wfV, QY, lookR]
      ·simp [wfR, QX, QY, lookR]
      refine JJ ?_
      simp only [zz6, QO, ↓Qb]
      rw [ev, e]
      refine doneN [0, 1] (by simp [resCs, resC, S, List.getD, JD, lookR, F_ag58, F_sz58, F_ok58]) ?_ (by simp [Ja, Jb, Jc, ]) (by simp [QY, QX, ]) (by decide) ?_
      ·simp only [QD, QE, resA, JZ, S_mem, lookR_cons, lookR_nil, QR, QP, JD, QQ, Qd, Qc, JP, QI, QJ, QH, QL, QK, List.take_zero, F_ag58, F_sz58, F_ok58]; rfl
      ·exact ⟨⟨_, rfl, trivial, rfl, rfl, rfl, rfl⟩, by simp [flatDs, Jc, tradeC], ⟨_, rfl, trivial, rfl, rfl, rfl, rfl⟩, by simp [flatDs, Jc, posC], trivial⟩
     ·intro hb
      have hli : levelI g (k + 1) = true := by
       have e := lev_refR hR ((k : Int) + 1)
       rw [show _ = false from hb] at e
       simpa using e.symm
      clear hb
      refine JI ?_
      simp only [zz6, QO, ↓Qb]
      refine hK2 _ ?_; try clear hK2 K2
      refine kpA [1, 2, 4, 7] ?_
      refine Qz F_mixed [some 61, some 62, some 7] rfl ?_
      simp only [zzK, QR, QP, QQ, JC, zz21, JM, zz26, JB, zz6, QO, ↓Qb]
      refine ⟨8 - (k + 1), _, by omega, le_SK id [] rfl (l' := [(1, .d (poss g)), (2, .ptr 2 0 0), (4, .ptr 4 0 0), (7, .d (iv ((((k + 1) : Nat) : Int) + 1)))]) (m' := [(2, (⟨True, 58, 3, true, false, 2, [[.d (iv nx), .d (.sl 7 (ts.map tradeC)), .d (.sl 4 (ps.map posC))]]⟩ : ARow)), (4, (⟨True, 58, 3, true, false, 4, [[.d (.v (.int .i64 0)), .d (.v (.slice none 0 0)), .d (.v (.slice none 0 0))]]⟩ : ARow))]) ?_ ?_ ?_ ?_, (k + 1), by omega, by rw [levelTo_succ, hlv, hli]; rfl, rfl, rfl⟩
      ·simp only [leV, JD, QQ, Qd, Qc, hw]; exact ⟨(by first | exact Qo rfl | exact Qq (by decide) | exact Qp | exact Qn _ | exact Qs (by simp) (by rfl) | exact Qr (by simp) (by rfl) (by first | rfl | (simp; done) | (simp; omega)) | exact Qt (by first | rfl | simp)), (by first | exact Qo rfl | exact Qq (by decide) | exact Qp | exact Qn _ | exact Qs (by simp) (by rfl) | exact Qr (by simp) (by rfl) (by first | rfl | (simp; done) | (simp; omega)) | exact Qt (by first | rfl | simp)), (by first | exact Qo rfl | exact Qq (by decide) | exact Qp | exact Qn _ | exact Qs (by simp) (by rfl) | exact Qr (by simp) (by rfl) (by first | rfl | (simp; done) | (simp; omega)) | exact Qt (by first | rfl | simp)), (by first | exact Qo rfl | exact Qq (by decide) | exact Qp | exact Qn _ | exact Qs (by simp) (by rfl) | exact Qr (by simp) (by rfl) (by first | rfl | (simp; done) | (simp; omega)) | exact Qt (by first | rfl | simp)), trivial⟩
      ·exact ⟨fun _ => ⟨_, rfl, (by first | exact Qw (by first | rfl | simp) | exact Qx (by first | rfl | simp) (by simp) ids_data | exact Qv (by simp [QX, QY]) | exact Qu (by simp) (by simp [QX, QY]))⟩, fun h => by simp at h, fun _ => ⟨_, rfl, (by first | exact Qw (by first | rfl | simp) | exact Qx (by first | rfl | simp) (by simp) ids_data | exact Qv (by simp [QX, QY]) | exact Qu (by simp) (by simp [QX, QY]))⟩, fun h => by simp at h, trivial⟩
      ·simp [wfV, QY, QX, lookR, grow]
      ·exact ⟨by simp [QX, QY, lookR], by simp [QX, QY, lookR], trivial⟩
   ·intro hb
    obtain rfl : k = 8 := by have := Qf hb; omega
    clear hb
    have hlv2 : levelOk g = true := hlv
    refine JK ?_
    simp only [zz6, QO, ↓Qb]
    refine hK0 _ ?_; try clear hK0 K0
    refine kpA [1, 2, 4] ?_
    refine JA fun K0 hK0 => ?_
    refine Qz F_mixed [some 97, some 98, some 12, none] rfl ?_
    simp only [zzK, QR, QP, QQ, F_ok58, F_ag58, F_sz58, zz8, zz23, zzD, QS, QN, zzH, zzC, QA, yyE, Qe, JE, JF, zz32, JS, F_zero58, zz10, zz18, splice, QG, zz1, zzG, bookC, tradesB, poss, QW, zz6, QO, ↓Qb]
    refine JT F_go46 (fun hG => twinBk_ nx ts ps (by omega) (by omega)) (by simp [QY, QX]) (by simp) ?_
    simp only [zzK, QR, QP, QQ, F_ok58, F_ag58, F_sz58, zz8, zz23, zzD, QS, QN, zzH, zzC, QA, yyE, Qe, JE, JF, zz32, JS, F_zero58, zz10, zz18, splice, QG, zz1, zzG, bookC, tradesB, poss, QW, zz6, QO, ↓Qb, atsL, oksG, JV, QZ, Qa, JO, Qm, QT, QS, zz9, QB, QA, S_mem, yyF, QF, zz2]
    refine hK0 _ ?_; try clear hK0 K0
    refine kpA [1, 2, 4, 12] ?_
    refine JA fun K0 hK0 => ?_
    refine Qz F_mixed [some 99, none] rfl ?_
    simp only [zzK, QR, QP, QQ, zz19, zz23, F_off58_2, zzH, QN, QS, zz18, F_ok42, F_sz42, splice, QG, zzD, zzC, QA, yyE, Qe, zz1, zzG, zz6, QO, ↓Qb]
    refine hK0 _ ?_; try clear hK0 K0
    refine kpA [1, 2, 4, 12] ?_
    refine JA fun K0 hK0 => ?_
    refine JA fun K1 hK1 => ?_
    refine Qz F_mixed [some 13] rfl ?_
    simp only [zzK, QR, QP, QQ, JB, zz6, QO, ↓Qb]
    refine hK1 _ ?_; try clear hK1 K1
    refine kpA [1, 2, 4, 12, 13] ?_
    refine JH ?_
    refine JL (fun m s => ∃ (w : Nat), (w ≤ 16) ∧ ((kW w).any (jBad (ps ++ g)) = false) ∧ m = 16 - w ∧ s = S 199 [(1, .d (poss g)), (2, .ptr 2 0 0), (4, .ptr 4 0 0), (12, .ptr 12 0 0), (13, .d (iv ((w : Nat) + 1 : Int)))] [(2, (⟨True, 58, 3, true, false, 2, [[.d (iv nx), .d (.sl 7 (ts.map tradeC)), .d (.sl 4 (ps.map posC))]]⟩ : ARow)), (4, (⟨True, 58, 3, true, false, 4, [[.d (.v (.int .i64 0)), .d (.v (.slice none 0 0)), .d (.v (.slice none 0 0))]]⟩ : ARow)), (12, (⟨True, 58, 3, true, false, 12, [[.d (iv nx), .ref 99000 ts.length, .ref 500 (jOut (ps ++ g) (kW w)).length]]⟩ : ARow)), (99000, (⟨True, 86, 7, true, true, 99000, (ts.map tradeC).map (·.map .d)⟩ : ARow)), (500, grow 46 4 500 ((jOut (ps ++ g) (kW w)).map posC))]) (16) _ (le_SK id [500] rfl (l' := [(1, .d (poss g)), (2, .ptr 2 0 0), (4, .ptr 4 0 0), (12, .ptr 12 0 0), (13, .d (iv ((0 : Nat) + 1 : Int)))]) (m' := [(2, (⟨True, 58, 3, true, false, 2, [[.d (iv nx), .d (.sl 7 (ts.map tradeC)), .d (.sl 4 (ps.map posC))]]⟩ : ARow)), (4, (⟨True, 58, 3, true, false, 4, [[.d (.v (.int .i64 0)), .d (.v (.slice none 0 0)), .d (.v (.slice none 0 0))]]⟩ : ARow)), (12, (⟨True, 58, 3, true, false, 12, [[.d (iv nx), .ref 99000 ts.length, .ref 500 (jOut (ps ++ g) (kW 0)).length]]⟩ : ARow)), (99000, (⟨True, 86, 7, true, true, 99000, (ts.map tradeC).map (·.map .d)⟩ : ARow)), (500, grow 46 4 500 ((jOut (ps ++ g) (kW 0)).map posC))]) ?_ ?_ ?_ ?_) ⟨0, by omega, rfl, rfl, rfl⟩ ?_
    ·simp only [leV, JD, QQ, Qd, Qc]; exact ⟨(by first | exact Qo rfl | exact Qq (by decide) | exact Qp | exact Qn _ | exact Qs (by simp) (by rfl) | exact Qr (by simp) (by rfl) (by first | rfl | (simp; done) | (simp; omega)) | exact Qt (by first | rfl | simp)), (by first | exact Qo rfl | exact Qq (by decide) | exact Qp | exact Qn _ | exact Qs (by simp) (by rfl) | exact Qr (by simp) (by rfl) (by first | rfl | (simp; done) | (simp; omega)) | exact Qt (by first | rfl | simp)), (by first | exact Qo rfl | exact Qq (by decide) | exact Qp | exact Qn _ | exact Qs (by simp) (by rfl) | exact Qr (by simp) (by rfl) (by first | rfl | (simp; done) | (simp; omega)) | exact Qt (by first | rfl | simp)), (by first | exact Qo rfl | exact Qq (by decide) | exact Qp | exact Qn _ | exact Qs (by simp) (by rfl) | exact Qr (by simp) (by rfl) (by first | rfl | (simp; done) | (simp; omega)) | exact Qt (by first | rfl | simp)), Qt rfl, trivial⟩
    ·exact ⟨fun _ => ⟨_, rfl, (by first | exact Qw (by first | rfl | simp) | exact Qx (by first | rfl | simp) (by simp) ids_data | exact Qv (by simp [QX, QY]) | exact Qu (by simp) (by simp [QX, QY]))⟩, fun h => by simp at h, fun _ => ⟨_, rfl, (by first | exact Qw (by first | rfl | simp) | exact Qx (by first | rfl | simp) (by simp) ids_data | exact Qv (by simp [QX, QY]) | exact Qu (by simp) (by simp [QX, QY]))⟩, fun h => by simp at h, fun _ => ⟨_, rfl, RowLe.cells (VLess.one_ (VLes.cons_ (Qt rfl) (VLes.cons_ (Qr (by simp) rfl (by simp)) (VLes.cons_ (Qq (by decide)) (VLes.nil_)))))⟩, fun h => by simp at h, fun _ => ⟨_, rfl, (by first | exact Qw (by first | rfl | simp) | exact Qx (by first | rfl | simp) (by simp) ids_data | exact Qv (by simp [QX, QY]) | exact Qu (by simp) (by simp [QX, QY]))⟩, fun h => by simp at h, fun h => by simp at h, fun _ => rfl, trivial⟩
    ·simp [wfV, QY, QX, lookR, grow]
    ·exact ⟨by simp [QX, QY, lookR], by simp [QX, QY, lookR], by simp [QX, QY, lookR], wf_data _ _, wf_data _ _, trivial⟩
    rintro m s ⟨w, hw16, hbw, rfl, rfl⟩
    refine JA fun K2 hK2 => ?_
    refine JA fun K3 hK3 => ?_
    refine Qz F_mixed [some 100, some 101] rfl ?_
    simp only [zzK, QR, QP, QQ, JC, zz21, JM, b_leq, pure_leq, zz6, QO, ↓Qb]
    refine hK3 _ ?_; try clear hK3 K3
    refine kpA [1, 2, 4, 12, 13, 101] ?_
    refine cnA ?_ ?_
    ·intro hb
     have hw : w < 16 := by have := Qg hb; omega
     clear hb
     have hww : Ql .i64 ((w : Int) + 1 + 1) = (((w + 1 : Nat) : Int) + 1) := by rw [wrapI (by omega) (by omega)]; omega
     refine JI ?_
     simp only [zz6, QO, ↓Qb]
     refine hK2 _ ?_; try clear hK2 K2
     refine kpA [1, 2, 4, 12, 13] ?_
     refine JA fun K2 hK2 => ?_
     refine JH ?_
     refine JA fun K3 hK3 => ?_
     refine Qz F_mixed [some 14] rfl ?_
     simp only [zzK, QR, QP, QQ, JB, zz6, QO, ↓Qb]
     refine hK3 _ ?_; try clear hK3 K3
     refine kpA [1, 2, 4, 12, 13, 14] ?_
     refine JH ?_
     refine JL (fun m s => ∃ (n : Nat), (n ≤ 8) ∧ ((kW w ++ kN ((w : Int) + 1) n).any (jBad (ps ++ g)) = false) ∧ m = 8 - n ∧ s = S 199 [(1, .d (poss g)), (2, .ptr 2 0 0), (4, .ptr 4 0 0), (12, .ptr 12 0 0), (13, .d (iv ((w : Nat) + 1 : Int))), (14, .d (iv ((n : Nat) + 1 : Int)))] [(2, (⟨True, 58, 3, true, false, 2, [[.d (iv nx), .d (.sl 7 (ts.map tradeC)), .d (.sl 4 (ps.map posC))]]⟩ : ARow)), (4, (⟨True, 58, 3, true, false, 4, [[.d (.v (.int .i64 0)), .d (.v (.slice none 0 0)), .d (.v (.slice none 0 0))]]⟩ : ARow)), (12, (⟨True, 58, 3, true, false, 12, [[.d (iv nx), .ref 99000 ts.length, .ref 500 (jOut (ps ++ g) (kW w ++ kN ((w : Int) + 1) n)).length]]⟩ : ARow)), (99000, (⟨True, 86, 7, true, true, 99000, (ts.map tradeC).map (·.map .d)⟩ : ARow)), (500, grow 46 4 500 ((jOut (ps ++ g) (kW w ++ kN ((w : Int) + 1) n)).map posC))]) (8) _ (le_SK id [] rfl (l' := [(1, .d (poss g)), (2, .ptr 2 0 0), (4, .ptr 4 0 0), (12, .ptr 12 0 0), (13, .d (iv ((w : Nat) + 1 : Int))), (14, .d (iv ((0 : Nat) + 1 : Int)))]) (m' := [(2, (⟨True, 58, 3, true, false, 2, [[.d (iv nx), .d (.sl 7 (ts.map tradeC)), .d (.sl 4 (ps.map posC))]]⟩ : ARow)), (4, (⟨True, 58, 3, true, false, 4, [[.d (.v (.int .i64 0)), .d (.v (.slice none 0 0)), .d (.v (.slice none 0 0))]]⟩ : ARow)), (12, (⟨True, 58, 3, true, false, 12, [[.d (iv nx), .ref 99000 ts.length, .ref 500 (jOut (ps ++ g) (kW w ++ kN ((w : Int) + 1) 0)).length]]⟩ : ARow)), (99000, (⟨True, 86, 7, true, true, 99000, (ts.map tradeC).map (·.map .d)⟩ : ARow)), (500, grow 46 4 500 ((jOut (ps ++ g) (kW w ++ kN ((w : Int) + 1) 0)).map posC))]) ?_ ?_ ?_ ?_) ⟨0, by omega, by simpa [kN] using hbw, rfl, rfl⟩ ?_
     ·simp only [leV, JD, QQ, Qd, Qc]; exact ⟨(by first | exact Qo rfl | exact Qq (by decide) | exact Qp | exact Qn _ | exact Qs (by simp) (by rfl) | exact Qr (by simp) (by rfl) (by first | rfl | (simp; done) | (simp; omega)) | exact Qt (by first | rfl | simp)), (by first | exact Qo rfl | exact Qq (by decide) | exact Qp | exact Qn _ | exact Qs (by simp) (by rfl) | exact Qr (by simp) (by rfl) (by first | rfl | (simp; done) | (simp; omega)) | exact Qt (by first | rfl | simp)), (by first | exact Qo rfl | exact Qq (by decide) | exact Qp | exact Qn _ | exact Qs (by simp) (by rfl) | exact Qr (by simp) (by rfl) (by first | rfl | (simp; done) | (simp; omega)) | exact Qt (by first | rfl | simp)), (by first | exact Qo rfl | exact Qq (by decide) | exact Qp | exact Qn _ | exact Qs (by simp) (by rfl) | exact Qr (by simp) (by rfl) (by first | rfl | (simp; done) | (simp; omega)) | exact Qt (by first | rfl | simp)), (by first | exact Qo rfl | exact Qq (by decide) | exact Qp | exact Qn _ | exact Qs (by simp) (by rfl) | exact Qr (by simp) (by rfl) (by first | rfl | (simp; done) | (simp; omega)) | exact Qt (by first | rfl | simp)), Qt rfl, trivial⟩
     ·exact ⟨fun _ => ⟨_, rfl, (by first | exact Qw (by first | rfl | simp) | exact Qx (by first | rfl | simp) (by simp) ids_data | exact Qv (by simp [QX, QY]) | exact Qu (by simp) (by simp [QX, QY]))⟩, fun h => by simp at h, fun _ => ⟨_, rfl, (by first | exact Qw (by first | rfl | simp) | exact Qx (by first | rfl | simp) (by simp) ids_data | exact Qv (by simp [QX, QY]) | exact Qu (by simp) (by simp [QX, QY]))⟩, fun h => by simp at h, fun _ => ⟨_, rfl, RowLe.cells (VLess.one_ (VLes.cons_ (Qt rfl) (VLes.cons_ (Qr (by simp) rfl (by simp)) (VLes.cons_ (Qr (by simp) rfl (by simp [kN])) (VLes.nil_)))))⟩, fun h => by simp at h, fun _ => ⟨_, rfl, (by first | exact Qw (by first | rfl | simp) | exact Qx (by first | rfl | simp) (by simp) ids_data | exact Qv (by simp [QX, QY]) | exact Qu (by simp) (by simp [QX, QY]))⟩, fun h => by simp at h, fun _ => ⟨_, rfl, Qw (by simp [kN])⟩, fun h => by simp at h, trivial⟩
     ·simp [wfV, QY, QX, lookR, grow]
     ·exact ⟨by simp [QX, QY, lookR], by simp [QX, QY, lookR], by simp [QX, QY, lookR], wf_data _ _, wf_data _ _, trivial⟩
     rintro m s ⟨n, hn8, hbn, rfl, rfl⟩
     have hjl := jOut_len (ps ++ g) (kW w ++ kN ((w : Int) + 1) n)
     rw [QC, kW_len, kN_len] at hjl
     refine JA fun K4 hK4 => ?_
     refine JA fun K5 hK5 => ?_
     refine Qz F_mixed [some 104, some 105] rfl ?_
     simp only [zzK, QR, QP, QQ, JC, zz21, JM, b_leq, pure_leq, zz6, QO, ↓Qb]
     refine hK5 _ ?_; try clear hK5 K5
     refine kpA [1, 2, 4, 12, 13, 14, 105] ?_
     refine cnA ?_ ?_
     ·intro hb
      have hn : n < 8 := by have := Qg hb; omega
      clear hb
      have hwn : Ql .i64 ((n : Int) + 1 + 1) = (((n + 1 : Nat) : Int) + 1) := by rw [wrapI (by omega) (by omega)]; omega
      obtain ⟨hqb, hcb⟩ := qcL_bnd hG hR ((w : Int) + 1) ((n : Int) + 1)
      obtain ⟨hqs, hcs⟩ := qcL_sum (w := (w : Int) + 1) (n := (n : Int) + 1) hG g
      simp only at hqb hcb hqs hcs
      refine JI ?_
      simp only [zz6, QO, ↓Qb]
      refine hK4 _ ?_; try clear hK4 K4
      refine kpA [1, 2, 4, 12, 13, 14] ?_
      refine JA fun K4 hK4 => ?_
      refine JH ?_
      refine JA fun K5 hK5 => ?_
      refine Qz F_mixed [some 108, some 109, some 110, some 111, some 112, some 15, none] rfl ?_
      simp only [zzK, QR, QP, QQ, F_ok58, F_ag58, F_sz58, zz8, zz23, zzD, QS, QN, zzH, zzC, QA, yyE, Qe, JC, F_zero29, F_bld29, zz7, splice, Option.getD_some, QG, zz1, zzG, zz10, F_fld29_0, F_fld29_1, JE, JF, zz32, JS, F_zero46, zz18, F_ok46, F_sz46, bookC, tradesB, poss, posA, QW, zz6, QO, ↓Qb]
      refine JT F_go23 (fun hG => rOf13_ nx ts ps ((w : Int) + 1) ((n : Int) + 1) (by omega)) (by simp [QY, QX, posA]) (by simp) ?_
      simp only [zzK, QR, QP, QQ, F_ok58, F_ag58, F_sz58, zz8, zz23, zzD, QS, QN, zzH, zzC, QA, yyE, Qe, JC, F_zero29, F_bld29, zz7, splice, Option.getD_some, QG, zz1, zzG, zz10, F_fld29_0, F_fld29_1, JE, JF, zz32, JS, F_zero46, zz18, F_ok46, F_sz46, bookC, tradesB, poss, posA, QW, zz6, QO, ↓Qb, atsL, oksG, JV, QZ, Qa, JO, Qm, QT, QS, zz9, QB, QA, S_mem, yyF, QF, zz2]
      refine hK5 _ ?_; try clear hK5 K5
      refine kpA [1, 2, 4, 12, 13, 14, 15] ?_
      refine JA fun K5 hK5 => ?_
      refine awp_draw F_mixed [some 113, some 114, some 115, some 116, some 117, some 118, some 16, some 17] rfl (by kernel_rfl) ?_
      simp only [zzK, QR, QP, QQ, zz19, zz23, F_off46_1, zzH, QN, QS, F_ok3, F_ag3, F_sz3, zz8, zzD, zzC, QA, yyE, Qe, F_sl90, F_zero3, zz3, JS, zz1, zzG, maxLen_le, QT, F_off46_2, JB, posA, zz6, QO, ↓Qb]
      refine hK5 _ ?_; try clear hK5 K5
      refine kpA [1, 2, 4, 12, 13, 14, 16, 17] ?_
      refine JA fun K5 hK5 => ?_
      refine JA fun K6 hK6 => ?_
      refine Qz F_mixed [some 18] rfl ?_
      simp only [zzK, QR, QP, QQ, JB, zz6, QO, ↓Qb]
      refine hK6 _ ?_; try clear hK6 K6
      refine kpA [1, 2, 4, 12, 13, 14, 16, 17, 18] ?_
      refine JH ?_
      refine JL (fun m s => ∃ (pre : List PosV) (post : List PosV), (g = pre ++ post) ∧ m = post.length ∧ s = S 199 [(1, .d (poss g)), (2, .ptr 2 0 0), (4, .ptr 4 0 0), (12, .ptr 12 0 0), (13, .d (iv ((w : Nat) + 1 : Int))), (14, .d (iv ((n : Nat) + 1 : Int))), (16, .ref 16 (qcL PosV.qty ((w : Int) + 1) ((n : Int) + 1) ps pre).length), (17, .ref 17 (qcL PosV.cost ((w : Int) + 1) ((n : Int) + 1) ps pre).length), (18, .d (iv pre.length))] [(2, (⟨True, 58, 3, true, false, 2, [[.d (iv nx), .d (.sl 7 (ts.map tradeC)), .d (.sl 4 (ps.map posC))]]⟩ : ARow)), (4, (⟨True, 58, 3, true, false, 4, [[.d (.v (.int .i64 0)), .d (.v (.slice none 0 0)), .d (.v (.slice none 0 0))]]⟩ : ARow)), (12, (⟨True, 58, 3, true, false, 12, [[.d (iv nx), .ref 99000 ts.length, .ref 500 (jOut (ps ++ g) (kW w ++ kN ((w : Int) + 1) n)).length]]⟩ : ARow)), (99000, (⟨True, 86, 7, true, true, 99000, (ts.map tradeC).map (·.map .d)⟩ : ARow)), (500, grow 46 4 500 ((jOut (ps ++ g) (kW w ++ kN ((w : Int) + 1) n)).map posC)), (16, grow 3 1 16 ((qcL PosV.qty ((w : Int) + 1) ((n : Int) + 1) ps pre).map fun n => [iv n])), (17, grow 3 1 17 ((qcL PosV.cost ((w : Int) + 1) ((n : Int) + 1) ps pre).map fun n => [iv n]))]) (g.length) _ (le_SK (fun r => bif r == 17 then 118 else bif r == 16 then 115 else r) [] rfl (l' := [(1, .d (poss g)), (2, .ptr 2 0 0), (4, .ptr 4 0 0), (12, .ptr 12 0 0), (13, .d (iv ((w : Nat) + 1 : Int))), (14, .d (iv ((n : Nat) + 1 : Int))), (16, .ref 16 (qcL PosV.qty ((w : Int) + 1) ((n : Int) + 1) ps []).length), (17, .ref 17 (qcL PosV.cost ((w : Int) + 1) ((n : Int) + 1) ps []).length), (18, .d (iv [].length))]) (m' := [(2, (⟨True, 58, 3, true, false, 2, [[.d (iv nx), .d (.sl 7 (ts.map tradeC)), .d (.sl 4 (ps.map posC))]]⟩ : ARow)), (4, (⟨True, 58, 3, true, false, 4, [[.d (.v (.int .i64 0)), .d (.v (.slice none 0 0)), .d (.v (.slice none 0 0))]]⟩ : ARow)), (12, (⟨True, 58, 3, true, false, 12, [[.d (iv nx), .ref 99000 ts.length, .ref 500 (jOut (ps ++ g) (kW w ++ kN ((w : Int) + 1) n)).length]]⟩ : ARow)), (99000, (⟨True, 86, 7, true, true, 99000, (ts.map tradeC).map (·.map .d)⟩ : ARow)), (500, grow 46 4 500 ((jOut (ps ++ g) (kW w ++ kN ((w : Int) + 1) n)).map posC)), (16, grow 3 1 16 ((qcL PosV.qty ((w : Int) + 1) ((n : Int) + 1) ps []).map fun n => [iv n])), (17, grow 3 1 17 ((qcL PosV.cost ((w : Int) + 1) ((n : Int) + 1) ps []).map fun n => [iv n]))]) ?_ ?_ ?_ ?_) ⟨[], g, rfl, rfl, rfl⟩ ?_
      ·simp only [leV, JD, QQ, Qd, Qc]; exact ⟨(by first | exact Qo rfl | exact Qq (by decide) | exact Qp | exact Qn _ | exact Qs (by simp) (by rfl) | exact Qr (by simp) (by rfl) (by first | rfl | (simp; done) | (simp; omega)) | exact Qt (by first | rfl | simp)), (by first | exact Qo rfl | exact Qq (by decide) | exact Qp | exact Qn _ | exact Qs (by simp) (by rfl) | exact Qr (by simp) (by rfl) (by first | rfl | (simp; done) | (simp; omega)) | exact Qt (by first | rfl | simp)), (by first | exact Qo rfl | exact Qq (by decide) | exact Qp | exact Qn _ | exact Qs (by simp) (by rfl) | exact Qr (by simp) (by rfl) (by first | rfl | (simp; done) | (simp; omega)) | exact Qt (by first | rfl | simp)), (by first | exact Qo rfl | exact Qq (by decide) | exact Qp | exact Qn _ | exact Qs (by simp) (by rfl) | exact Qr (by simp) (by rfl) (by first | rfl | (simp; done) | (simp; omega)) | exact Qt (by first | rfl | simp)), (by first | exact Qo rfl | exact Qq (by decide) | exact Qp | exact Qn _ | exact Qs (by simp) (by rfl) | exact Qr (by simp) (by rfl) (by first | rfl | (simp; done) | (simp; omega)) | exact Qt (by first | rfl | simp)), (by first | exact Qo rfl | exact Qq (by decide) | exact Qp | exact Qn _ | exact Qs (by simp) (by rfl) | exact Qr (by simp) (by rfl) (by first | rfl | (simp; done) | (simp; omega)) | exact Qt (by first | rfl | simp)), (by first | exact Qo rfl | exact Qq (by decide) | exact Qp | exact Qn _ | exact Qs (by simp) (by rfl) | exact Qr (by simp) (by rfl) (by first | rfl | (simp; done) | (simp; omega)) | exact Qt (by first | rfl | simp)), (by first | exact Qo rfl | exact Qq (by decide) | exact Qp | exact Qn _ | exact Qs (by simp) (by rfl) | exact Qr (by simp) (by rfl) (by first | rfl | (simp; done) | (simp; omega)) | exact Qt (by first | rfl | simp)), (by first | exact Qo rfl | exact Qq (by decide) | exact Qp | exact Qn _ | exact Qs (by simp) (by rfl) | exact Qr (by simp) (by rfl) (by first | rfl | (simp; done) | (simp; omega)) | exact Qt (by first | rfl | simp)), trivial⟩
      ·exact ⟨fun _ => ⟨_, rfl, (by first | exact Qw (by first | rfl | simp) | exact Qx (by first | rfl | simp) (by simp) ids_data | exact Qv (by simp [QX, QY]) | exact Qu (by simp) (by simp [QX, QY]))⟩, fun h => by simp at h, fun _ => ⟨_, rfl, (by first | exact Qw (by first | rfl | simp) | exact Qx (by first | rfl | simp) (by simp) ids_data | exact Qv (by simp [QX, QY]) | exact Qu (by simp) (by simp [QX, QY]))⟩, fun h => by simp at h, fun _ => ⟨_, rfl, RowLe.cells (VLess.one_ (VLes.cons_ (Qt rfl) (VLes.cons_ (Qr (by simp) rfl (rfl)) (VLes.cons_ (Qr (by simp) rfl (rfl)) (VLes.nil_)))))⟩, fun h => by simp at h, fun _ => ⟨_, rfl, (by first | exact Qw (by first | rfl | simp) | exact Qx (by first | rfl | simp) (by simp) ids_data | exact Qv (by simp [QX, QY]) | exact Qu (by simp) (by simp [QX, QY]))⟩, fun h => by simp at h, fun _ => ⟨_, rfl, (by first | exact Qw (by first | rfl | simp) | exact Qx (by first | rfl | simp) (by simp) ids_data | exact Qv (by simp [QX, QY]) | exact Qu (by simp) (by simp [QX, QY]))⟩, fun h => by simp at h, fun _ => ⟨_, rfl, Qx (by rfl) (by simp [qcL, kF]) (by simp [QX, QY])⟩, fun h => by simp at h, fun _ => ⟨_, rfl, Qx (by rfl) (by simp [qcL, kF]) (by simp [QX, QY])⟩, fun h => by simp at h, trivial⟩
      ·simp [wfV, QY, QX, lookR, grow]
      ·exact ⟨by simp [QX, QY, lookR], by simp [QX, QY, lookR], by simp [QX, QY, lookR], wf_data _ _, wf_data _ _, wf_data _ _, wf_data _ _, trivial⟩
      rintro m s ⟨pre, post, hsp, rfl, rfl⟩
      have hspl := congrArg List.length hsp
      simp only [QC] at hspl
      have hql := qcL_len PosV.qty ((w : Int) + 1) ((n : Int) + 1) ps pre
      have hcl := qcL_len PosV.cost ((w : Int) + 1) ((n : Int) + 1) ps pre
      refine JA fun K7 hK7 => ?_
      refine JA fun K8 hK8 => ?_
      refine Qz F_mixed [some 119, some 120, some 121, some 122] rfl ?_
      simp only [zzK, QR, QP, QQ, JC, JE, zz12, F_sl42, Option.isSome_some, zz21, JM, zz22, poss, JN, zz6, QO, ↓Qb]
      refine hK8 _ ?_; try clear hK8 K8
      refine kpA [1, 2, 4, 12, 13, 14, 16, 17, 18, 122] ?_
      refine cnA ?_ ?_
      ·intro hb
       obtain ⟨x, post2, rfl⟩ : ∃ x t, post = x :: t := by
        cases post with
        | nil => have := Qg hb; simp at hspl; omega
        | cons x t => exact ⟨x, t, rfl⟩
       clear hb
       simp only [QF] at hspl
       have gx : (g.map posC).getD pre.length [] = [iv x.who, iv x.inst, iv x.qty, iv x.cost] := by
        rw [hsp, List.map_append]; exact gd_mid' (A := pre.map posC) _ _ (by simp)
       have bx := ltI (show pre.length < g.length by omega)
       have hwx : Ql .i64 ((pre.length : Int) + 1) = ((pre ++ [x]).length : Int) := by rw [wrapI (by omega) (by omega)]; simp
       refine JI ?_
       simp only [zz6, QO, ↓Qb]
       refine hK7 _ ?_; try clear hK7 K7
       refine kpA [1, 2, 4, 12, 13, 14, 16, 17, 18] ?_
       refine JA fun K7 hK7 => ?_
       refine JH ?_
       refine JA fun K8 hK8 => ?_
       refine Qz F_mixed [some 125, some 126, some 127, some 128, some 129, some 130, some 131, some 132, some 133, some 134, some 135, some 136, some 137, some 138, some 139, some 140, some 141, some 142] rfl ?_
       simp only [zzK, QR, QP, QQ, QU, JZ, zz5, Qj, Qi, Qh, JC, JW, zz23, zz24, F_sl42, F_sz46, QA, zzC, yyE, Qe, zz19, F_off46_0, zzH, QN, QS, F_off29_0, F_ok3, F_ag3, F_sz3, zz8, zzD, zz21, JM, zz34, F_off29_1, zz13, JQ, JR, poss, posC, gx, bx, hwx, JN, ge0, QV, QW, zz6, QO, ↓Qb]
       refine hK8 _ ?_; try clear hK8 K8
       refine kpA [1, 2, 4, 12, 13, 14, 16, 17, 18, 142] ?_
       refine cnA ?_ ?_
       ·intro hb
        have hs : kSame ((w : Int) + 1) ((n : Int) + 1) x = true := hb
        clear hb
        have hq := qcL_yes (f := PosV.qty) hs ps pre
        have hc := qcL_yes (f := PosV.cost) hs ps pre
        refine JA fun K9 hK9 => ?_
        refine Qz F_mixed [some 143, some 144, some 145, some 146, some 147, some 148, some 149, some 150, some 16] rfl ?_
        simp only [zzK, QR, QP, QQ, JC, JW, zz23, zz24, F_sl42, F_sz46, QA, zzC, yyE, Qe, zz19, F_off46_1, zzH, QN, QS, F_ok3, F_ag3, F_sz3, zz8, zzD, F_sl90, F_zero3, zz3, JS, zz1, zzG, maxLen_le, QT, JE, F_by3, zz4, zz9, QB, JB, poss, posC, grow, unDs_map, gx, bx, hwx, JN, ge0, QV, QW, zz6, QO, ↓Qb]
        have hm : (qcL PosV.qty ((w : Int) + 1) ((n : Int) + 1) ps pre).length + 1 ≤ 1000000 := by first | omega | (simp; omega)
        first | refine ⟨le_maxLen hm, by omega, ?_⟩ | refine ⟨by simp, le_maxLen hm, by omega, ?_⟩
        clear hm
        refine hK9 _ ?_; try clear hK9 K9
        refine kpA [1, 2, 4, 12, 13, 14, 16, 17, 18] ?_
        refine Qz F_mixed [some 151, some 152, some 153, some 154, some 155, some 156, some 157, some 158, some 17] rfl ?_
        simp only [zzK, QR, QP, QQ, JC, JW, zz23, zz24, F_sl42, F_sz46, QA, zzC, yyE, Qe, zz19, F_off46_2, zzH, QN, QS, F_ok3, F_ag3, F_sz3, zz8, zzD, F_sl90, F_zero3, zz3, JS, zz1, zzG, maxLen_le, QT, JE, F_by3, zz4, zz9, QB, JB, poss, posC, grow, unDs_map, gx, bx, hwx, JN, ge0, QV, QW, zz6, QO, ↓Qb]
        have hm : (qcL PosV.cost ((w : Int) + 1) ((n : Int) + 1) ps pre).length + 1 ≤ 1000000 := by first | omega | (simp; omega)
        first | refine ⟨le_maxLen hm, by omega, ?_⟩ | refine ⟨by simp, le_maxLen hm, by omega, ?_⟩
        clear hm
        refine hK7 _ ?_; try clear hK7 K7
        refine kpA [1, 2, 4, 12, 13, 14, 16, 17, 18] ?_
        refine Qz F_mixed [some 123, some 124, some 18] rfl ?_
        simp only [zzK, QR, QP, QQ, JC, zz21, JM, zz26, JB, hwx, zz6, QO, ↓Qb]
        refine ⟨post2.length, _, by simp, le_SK (fun r => bif r == 17 then 158 else bif r == 16 then 150 else r) [] rfl (l' := [(1, .d (poss g)), (2, .ptr 2 0 0), (4, .ptr 4 0 0), (12, .ptr 12 0 0), (13, .d (iv ((w : Nat) + 1 : Int))), (14, .d (iv ((n : Nat) + 1 : Int))), (16, .ref 16 (qcL PosV.qty ((w : Int) + 1) ((n : Int) + 1) ps (pre ++ [x])).length), (17, .ref 17 (qcL PosV.cost ((w : Int) + 1) ((n : Int) + 1) ps (pre ++ [x])).length), (18, .d (iv (pre ++ [x]).length))]) (m' := [(2, (⟨True, 58, 3, true, false, 2, [[.d (iv nx), .d (.sl 7 (ts.map tradeC)), .d (.sl 4 (ps.map posC))]]⟩ : ARow)), (4, (⟨True, 58, 3, true, false, 4, [[.d (.v (.int .i64 0)), .d (.v (.slice none 0 0)), .d (.v (.slice none 0 0))]]⟩ : ARow)), (12, (⟨True, 58, 3, true, false, 12, [[.d (iv nx), .ref 99000 ts.length, .ref 500 (jOut (ps ++ g) (kW w ++ kN ((w : Int) + 1) n)).length]]⟩ : ARow)), (99000, (⟨True, 86, 7, true, true, 99000, (ts.map tradeC).map (·.map .d)⟩ : ARow)), (500, grow 46 4 500 ((jOut (ps ++ g) (kW w ++ kN ((w : Int) + 1) n)).map posC)), (16, grow 3 1 16 ((qcL PosV.qty ((w : Int) + 1) ((n : Int) + 1) ps (pre ++ [x])).map fun n => [iv n])), (17, grow 3 1 17 ((qcL PosV.cost ((w : Int) + 1) ((n : Int) + 1) ps (pre ++ [x])).map fun n => [iv n]))]) ?_ ?_ ?_ ?_, (pre ++ [x]), post2, by simp [hsp], rfl, rfl⟩
        ·simp only [leV, JD, QQ, Qd, Qc, hwx, hq, hc]; exact ⟨(by first | exact Qo rfl | exact Qq (by decide) | exact Qp | exact Qn _ | exact Qs (by simp) (by rfl) | exact Qr (by simp) (by rfl) (by first | rfl | (simp; done) | (simp; omega)) | exact Qt (by first | rfl | simp)), (by first | exact Qo rfl | exact Qq (by decide) | exact Qp | exact Qn _ | exact Qs (by simp) (by rfl) | exact Qr (by simp) (by rfl) (by first | rfl | (simp; done) | (simp; omega)) | exact Qt (by first | rfl | simp)), (by first | exact Qo rfl | exact Qq (by decide) | exact Qp | exact Qn _ | exact Qs (by simp) (by rfl) | exact Qr (by simp) (by rfl) (by first | rfl | (simp; done) | (simp; omega)) | exact Qt (by first | rfl | simp)), (by first | exact Qo rfl | exact Qq (by decide) | exact Qp | exact Qn _ | exact Qs (by simp) (by rfl) | exact Qr (by simp) (by rfl) (by first | rfl | (simp; done) | (simp; omega)) | exact Qt (by first | rfl | simp)), (by first | exact Qo rfl | exact Qq (by decide) | exact Qp | exact Qn _ | exact Qs (by simp) (by rfl) | exact Qr (by simp) (by rfl) (by first | rfl | (simp; done) | (simp; omega)) | exact Qt (by first | rfl | simp)), (by first | exact Qo rfl | exact Qq (by decide) | exact Qp | exact Qn _ | exact Qs (by simp) (by rfl) | exact Qr (by simp) (by rfl) (by first | rfl | (simp; done) | (simp; omega)) | exact Qt (by first | rfl | simp)), (by first | exact Qo rfl | exact Qq (by decide) | exact Qp | exact Qn _ | exact Qs (by simp) (by rfl) | exact Qr (by simp) (by rfl) (by first | rfl | (simp; done) | (simp; omega)) | exact Qt (by first | rfl | simp)), (by first | exact Qo rfl | exact Qq (by decide) | exact Qp | exact Qn _ | exact Qs (by simp) (by rfl) | exact Qr (by simp) (by rfl) (by first | rfl | (simp; done) | (simp; omega)) | exact Qt (by first | rfl | simp)), (by first | exact Qo rfl | exact Qq (by decide) | exact Qp | exact Qn _ | exact Qs (by simp) (by rfl) | exact Qr (by simp) (by rfl) (by first | rfl | (simp; done) | (simp; omega)) | exact Qt (by first | rfl | simp)), trivial⟩
        ·exact ⟨fun _ => ⟨_, rfl, (by first | exact Qw (by first | rfl | simp) | exact Qx (by first | rfl | simp) (by simp) ids_data | exact Qv (by simp [QX, QY]) | exact Qu (by simp) (by simp [QX, QY]))⟩, fun h => by simp at h, fun _ => ⟨_, rfl, (by first | exact Qw (by first | rfl | simp) | exact Qx (by first | rfl | simp) (by simp) ids_data | exact Qv (by simp [QX, QY]) | exact Qu (by simp) (by simp [QX, QY]))⟩, fun h => by simp at h, fun _ => ⟨_, rfl, RowLe.cells (VLess.one_ (VLes.cons_ (Qt rfl) (VLes.cons_ (Qr (by simp) rfl (rfl)) (VLes.cons_ (Qr (by simp) rfl (rfl)) (VLes.nil_)))))⟩, fun h => by simp at h, fun _ => ⟨_, rfl, (by first | exact Qw (by first | rfl | simp) | exact Qx (by first | rfl | simp) (by simp) ids_data | exact Qv (by simp [QX, QY]) | exact Qu (by simp) (by simp [QX, QY]))⟩, fun h => by simp at h, fun _ => ⟨_, rfl, (by first | exact Qw (by first | rfl | simp) | exact Qx (by first | rfl | simp) (by simp) ids_data | exact Qv (by simp [QX, QY]) | exact Qu (by simp) (by simp [QX, QY]))⟩, fun h => by simp at h, fun _ => ⟨_, rfl, Qw (by rw [hq]; simp)⟩, fun h => by simp at h, fun _ => ⟨_, rfl, Qw (by rw [hc]; simp)⟩, fun h => by simp at h, trivial⟩
        ·simp [wfV, QY, QX, lookR, grow]
        ·exact ⟨by simp [QX, QY, lookR], by simp [QX, QY, lookR], by simp [QX, QY, lookR], wf_data _ _, wf_data _ _, wf_data _ _, wf_data _ _, trivial⟩
       ·intro hb
        have hs : kSame ((w : Int) + 1) ((n : Int) + 1) x = false := hb
        clear hb
        have hq := qcL_no (f := PosV.qty) hs ps pre
        have hc := qcL_no (f := PosV.cost) hs ps pre
        refine JI ?_
        simp only [zz6, QO, ↓Qb]
        refine hK7 _ ?_; try clear hK7 K7
        refine kpA [1, 2, 4, 12, 13, 14, 16, 17, 18] ?_
        refine Qz F_mixed [some 123, some 124, some 18] rfl ?_
        simp only [zzK, QR, QP, QQ, JC, zz21, JM, zz26, JB, hwx, zz6, QO, ↓Qb]
        refine ⟨post2.length, _, by simp, le_SK id [] rfl (l' := [(1, .d (poss g)), (2, .ptr 2 0 0), (4, .ptr 4 0 0), (12, .ptr 12 0 0), (13, .d (iv ((w : Nat) + 1 : Int))), (14, .d (iv ((n : Nat) + 1 : Int))), (16, .ref 16 (qcL PosV.qty ((w : Int) + 1) ((n : Int) + 1) ps (pre ++ [x])).length), (17, .ref 17 (qcL PosV.cost ((w : Int) + 1) ((n : Int) + 1) ps (pre ++ [x])).length), (18, .d (iv (pre ++ [x]).length))]) (m' := [(2, (⟨True, 58, 3, true, false, 2, [[.d (iv nx), .d (.sl 7 (ts.map tradeC)), .d (.sl 4 (ps.map posC))]]⟩ : ARow)), (4, (⟨True, 58, 3, true, false, 4, [[.d (.v (.int .i64 0)), .d (.v (.slice none 0 0)), .d (.v (.slice none 0 0))]]⟩ : ARow)), (12, (⟨True, 58, 3, true, false, 12, [[.d (iv nx), .ref 99000 ts.length, .ref 500 (jOut (ps ++ g) (kW w ++ kN ((w : Int) + 1) n)).length]]⟩ : ARow)), (99000, (⟨True, 86, 7, true, true, 99000, (ts.map tradeC).map (·.map .d)⟩ : ARow)), (500, grow 46 4 500 ((jOut (ps ++ g) (kW w ++ kN ((w : Int) + 1) n)).map posC)), (16, grow 3 1 16 ((qcL PosV.qty ((w : Int) + 1) ((n : Int) + 1) ps (pre ++ [x])).map fun n => [iv n])), (17, grow 3 1 17 ((qcL PosV.cost ((w : Int) + 1) ((n : Int) + 1) ps (pre ++ [x])).map fun n => [iv n]))]) ?_ ?_ ?_ ?_, (pre ++ [x]), post2, by simp [hsp], rfl, rfl⟩
        ·simp only [leV, JD, QQ, Qd, Qc, hwx, hq, hc]; exact ⟨(by first | exact Qo rfl | exact Qq (by decide) | exact Qp | exact Qn _ | exact Qs (by simp) (by rfl) | exact Qr (by simp) (by rfl) (by first | rfl | (simp; done) | (simp; omega)) | exact Qt (by first | rfl | simp)), (by first | exact Qo rfl | exact Qq (by decide) | exact Qp | exact Qn _ | exact Qs (by simp) (by rfl) | exact Qr (by simp) (by rfl) (by first | rfl | (simp; done) | (simp; omega)) | exact Qt (by first | rfl | simp)), (by first | exact Qo rfl | exact Qq (by decide) | exact Qp | exact Qn _ | exact Qs (by simp) (by rfl) | exact Qr (by simp) (by rfl) (by first | rfl | (simp; done) | (simp; omega)) | exact Qt (by first | rfl | simp)), (by first | exact Qo rfl | exact Qq (by decide) | exact Qp | exact Qn _ | exact Qs (by simp) (by rfl) | exact Qr (by simp) (by rfl) (by first | rfl | (simp; done) | (simp; omega)) | exact Qt (by first | rfl | simp)), (by first | exact Qo rfl | exact Qq (by decide) | exact Qp | exact Qn _ | exact Qs (by simp) (by rfl) | exact Qr (by simp) (by rfl) (by first | rfl | (simp; done) | (simp; omega)) | exact Qt (by first | rfl | simp)), (by first | exact Qo rfl | exact Qq (by decide) | exact Qp | exact Qn _ | exact Qs (by simp) (by rfl) | exact Qr (by simp) (by rfl) (by first | rfl | (simp; done) | (simp; omega)) | exact Qt (by first | rfl | simp)), (by first | exact Qo rfl | exact Qq (by decide) | exact Qp | exact Qn _ | exact Qs (by simp) (by rfl) | exact Qr (by simp) (by rfl) (by first | rfl | (simp; done) | (simp; omega)) | exact Qt (by first | rfl | simp)), (by first | exact Qo rfl | exact Qq (by decide) | exact Qp | exact Qn _ | exact Qs (by simp) (by rfl) | exact Qr (by simp) (by rfl) (by first | rfl | (simp; done) | (simp; omega)) | exact Qt (by first | rfl | simp)), (by first | exact Qo rfl | exact Qq (by decide) | exact Qp | exact Qn _ | exact Qs (by simp) (by rfl) | exact Qr (by simp) (by rfl) (by first | rfl | (simp; done) | (simp; omega)) | exact Qt (by first | rfl | simp)), trivial⟩
        ·exact ⟨fun _ => ⟨_, rfl, (by first | exact Qw (by first | rfl | simp) | exact Qx (by first | rfl | simp) (by simp) ids_data | exact Qv (by simp [QX, QY]) | exact Qu (by simp) (by simp [QX, QY]))⟩, fun h => by simp at h, fun _ => ⟨_, rfl, (by first | exact Qw (by first | rfl | simp) | exact Qx (by first | rfl | simp) (by simp) ids_data | exact Qv (by simp [QX, QY]) | exact Qu (by simp) (by simp [QX, QY]))⟩, fun h => by simp at h, fun _ => ⟨_, rfl, RowLe.cells (VLess.one_ (VLes.cons_ (Qt rfl) (VLes.cons_ (Qr (by simp) rfl (rfl)) (VLes.cons_ (Qr (by simp) rfl (rfl)) (VLes.nil_)))))⟩, fun h => by simp at h, fun _ => ⟨_, rfl, (by first | exact Qw (by first | rfl | simp) | exact Qx (by first | rfl | simp) (by simp) ids_data | exact Qv (by simp [QX, QY]) | exact Qu (by simp) (by simp [QX, QY]))⟩, fun h => by simp at h, fun _ => ⟨_, rfl, (by first | exact Qw (by first | rfl | simp) | exact Qx (by first | rfl | simp) (by simp) ids_data | exact Qv (by simp [QX, QY]) | exact Qu (by simp) (by simp [QX, QY]))⟩, fun h => by simp at h, fun _ => ⟨_, rfl, Qw (by rw [hq])⟩, fun h => by simp at h, fun _ => ⟨_, rfl, Qw (by rw [hc])⟩, fun h => by simp at h, trivial⟩
        ·simp [wfV, QY, QX, lookR, grow]
        ·exact ⟨by simp [QX, QY, lookR], by simp [QX, QY, lookR], by simp [QX, QY, lookR], wf_data _ _, wf_data _ _, wf_data _ _, wf_data _ _, trivial⟩
      ·intro hb
       obtain rfl : post = [] := by
        cases post with
        | nil => rfl
        | cons x t => have := Qf hb; simp at hspl; omega
       clear hb
       simp only [QG] at hsp
       subst hsp
       refine JK ?_
       simp only [zz6, QO, ↓Qb]
       refine hK5 _ ?_; try clear hK5 K5
       refine kpA [1, 2, 4, 12, 13, 14, 16, 17] ?_
       refine JA fun K5 hK5 => ?_
       refine Qz F_mixed [some 160, some 161, some 159, some 162, some 163, some 19, some 20] rfl ?_
       simp only [zzK, QR, QP, QQ, JC, JE, JF, zz14, zzD, QS, QN, zzF, JB, ints, grow, D.sl.injEq, JN, hqs, zz6, QO, ↓Qb]
       refine JT F_go45 (fun hG => Add_ (qcL PosV.qty ((w : Int) + 1) ((n : Int) + 1) ps g) (by omega) hqb) (by simp [QY, QX]) (by simp) ?_
       simp only [zzK, QR, QP, QQ, JC, JE, JF, zz14, zzD, QS, QN, zzF, JB, ints, grow, JN, hqs, zz6, QO, ↓Qb, atsL, oksG, JV, QZ, Qa, JO, Qm, QT, QS, zz9, QB, QA, zzC, yyF, QF, zz2]
       first | refine ⟨by simp, ?_⟩ | skip
       refine hK5 _ ?_; try clear hK5 K5
       refine kpA [1, 2, 4, 12, 13, 14, 17, 19, 20] ?_
       refine JA fun K5 hK5 => ?_
       refine Qz F_mixed [some 165, some 166, some 164, some 167, some 168, some 21, some 22] rfl ?_
       simp only [zzK, QR, QP, QQ, JC, JE, JF, zz14, zzD, QS, QN, zzF, JB, ints, grow, D.sl.injEq, JN, hcs, zz6, QO, ↓Qb]
       refine JT F_go45 (fun hG => Add_ (qcL PosV.cost ((w : Int) + 1) ((n : Int) + 1) ps g) (by omega) hcb) (by simp [QY, QX]) (by simp) ?_
       simp only [zzK, QR, QP, QQ, JC, JE, JF, zz14, zzD, QS, QN, zzF, JB, ints, grow, JN, hcs, zz6, QO, ↓Qb, atsL, oksG, JV, QZ, Qa, JO, Qm, QT, QS, zz9, QB, QA, zzC, yyF, QF, zz2]
       first | refine ⟨by simp, ?_⟩ | skip
       refine hK5 _ ?_; try clear hK5 K5
       refine kpA [1, 2, 4, 12, 13, 14, 19, 20, 21, 22] ?_
       refine JA fun K5 hK5 => ?_
       refine JA fun K6 hK6 => ?_
       refine Qz F_mixed [some 169, some 170, some 171, some 172, some 173, some 174, some 175, some 176, some 177, some 178, some 179] rfl ?_
       simp only [zzK, QR, QP, QQ, QU, JZ, zz5, Qj, Qi, Qh, and_self, JC, zz29, JM, zz30, zz13, JQ, JR, JE, JF, zz6, QO, ↓Qb]
       refine JT F_go47 (fun hG => rIn_ (bif rightN (sF PosV.qty ((w : Int) + 1) ((n : Int) + 1) (ps ++ g)) then sF PosV.qty ((w : Int) + 1) ((n : Int) + 1) (ps ++ g) else 0) (-1099511627776) 1099511627776) (by simp [QY, QX]) (by simp) ?_
       simp only [zzK, QR, QP, QQ, QU, JZ, zz5, Qj, Qi, Qh, and_self, JC, zz29, JM, zz30, zz13, JQ, JR, JE, JF, zz6, QO, ↓Qb, atsL, oksG, JV, QZ, Qa, JO, Qm, QT, QS, zz9, QB, QA, zzC, yyF, zzD, zz2]
       refine hK6 _ ?_; try clear hK6 K6
       refine kpA [1, 2, 4, 12, 13, 14, 19, 21, 179] ?_
       refine cnA ?_ ?_
       ·intro hb
        have hjb : jBad (ps ++ g) ((w : Int) + 1, (n : Int) + 1) = true := by rw [← radd_bad hA]; exact hb
        clear hb
        have hal : allK.any (jBad (ps ++ g)) = true := List.any_eq_true.2 ⟨((w : Int) + 1, (n : Int) + 1), allK_mem.2 (keyOk_iff.2 (by simp only; omega)), hjb⟩
        refine JA fun K7 hK7 => ?_
        refine Qz F_mixed [some 180, none, some 5] rfl ?_
        simp only [zzK, QR, QP, QQ, F_zero58, F_bld58, zz7, splice, Option.getD_some, QG, zz1, zzG, zzD, zzC, QA, yyE, Qe, QS, QN, zzH, zz10, zz18, F_ok58, F_sz58, JB, zz6, QO, ↓Qb]
        refine hK7 _ ?_; try clear hK7 K7
        refine kpA [4, 5] ?_
        have e : addE ⟨nx, ts, ps⟩ g = 1 := by rw [addE_def, ho, hany, hlv2, hal]; try rfl
        have ev : addV ⟨nx, ts, ps⟩ g = ⟨0, [], []⟩ := add_no (by rw [e]; decide)
        refine awp_le (le_SK id [0, 1] rfl (l' := [(4, .ptr 4 0 0), (5, .d (iv 1))]) (m' := [(4, (⟨True, 58, 3, true, false, 4, [[.d (.v (.int .i64 0)), .ref 0 0, .ref 1 0]]⟩ : ARow)), (0, (⟨True, 86, 7, true, true, 0, []⟩ : ARow)), (1, (⟨True, 46, 4, true, true, 1, []⟩ : ARow))]) ?_ ?_ ?_ ?_) ?_
        ·simp only [leV, JD, QQ, Qd, Qc]; exact ⟨VLe.ptr_ (f := id) (by decide), Qo rfl, trivial⟩
        ·exact ⟨fun _ => ⟨_, rfl, RowLe.cells (VLess.one_ (VLes.cons_ (Qo rfl) (VLes.cons_ (Qq (by decide)) (VLes.cons_ (Qq (by decide)) VLes.nil_))))⟩, fun h => by simp at h, fun h => by simp at h, fun _ => rfl, fun h => by simp at h, fun _ => rfl, trivial⟩
        ·simp [wfV, QY, lookR]
        ·simp [wfR, QX, QY, lookR]
        refine JJ ?_
        simp only [zz6, QO, ↓Qb]
        rw [ev, e]
        refine doneN [0, 1] (by simp [resCs, resC, S, List.getD, JD, lookR, F_ag58, F_sz58, F_ok58]) ?_ (by simp [Ja, Jb, Jc, ]) (by simp [QY, QX, ]) (by decide) ?_
        ·simp only [QD, QE, resA, JZ, S_mem, lookR_cons, lookR_nil, QR, QP, JD, QQ, Qd, Qc, JP, QI, QJ, QH, QL, QK, List.take_zero, F_ag58, F_sz58, F_ok58]; rfl
        ·exact ⟨⟨_, rfl, trivial, rfl, rfl, rfl, rfl⟩, by simp [flatDs, Jc, tradeC], ⟨_, rfl, trivial, rfl, rfl, rfl, rfl⟩, by simp [flatDs, Jc, posC], trivial⟩
       ·intro hb
        have hjb : jBad (ps ++ g) ((w : Int) + 1, (n : Int) + 1) = false := by rw [← radd_bad hA]; exact hb
        clear hb
        obtain ⟨hv1, hv2⟩ := radd_val hA hjb
        simp only [hv1, hv2]
        have hbn2 : (kW w ++ kN ((w : Int) + 1) (n + 1)).any (jBad (ps ++ g)) = false := by rw [kN_succ, ← List.append_assoc, List.any_append, hbn]; simp [hjb]
        refine JI ?_
        simp only [zz6, QO, ↓Qb]
        refine hK5 _ ?_; try clear hK5 K5
        refine kpA [1, 2, 4, 12, 13, 14, 19, 21] ?_
        refine JA fun K5 hK5 => ?_
        refine Qz F_mixed [some 181, some 182, some 183, some 184, some 185, some 186] rfl ?_
        simp only [zzK, QR, QP, QQ, QU, JZ, zz5, Qj, Qi, Qh, and_self, JC, zz21, JM, zz28, zz13, JQ, JR, zz6, QO, ↓Qb]
        refine hK5 _ ?_; try clear hK5 K5
        refine kpA [1, 2, 4, 12, 13, 14, 19, 21, 186] ?_
        refine cnA ?_ ?_
        ·intro hb
         have hjo : jOut (ps ++ g) (kW w ++ kN ((w : Int) + 1) (n + 1)) = jOut (ps ++ g) (kW w ++ kN ((w : Int) + 1) n) ++ [⟨(w : Int) + 1, (n : Int) + 1, tsQ (kF ((w : Int) + 1) ((n : Int) + 1) (ps ++ g)), tsC (kF ((w : Int) + 1) ((n : Int) + 1) (ps ++ g))⟩] := by
          rw [kN_succ, ← List.append_assoc, jOut_app]
          congr 1
          simp only [jOut, List.flatMap_cons, List.flatMap_nil, QG, jOne]
          rw [hb]; rfl
         clear hb
         refine Qz F_mixed [some 187, some 188, some 189, some 190, some 191, some 192, some 193, some 194, some 195, some 196, some 197, none] rfl ?_
         simp only [zzK, QR, QP, QQ, zz19, zz23, F_off58_2, zzH, QN, QS, F_ok42, F_ag42, F_sz42, zz8, zzD, zzC, QA, yyE, Qe, JC, F_zero29, F_bld29, zz7, splice, Option.getD_some, QG, zz1, zzG, zz10, F_fld29_0, F_fld29_1, F_zero46, F_bld46, F_fld46_0, F_fld46_1, F_fld46_2, F_sl42, F_sz46, zz3, JS, maxLen_le, QT, JE, F_by46, zz4, zz9, QB, zz18, posC, grow, unDs_map, QW, zz6, QO, ↓Qb]
         have hm : (jOut (ps ++ g) (kW w ++ kN ((w : Int) + 1) n)).length + 1 ≤ 1000000 := by first | omega | (simp; omega)
         first | refine ⟨le_maxLen hm, by omega, ?_⟩ | refine ⟨by simp, le_maxLen hm, by omega, ?_⟩
         clear hm
         refine hK4 _ ?_; try clear hK4 K4
         refine kpA [1, 2, 4, 12, 13, 14] ?_
         refine Qz F_mixed [some 106, some 107, some 14] rfl ?_
         simp only [zzK, QR, QP, QQ, JC, zz21, JM, zz26, JB, hwn, zz6, QO, ↓Qb]
         refine ⟨8 - (n + 1), _, by omega, le_SK (fun r => bif r == 500 then 196 else r) [] rfl (l' := [(1, .d (poss g)), (2, .ptr 2 0 0), (4, .ptr 4 0 0), (12, .ptr 12 0 0), (13, .d (iv ((w : Nat) + 1 : Int))), (14, .d (iv (((n + 1) : Nat) + 1 : Int)))]) (m' := [(2, (⟨True, 58, 3, true, false, 2, [[.d (iv nx), .d (.sl 7 (ts.map tradeC)), .d (.sl 4 (ps.map posC))]]⟩ : ARow)), (4, (⟨True, 58, 3, true, false, 4, [[.d (.v (.int .i64 0)), .d (.v (.slice none 0 0)), .d (.v (.slice none 0 0))]]⟩ : ARow)), (12, (⟨True, 58, 3, true, false, 12, [[.d (iv nx), .ref 99000 ts.length, .ref 500 (jOut (ps ++ g) (kW w ++ kN ((w : Int) + 1) (n + 1))).length]]⟩ : ARow)), (99000, (⟨True, 86, 7, true, true, 99000, (ts.map tradeC).map (·.map .d)⟩ : ARow)), (500, grow 46 4 500 ((jOut (ps ++ g) (kW w ++ kN ((w : Int) + 1) (n + 1))).map posC))]) ?_ ?_ ?_ ?_, (n + 1), by omega, hbn2, rfl, rfl⟩
         ·simp only [leV, JD, QQ, Qd, Qc, hwn]; exact ⟨(by first | exact Qo rfl | exact Qq (by decide) | exact Qp | exact Qn _ | exact Qs (by simp) (by rfl) | exact Qr (by simp) (by rfl) (by first | rfl | (simp; done) | (simp; omega)) | exact Qt (by first | rfl | simp)), (by first | exact Qo rfl | exact Qq (by decide) | exact Qp | exact Qn _ | exact Qs (by simp) (by rfl) | exact Qr (by simp) (by rfl) (by first | rfl | (simp; done) | (simp; omega)) | exact Qt (by first | rfl | simp)), (by first | exact Qo rfl | exact Qq (by decide) | exact Qp | exact Qn _ | exact Qs (by simp) (by rfl) | exact Qr (by simp) (by rfl) (by first | rfl | (simp; done) | (simp; omega)) | exact Qt (by first | rfl | simp)), (by first | exact Qo rfl | exact Qq (by decide) | exact Qp | exact Qn _ | exact Qs (by simp) (by rfl) | exact Qr (by simp) (by rfl) (by first | rfl | (simp; done) | (simp; omega)) | exact Qt (by first | rfl | simp)), (by first | exact Qo rfl | exact Qq (by decide) | exact Qp | exact Qn _ | exact Qs (by simp) (by rfl) | exact Qr (by simp) (by rfl) (by first | rfl | (simp; done) | (simp; omega)) | exact Qt (by first | rfl | simp)), (by first | exact Qo rfl | exact Qq (by decide) | exact Qp | exact Qn _ | exact Qs (by simp) (by rfl) | exact Qr (by simp) (by rfl) (by first | rfl | (simp; done) | (simp; omega)) | exact Qt (by first | rfl | simp)), trivial⟩
         ·exact ⟨fun _ => ⟨_, rfl, (by first | exact Qw (by first | rfl | simp) | exact Qx (by first | rfl | simp) (by simp) ids_data | exact Qv (by simp [QX, QY]) | exact Qu (by simp) (by simp [QX, QY]))⟩, fun h => by simp at h, fun _ => ⟨_, rfl, (by first | exact Qw (by first | rfl | simp) | exact Qx (by first | rfl | simp) (by simp) ids_data | exact Qv (by simp [QX, QY]) | exact Qu (by simp) (by simp [QX, QY]))⟩, fun h => by simp at h, fun _ => ⟨_, rfl, RowLe.cells (VLess.one_ (VLes.cons_ (Qt rfl) (VLes.cons_ (Qr (by simp) rfl (by simp)) (VLes.cons_ (Qr (by simp) rfl (by rw [hjo]; simp)) (VLes.nil_)))))⟩, fun h => by simp at h, fun _ => ⟨_, rfl, (by first | exact Qw (by first | rfl | simp) | exact Qx (by first | rfl | simp) (by simp) ids_data | exact Qv (by simp [QX, QY]) | exact Qu (by simp) (by simp [QX, QY]))⟩, fun h => by simp at h, fun _ => ⟨_, rfl, Qw (by rw [hjo]; simp [posC])⟩, fun h => by simp at h, trivial⟩
         ·simp [wfV, QY, QX, lookR, grow]
         ·exact ⟨by simp [QX, QY, lookR], by simp [QX, QY, lookR], by simp [QX, QY, lookR], wf_data _ _, wf_data _ _, trivial⟩
        ·intro hb
         have hjo : jOut (ps ++ g) (kW w ++ kN ((w : Int) + 1) (n + 1)) = jOut (ps ++ g) (kW w ++ kN ((w : Int) + 1) n) := by
          rw [kN_succ, ← List.append_assoc, jOut_app]
          simp only [jOut, List.flatMap_cons, List.flatMap_nil, QG, jOne]
          rw [hb]; simp
         clear hb
         refine JI ?_
         simp only [zz6, QO, ↓Qb]
         refine hK4 _ ?_; try clear hK4 K4
         refine kpA [1, 2, 4, 12, 13, 14] ?_
         refine Qz F_mixed [some 106, some 107, some 14] rfl ?_
         simp only [zzK, QR, QP, QQ, JC, zz21, JM, zz26, JB, hwn, zz6, QO, ↓Qb]
         refine ⟨8 - (n + 1), _, by omega, le_SK id [] rfl (l' := [(1, .d (poss g)), (2, .ptr 2 0 0), (4, .ptr 4 0 0), (12, .ptr 12 0 0), (13, .d (iv ((w : Nat) + 1 : Int))), (14, .d (iv (((n + 1) : Nat) + 1 : Int)))]) (m' := [(2, (⟨True, 58, 3, true, false, 2, [[.d (iv nx), .d (.sl 7 (ts.map tradeC)), .d (.sl 4 (ps.map posC))]]⟩ : ARow)), (4, (⟨True, 58, 3, true, false, 4, [[.d (.v (.int .i64 0)), .d (.v (.slice none 0 0)), .d (.v (.slice none 0 0))]]⟩ : ARow)), (12, (⟨True, 58, 3, true, false, 12, [[.d (iv nx), .ref 99000 ts.length, .ref 500 (jOut (ps ++ g) (kW w ++ kN ((w : Int) + 1) (n + 1))).length]]⟩ : ARow)), (99000, (⟨True, 86, 7, true, true, 99000, (ts.map tradeC).map (·.map .d)⟩ : ARow)), (500, grow 46 4 500 ((jOut (ps ++ g) (kW w ++ kN ((w : Int) + 1) (n + 1))).map posC))]) ?_ ?_ ?_ ?_, (n + 1), by omega, hbn2, rfl, rfl⟩
         ·simp only [leV, JD, QQ, Qd, Qc, hwn]; exact ⟨(by first | exact Qo rfl | exact Qq (by decide) | exact Qp | exact Qn _ | exact Qs (by simp) (by rfl) | exact Qr (by simp) (by rfl) (by first | rfl | (simp; done) | (simp; omega)) | exact Qt (by first | rfl | simp)), (by first | exact Qo rfl | exact Qq (by decide) | exact Qp | exact Qn _ | exact Qs (by simp) (by rfl) | exact Qr (by simp) (by rfl) (by first | rfl | (simp; done) | (simp; omega)) | exact Qt (by first | rfl | simp)), (by first | exact Qo rfl | exact Qq (by decide) | exact Qp | exact Qn _ | exact Qs (by simp) (by rfl) | exact Qr (by simp) (by rfl) (by first | rfl | (simp; done) | (simp; omega)) | exact Qt (by first | rfl | simp)), (by first | exact Qo rfl | exact Qq (by decide) | exact Qp | exact Qn _ | exact Qs (by simp) (by rfl) | exact Qr (by simp) (by rfl) (by first | rfl | (simp; done) | (simp; omega)) | exact Qt (by first | rfl | simp)), (by first | exact Qo rfl | exact Qq (by decide) | exact Qp | exact Qn _ | exact Qs (by simp) (by rfl) | exact Qr (by simp) (by rfl) (by first | rfl | (simp; done) | (simp; omega)) | exact Qt (by first | rfl | simp)), (by first | exact Qo rfl | exact Qq (by decide) | exact Qp | exact Qn _ | exact Qs (by simp) (by rfl) | exact Qr (by simp) (by rfl) (by first | rfl | (simp; done) | (simp; omega)) | exact Qt (by first | rfl | simp)), trivial⟩
         ·exact ⟨fun _ => ⟨_, rfl, (by first | exact Qw (by first | rfl | simp) | exact Qx (by first | rfl | simp) (by simp) ids_data | exact Qv (by simp [QX, QY]) | exact Qu (by simp) (by simp [QX, QY]))⟩, fun h => by simp at h, fun _ => ⟨_, rfl, (by first | exact Qw (by first | rfl | simp) | exact Qx (by first | rfl | simp) (by simp) ids_data | exact Qv (by simp [QX, QY]) | exact Qu (by simp) (by simp [QX, QY]))⟩, fun h => by simp at h, fun _ => ⟨_, rfl, RowLe.cells (VLess.one_ (VLes.cons_ (Qt rfl) (VLes.cons_ (Qr (by simp) rfl (by simp)) (VLes.cons_ (Qr (by simp) rfl (by rw [hjo])) (VLes.nil_)))))⟩, fun h => by simp at h, fun _ => ⟨_, rfl, (by first | exact Qw (by first | rfl | simp) | exact Qx (by first | rfl | simp) (by simp) ids_data | exact Qv (by simp [QX, QY]) | exact Qu (by simp) (by simp [QX, QY]))⟩, fun h => by simp at h, fun _ => ⟨_, rfl, Qw (by rw [hjo])⟩, fun h => by simp at h, trivial⟩
         ·simp [wfV, QY, QX, lookR, grow]
         ·exact ⟨by simp [QX, QY, lookR], by simp [QX, QY, lookR], by simp [QX, QY, lookR], wf_data _ _, wf_data _ _, trivial⟩
     ·intro hb
      obtain rfl : n = 8 := by have := Qf hb; omega
      clear hb
      refine JK ?_
      simp only [zz6, QO, ↓Qb]
      refine hK2 _ ?_; try clear hK2 K2
      refine kpA [1, 2, 4, 12, 13] ?_
      refine Qz F_mixed [some 102, some 103, some 13] rfl ?_
      simp only [zzK, QR, QP, QQ, JC, zz21, JM, zz26, JB, hww, zz6, QO, ↓Qb]
      refine ⟨16 - (w + 1), _, by omega, le_SK id [] rfl (l' := [(1, .d (poss g)), (2, .ptr 2 0 0), (4, .ptr 4 0 0), (12, .ptr 12 0 0), (13, .d (iv (((w + 1) : Nat) + 1 : Int)))]) (m' := [(2, (⟨True, 58, 3, true, false, 2, [[.d (iv nx), .d (.sl 7 (ts.map tradeC)), .d (.sl 4 (ps.map posC))]]⟩ : ARow)), (4, (⟨True, 58, 3, true, false, 4, [[.d (.v (.int .i64 0)), .d (.v (.slice none 0 0)), .d (.v (.slice none 0 0))]]⟩ : ARow)), (12, (⟨True, 58, 3, true, false, 12, [[.d (iv nx), .ref 99000 ts.length, .ref 500 (jOut (ps ++ g) (kW (w + 1))).length]]⟩ : ARow)), (99000, (⟨True, 86, 7, true, true, 99000, (ts.map tradeC).map (·.map .d)⟩ : ARow)), (500, grow 46 4 500 ((jOut (ps ++ g) (kW (w + 1))).map posC))]) ?_ ?_ ?_ ?_, (w + 1), by omega, by rw [kW_succ]; exact hbn, rfl, rfl⟩
      ·simp only [leV, JD, QQ, Qd, Qc, hww]; exact ⟨(by first | exact Qo rfl | exact Qq (by decide) | exact Qp | exact Qn _ | exact Qs (by simp) (by rfl) | exact Qr (by simp) (by rfl) (by first | rfl | (simp; done) | (simp; omega)) | exact Qt (by first | rfl | simp)), (by first | exact Qo rfl | exact Qq (by decide) | exact Qp | exact Qn _ | exact Qs (by simp) (by rfl) | exact Qr (by simp) (by rfl) (by first | rfl | (simp; done) | (simp; omega)) | exact Qt (by first | rfl | simp)), (by first | exact Qo rfl | exact Qq (by decide) | exact Qp | exact Qn _ | exact Qs (by simp) (by rfl) | exact Qr (by simp) (by rfl) (by first | rfl | (simp; done) | (simp; omega)) | exact Qt (by first | rfl | simp)), (by first | exact Qo rfl | exact Qq (by decide) | exact Qp | exact Qn _ | exact Qs (by simp) (by rfl) | exact Qr (by simp) (by rfl) (by first | rfl | (simp; done) | (simp; omega)) | exact Qt (by first | rfl | simp)), (by first | exact Qo rfl | exact Qq (by decide) | exact Qp | exact Qn _ | exact Qs (by simp) (by rfl) | exact Qr (by simp) (by rfl) (by first | rfl | (simp; done) | (simp; omega)) | exact Qt (by first | rfl | simp)), trivial⟩
      ·exact ⟨fun _ => ⟨_, rfl, (by first | exact Qw (by first | rfl | simp) | exact Qx (by first | rfl | simp) (by simp) ids_data | exact Qv (by simp [QX, QY]) | exact Qu (by simp) (by simp [QX, QY]))⟩, fun h => by simp at h, fun _ => ⟨_, rfl, (by first | exact Qw (by first | rfl | simp) | exact Qx (by first | rfl | simp) (by simp) ids_data | exact Qv (by simp [QX, QY]) | exact Qu (by simp) (by simp [QX, QY]))⟩, fun h => by simp at h, fun _ => ⟨_, rfl, RowLe.cells (VLess.one_ (VLes.cons_ (Qt rfl) (VLes.cons_ (Qr (by simp) rfl (by simp)) (VLes.cons_ (Qr (by simp) rfl (by rw [kW_succ])) (VLes.nil_)))))⟩, fun h => by simp at h, fun _ => ⟨_, rfl, (by first | exact Qw (by first | rfl | simp) | exact Qx (by first | rfl | simp) (by simp) ids_data | exact Qv (by simp [QX, QY]) | exact Qu (by simp) (by simp [QX, QY]))⟩, fun h => by simp at h, fun _ => ⟨_, rfl, Qw (by rw [kW_succ])⟩, fun h => by simp at h, trivial⟩
      ·simp [wfV, QY, QX, lookR, grow]
      ·exact ⟨by simp [QX, QY, lookR], by simp [QX, QY, lookR], by simp [QX, QY, lookR], wf_data _ _, wf_data _ _, trivial⟩
    ·intro hb
     obtain rfl : w = 16 := by have := Qf hb; omega
     clear hb
     refine JK ?_
     simp only [zz6, QO, ↓Qb]
     refine hK0 _ ?_; try clear hK0 K0
     refine kpA [4, 12] ?_
     refine JA fun K0 hK0 => ?_
     refine Qz F_mixed [some 198, none, some 5] rfl ?_
     simp only [zzK, QR, QP, QQ, F_ok58, F_ag58, F_sz58, zz8, zz23, zzD, QS, QN, zzH, zzC, QA, yyE, Qe, zz18, splice, QG, zz1, zzG, JB, zz6, QO, ↓Qb]
     refine hK0 _ ?_; try clear hK0 K0
     refine kpA [4, 5] ?_
     have e : addE ⟨nx, ts, ps⟩ g = 0 := by rw [addE_def, ho, hany, hlv2, show allK.any (jBad (ps ++ g)) = false from hbw]; rfl
     have ev : addV ⟨nx, ts, ps⟩ g = ⟨nx, ts, jOut (ps ++ g) (kW 16)⟩ := add_val e
     refine awp_le (le_SK id [] rfl (l' := [(4, .ptr 4 0 0), (5, .d (iv 0))]) (m' := [(4, (⟨True, 58, 3, true, false, 4, [[.d (iv nx), .ref 99000 ts.length, .ref 500 (jOut (ps ++ g) (kW 16)).length]]⟩ : ARow)), (99000, (⟨True, 86, 7, true, true, 99000, (ts.map tradeC).map (·.map .d)⟩ : ARow)), (500, (⟨True, 46, 4, true, true, 500, ((jOut (ps ++ g) (kW 16)).map posC).map (·.map .d)⟩ : ARow))]) ?_ ?_ ?_ ?_) ?_
     ·simp only [leV, JD, QQ, Qd, Qc, JN]; exact ⟨Qn _, Qn _, trivial⟩
     ·exact ⟨fun _ => ⟨_, rfl, ⟨id, rfl, rfl, fun _ => rfl, id, .inl, by first | exact VLess.refl _ | (simp only [JN]; exact VLess.refl _)⟩⟩, fun h => by simp at h, fun _ => ⟨_, rfl, Qx rfl (by simp) ids_data⟩, fun h => by simp at h, fun _ => (by refine ⟨_, rfl, ?_⟩; exact RowLe.uq_ (by rfl) (by simp) ids_data), fun h => by simp at h, trivial⟩
     ·simp [wfV, QY, lookR]
     ·simp [wfR, QX, QY, lookR, tradeC, posC]
     refine JJ ?_
     simp only [zz6, QO, ↓Qb]
     rw [ev, e]
     refine doneN [99000, 500] (by simp [resCs, resC, S, List.getD, JD, lookR, F_ag58, F_sz58, F_ok58]) ?_ (by simp [Ja, Jb, Jc, ]) (by simp [QY, QX, ]) (by decide) ?_
     ·simp only [QD, QE, resA, JZ, S_mem, lookR_cons, lookR_nil, QR, QP, JD, QQ, Qd, Qc, JP, QI, QJ, QH, QL, QK, List.take_zero, F_ag58, F_sz58, F_ok58]; rfl
     ·exact ⟨⟨_, rfl, trivial, rfl, rfl, rfl, rfl⟩, by simp [flatDs, Jc, tradeC], ⟨_, rfl, trivial, rfl, rfl, rfl, rfl⟩, by simp [flatDs, Jc, posC], trivial⟩
theorem rAddF (nx : Int) (ts : List TradeV) (ps g : List PosV) (ht : ts.length ≤ 200000) (hp : ps.length ≤ 200000) (hg : g.length ≤ 200000) : ACalls Try.prog 25 [.agg (bookC ⟨nx, ts, ps⟩), poss g] [] (.tp [.d (.agg (bookC (addV ⟨nx, ts, ps⟩ g))), .d (iv (addE ⟨nx, ts, ps⟩ g))]) :=
 (rAdd_ nx ts ps g ht hp hg).freezeT (by simp [frzOk, frzOkL])
end Go.Proofs.Ytopifbpibkpmmaa
