import Derived.Test.YtopifbpibkpmmaaWpE
namespace Go.Proofs.Ytopifbpibkpmmaa
open Go.RowKit
set_option linter.unusedVariables false
set_option linter.unusedSimpArgs false
open Option renaming map_some → QA, bind_some → QB
open List renaming map_cons → QD, map_nil → QE, length_cons → QF, append_nil → QG, drop_zero → QH, getD_cons_zero → QI, getD_cons_succ → QJ, take_succ_cons → QK, drop_succ_cons → QL
open Nat renaming zero_add → QN, reduceEqDiff → QO, reduceLeDiff → QP, reduceBEq → QQ, reduceLT → QR, reduceAdd → QS, reduceMul → QT, reduceSub → QU
open D.agg renaming injEq → QW
open AV renaming idsL → QX, ids → QY, ren → QZ, renL → Qa
open _root_ renaming reduceIte → Qb, cond_false → Qc, cond_true → Qd, reduceCtorEq → Qe, imp_self → Qh, imp_and → Qi, and_imp → Qj
open IntKind renaming wrap → Ql
open ORow renaming row → Qm
open VLe renaming refl → Qn, still → Qo, nil_ → Qq
open RowLe renaming still → Qv, data_ → Qw
open Go.Proofs.Ytopifbpibkpmmaa renaming awp_plain → Qz, awp_seq → JA, evS_assign → JB, evS_move → JC, look_cons → JD, evS_call → JE, evC_value → JF, awp_block → JH, awp_skip → JI, awp_ret → JJ, gr_v → JM, len_map → JN, addRows → JO, resAll → JP, pickK_l → JQ, pickK_r → JR, newRow1 → JS, call_go → JT, S_getD → JZ, flatA → Ja, flatAs → Jb, flatD → Jc
theorem F_ag77 : aggT Try.prog 77 = true := by kernel_rfl
theorem F_sz77 : szT Try.prog 77 = 2 := by kernel_rfl
theorem F_ok77 : tyOk Try.prog 77 = true := by kernel_rfl
theorem F_zero77 : zeroT Try.prog 77 = some [(.int .i64 0), (.int .u64 0)] := by kernel_rfl
theorem F_bld77 : bldT Try.prog 77 = true := by kernel_rfl
theorem F_fld77_0 : fldT Try.prog 77 0 = some (0, 1) := by kernel_rfl
theorem F_fld77_1 : fldT Try.prog 77 1 = some (1, 1) := by kernel_rfl
theorem F_off77_1 : offT Try.prog 77 1 = some 1 := by kernel_rfl
theorem F_eqi77 (a0 b0 : Int) (a1 b1 : Int) (w : World) : (Op.equalIn 10000 77 (.agg #[.int .i64 a0, .int .u64 a1]) (.agg #[.int .i64 b0, .int .u64 b1])).run Try.prog w = .ok (veqL [.int .i64 a0, .int .u64 a1] [.int .i64 b0, .int .u64 b1]) w := by
 have u3 := Try.underlying3
 have g3 := Try.isAgg3
 have z3 := Try.sizeOf3
 have u75 := Try.underlying75
 have g75 := Try.isAgg75
 have z75 := Try.sizeOf75
 have hS : Try.prog.underlying 77 = some (.struct (Try.prog.fieldsOf 77)) := by kernel_rfl
 have hp : Try.prog.stoodInHeld 77 = false := by kernel_rfl
 rw [show (10000 : Nat) = 9999 + 1 from rfl, run_equalIn_agg w 9999 77 _ _ hS hp]
 simp only [Program.fieldsOf, Try.underlying77]
 go_simp
 by_cases h0 : a0 = b0 <;> by_cases h1 : a1 = b1 <;> simp [veqL, veq, h0, h1]
theorem F_neq77 (a0 b0 : Int) (a1 b1 : Int) (x y : Operand) : pureBin Try.prog .neq 77 x y (.agg #[.int .i64 a0, .int .u64 a1]) (.agg #[.int .i64 b0, .int .u64 b1]) = True := by
 have hm : Try.prog.eqGuardType Try.prog.depth 77 = false := by kernel_rfl
 simp only [pureBin, Pure, eq_iff_iff, iff_true]
 intro w
 simp only [Sem.run_bind, run_eqGuard_agg w .neq 77 x y _ _ hm, Result.andThen_ok, run_neq_struct, F_eqi77, binV]
theorem F_go50 : goFn Try.prog 50 := ⟨_, Try.func50, rfl, rfl⟩
theorem F_sl23 : sliceT Try.prog 23 = some 33 := by kernel_rfl
theorem F_sz33 : szT Try.prog 33 = 3 := by kernel_rfl
theorem F_ok33 : tyOk Try.prog 33 = true := by kernel_rfl
theorem F_ag33 : aggT Try.prog 33 = true := by kernel_rfl
theorem F_zero33 : zeroT Try.prog 33 = some [(.int .i64 0), (.int .i64 0), (.int .i64 0)] := by kernel_rfl
theorem F_off33_1 : offT Try.prog 33 1 = some 1 := by kernel_rfl
theorem F_off33_2 : offT Try.prog 33 2 = some 2 := by kernel_rfl
theorem F_go33 : goFn Try.prog 33 := ⟨_, Try.func33, rfl, rfl⟩
theorem F_go32 : goFn Try.prog 32 := ⟨_, Try.func32, rfl, rfl⟩
theorem F_off33_0 : offT Try.prog 33 0 = some 0 := by kernel_rfl
theorem wOf_ (n : Int) (h0 : -9223372036854775808 ≤ n) (h1 : n < 9223372036854775808) : ACalls Try.prog 50 [iv n] [] (wideA n) := by
 refine acalls_S (rs := [.cell 2 77]) Try.func50 rfl rfl 8 [(0, .d (iv n))] rfl (by simp) rfl ?_
 refine JA fun K0 hK0 => ?_
 refine Qz F_mixed [some 2] rfl ?_
 simp only [zzK, QR, QP, QQ, zz32, JS, F_zero77, zzC, QA, yyE, Qe, zzD, QS, QN, zzH, zz10, zz6, QO, ↓Qb]
 refine hK0 _ ?_; try clear hK0 K0
 refine kpA [0, 2] ?_
 refine JA fun K0 hK0 => ?_
 refine Qz F_mixed [some 3, some 4, some 5, some 6, some 7, none] rfl ?_
 simp only [zzK, QR, QP, QQ, JC, zz21, JM, b_shr, pure_shr, Int.reduceLT, not_false_eq_true, zz27, F_cv3_75, F_cvV75, F_zero77, F_bld77, zz7, splice, Option.getD_some, QG, zz1, zzG, zzD, zzC, QA, yyE, Qe, QS, QN, zzH, zz10, F_fld77_0, F_fld77_1, zz18, F_ok77, F_sz77, zz6, QO, ↓Qb]
 refine hK0 _ ?_; try clear hK0 K0
 refine kpA [2] ?_
 refine JJ ?_
 simp only [zz6, QO, ↓Qb]
 refine done0 (by simp [resCs, resC, S, List.getD, JD, lookR, F_ag77, F_sz77, F_ok77]) ?_ (by simp [Ja, Jb, Jc, wideA]) (by simp [QY, QX, wideA])
 simp only [QD, QE, resA, JZ, S_mem, lookR_cons, lookR_nil, QR, QP, JD, QQ, Qd, Qc, JP, QI, QJ, QH, QL, QK, List.take_zero, F_ag77, F_sz77, F_ok77]
 rw [wideA_shr h0 h1]
theorem Times_ (a b : Int) (h0 : -9223372036854775808 ≤ a) (h1 : a < 9223372036854775808) (k0 : -9223372036854775808 ≤ b) (k1 : b < 9223372036854775808) : ACalls Try.prog 33 [iv a, iv b] [] (wideA (a * b)) := by
 refine acalls_S (rs := [.cell 4 77]) Try.func33 rfl rfl 31 [(0, .d (iv a)), (1, .d (iv b))] rfl (by simp) rfl ?_
 have he := times_eq h0 h1 k0 k1
 have h2 : wideA (a * b) = .ag [.d (iv (Ql .i64 (timesHi a b))), .d (.v (.int .u64 (Ql .u64 a * Ql .u64 b % 18446744073709551616)))] := by
  rw [he.1, he.2]; rfl
 unfold timesHi at h2
 refine JA fun K0 hK0 => ?_
 refine Qz F_mixed [some 4] rfl ?_
 simp only [zzK, QR, QP, QQ, zz32, JS, F_zero77, zzC, QA, yyE, Qe, zzD, QS, QN, zzH, zz10, zz6, QO, ↓Qb]
 refine hK0 _ ?_; try clear hK0 K0
 refine kpA [0, 1, 4] ?_
 refine JA fun K0 hK0 => ?_
 refine Qz F_mixed [some 8, some 9, some 10, some 11, some 12, some 7, some 13, some 14, some 5, some 6] rfl ?_
 simp only [zzK, QR, QP, QQ, JC, zz27, JM, F_cv3_75, F_cvV75, JE, JF, zz14, zzD, QS, QN, zzF, JB, zz6, QO, ↓Qb]
 refine JT F_go52 (fun hG => Mul64_ (Ql .u64 a) (Ql .u64 b) (wu_nn _) (wu_lt _) (wu_nn _) (wu_lt _)) (by simp [QY, QX]) (by simp) ?_
 simp only [zzK, QR, QP, QQ, JC, zz27, JM, F_cv3_75, F_cvV75, JE, JF, zz14, zzD, QS, QN, zzF, JB, zz6, QO, ↓Qb, atsL, oksG, freeN, QZ, Qa, JO, Qm, QT, QS, zz9, QB, QA, zzC, yyF, QF, zz2]
 refine hK0 _ ?_; try clear hK0 K0
 refine kpA [0, 1, 4, 5, 6] ?_
 refine JA fun K0 hK0 => ?_
 refine JA fun K1 hK1 => ?_
 refine Qz F_mixed [some 15, some 16] rfl ?_
 simp only [zzK, QR, QP, QQ, JC, zz21, JM, zz22, zz6, QO, ↓Qb]
 refine hK1 _ ?_; try clear hK1 K1
 refine kpA [0, 1, 4, 5, 6, 16] ?_
 refine cnA ?_ ?_
 ·intro hb
  simp only [decide_eq_true_eq] at hb
  simp only [hb, if_true] at h2
  refine Qz F_mixed [some 17, some 18, some 19, some 20, some 5] rfl ?_
  simp only [zzK, QR, QP, QQ, JC, zz27, JM, F_cv3_75, F_cvV75, zz21, zz33, JB, zz6, QO, ↓Qb]
  refine hK0 _ ?_; try clear hK0 K0
  refine kpA [0, 1, 4, 5, 6] ?_
  refine JA fun K0 hK0 => ?_
  refine JA fun K1 hK1 => ?_
  refine Qz F_mixed [some 21, some 22] rfl ?_
  simp only [zzK, QR, QP, QQ, JC, zz21, JM, zz22, zz6, QO, ↓Qb]
  refine hK1 _ ?_; try clear hK1 K1
  refine kpA [0, 4, 5, 6, 22] ?_
  refine cnA ?_ ?_
  ·intro hb
   simp only [decide_eq_true_eq] at hb
   simp only [hb, if_true] at h2
   refine Qz F_mixed [some 23, some 24, some 25, some 26, some 5] rfl ?_
   simp only [zzK, QR, QP, QQ, JC, zz27, JM, F_cv3_75, F_cvV75, zz21, zz33, JB, zz6, QO, ↓Qb]
   refine hK0 _ ?_; try clear hK0 K0
   refine kpA [4, 5, 6] ?_
   refine JA fun K0 hK0 => ?_
   refine Qz F_mixed [some 27, some 28, some 29, some 30, none] rfl ?_
   simp only [zzK, QR, QP, QQ, JC, zz27, JM, F_cv75_3, F_cvV3, F_zero77, F_bld77, zz7, splice, Option.getD_some, QG, zz1, zzG, zzD, zzC, QA, yyE, Qe, QS, QN, zzH, zz10, F_fld77_0, F_fld77_1, zz18, F_ok77, F_sz77, zz6, QO, ↓Qb]
   refine hK0 _ ?_; try clear hK0 K0
   refine kpA [4] ?_
   refine JJ ?_
   simp only [zz6, QO, ↓Qb]
   refine done0 (by simp [resCs, resC, S, List.getD, JD, lookR, F_ag77, F_sz77, F_ok77]) ?_ (by simp [Ja, Jb, Jc, wideA]) (by simp [QY, QX, wideA])
   simp only [QD, QE, resA, JZ, S_mem, lookR_cons, lookR_nil, QR, QP, JD, QQ, Qd, Qc, JP, QI, QJ, QH, QL, QK, List.take_zero, F_ag77, F_sz77, F_ok77]
   rw [h2]
  ·intro hb
   simp only [decide_eq_false_iff_not] at hb
   simp only [hb, if_false] at h2
   refine JI ?_
   simp only [zz6, QO, ↓Qb]
   refine hK0 _ ?_; try clear hK0 K0
   refine kpA [4, 5, 6] ?_
   refine JA fun K0 hK0 => ?_
   refine Qz F_mixed [some 27, some 28, some 29, some 30, none] rfl ?_
   simp only [zzK, QR, QP, QQ, JC, zz27, JM, F_cv75_3, F_cvV3, F_zero77, F_bld77, zz7, splice, Option.getD_some, QG, zz1, zzG, zzD, zzC, QA, yyE, Qe, QS, QN, zzH, zz10, F_fld77_0, F_fld77_1, zz18, F_ok77, F_sz77, zz6, QO, ↓Qb]
   refine hK0 _ ?_; try clear hK0 K0
   refine kpA [4] ?_
   refine JJ ?_
   simp only [zz6, QO, ↓Qb]
   refine done0 (by simp [resCs, resC, S, List.getD, JD, lookR, F_ag77, F_sz77, F_ok77]) ?_ (by simp [Ja, Jb, Jc, wideA]) (by simp [QY, QX, wideA])
   simp only [QD, QE, resA, JZ, S_mem, lookR_cons, lookR_nil, QR, QP, JD, QQ, Qd, Qc, JP, QI, QJ, QH, QL, QK, List.take_zero, F_ag77, F_sz77, F_ok77]
   rw [h2]
 ·intro hb
  simp only [decide_eq_false_iff_not] at hb
  simp only [hb, if_false] at h2
  refine JI ?_
  simp only [zz6, QO, ↓Qb]
  refine hK0 _ ?_; try clear hK0 K0
  refine kpA [0, 1, 4, 5, 6] ?_
  refine JA fun K0 hK0 => ?_
  refine JA fun K1 hK1 => ?_
  refine Qz F_mixed [some 21, some 22] rfl ?_
  simp only [zzK, QR, QP, QQ, JC, zz21, JM, zz22, zz6, QO, ↓Qb]
  refine hK1 _ ?_; try clear hK1 K1
  refine kpA [0, 4, 5, 6, 22] ?_
  refine cnA ?_ ?_
  ·intro hb
   simp only [decide_eq_true_eq] at hb
   simp only [hb, if_true] at h2
   refine Qz F_mixed [some 23, some 24, some 25, some 26, some 5] rfl ?_
   simp only [zzK, QR, QP, QQ, JC, zz27, JM, F_cv3_75, F_cvV75, zz21, zz33, JB, zz6, QO, ↓Qb]
   refine hK0 _ ?_; try clear hK0 K0
   refine kpA [4, 5, 6] ?_
   refine JA fun K0 hK0 => ?_
   refine Qz F_mixed [some 27, some 28, some 29, some 30, none] rfl ?_
   simp only [zzK, QR, QP, QQ, JC, zz27, JM, F_cv75_3, F_cvV3, F_zero77, F_bld77, zz7, splice, Option.getD_some, QG, zz1, zzG, zzD, zzC, QA, yyE, Qe, QS, QN, zzH, zz10, F_fld77_0, F_fld77_1, zz18, F_ok77, F_sz77, zz6, QO, ↓Qb]
   refine hK0 _ ?_; try clear hK0 K0
   refine kpA [4] ?_
   refine JJ ?_
   simp only [zz6, QO, ↓Qb]
   refine done0 (by simp [resCs, resC, S, List.getD, JD, lookR, F_ag77, F_sz77, F_ok77]) ?_ (by simp [Ja, Jb, Jc, wideA]) (by simp [QY, QX, wideA])
   simp only [QD, QE, resA, JZ, S_mem, lookR_cons, lookR_nil, QR, QP, JD, QQ, Qd, Qc, JP, QI, QJ, QH, QL, QK, List.take_zero, F_ag77, F_sz77, F_ok77]
   rw [h2]
  ·intro hb
   simp only [decide_eq_false_iff_not] at hb
   simp only [hb, if_false] at h2
   refine JI ?_
   simp only [zz6, QO, ↓Qb]
   refine hK0 _ ?_; try clear hK0 K0
   refine kpA [4, 5, 6] ?_
   refine JA fun K0 hK0 => ?_
   refine Qz F_mixed [some 27, some 28, some 29, some 30, none] rfl ?_
   simp only [zzK, QR, QP, QQ, JC, zz27, JM, F_cv75_3, F_cvV3, F_zero77, F_bld77, zz7, splice, Option.getD_some, QG, zz1, zzG, zzD, zzC, QA, yyE, Qe, QS, QN, zzH, zz10, F_fld77_0, F_fld77_1, zz18, F_ok77, F_sz77, zz6, QO, ↓Qb]
   refine hK0 _ ?_; try clear hK0 K0
   refine kpA [4] ?_
   refine JJ ?_
   simp only [zz6, QO, ↓Qb]
   refine done0 (by simp [resCs, resC, S, List.getD, JD, lookR, F_ag77, F_sz77, F_ok77]) ?_ (by simp [Ja, Jb, Jc, wideA]) (by simp [QY, QX, wideA])
   simp only [QD, QE, resA, JZ, S_mem, lookR_cons, lookR_nil, QR, QP, JD, QQ, Qd, Qc, JP, QI, QJ, QH, QL, QK, List.take_zero, F_ag77, F_sz77, F_ok77]
   rw [h2]
theorem wInt_ (t : Int) : ACalls Try.prog 32 [.agg (wideC t)] [] (.tp [.d (iv (bif rightN t then t else 0)), .d (iv (bif rightN t then 0 else 1))]) := by
 refine acalls_S (rs := [.tmp 2, .tmp 3]) Try.func32 rfl rfl 19 [(0, .d (.agg (wideC t)))] rfl (by simp) rfl ?_
 refine JA fun K0 hK0 => ?_
 refine Qz F_mixed [some 1, some 2, some 3] rfl ?_
 simp only [zzK, QR, QP, QQ, zz35, JS, zz1, zzG, zzD, zzC, QA, yyE, Qe, QS, QN, zzH, JB, wideC, zz6, QO, ↓Qb]
 refine hK0 _ ?_; try clear hK0 K0
 refine kpA [1] ?_
 refine JA fun K0 hK0 => ?_
 refine Qz F_mixed [some 5, some 6, some 7, some 4] rfl ?_
 simp only [zzK, QR, QP, QQ, zz19, zz23, F_off77_1, zzH, QN, QS, F_ok75, F_ag75, F_sz75, zz8, zzD, zzC, QA, yyE, Qe, zz27, JM, F_cv75_3, F_cvV3, JB, zz6, QO, ↓Qb]
 refine hK0 _ ?_; try clear hK0 K0
 refine kpA [1, 4] ?_
 refine JA fun K0 hK0 => ?_
 refine JA fun K1 hK1 => ?_
 refine awp_draw F_mixed [some 8, some 9, some 10, some 11, some 12, some 13, some 14, some 15, some 16, some 17] rfl (by kernel_rfl) ?_
 simp only [zzK, QR, QP, QQ, QU, JZ, zz5, Qj, Qi, Qh, F_ok77, F_ag77, F_sz77, zz8, zz23, zzD, QS, QN, zzH, zzC, QA, yyE, Qe, JC, JE, JF, zz21, JM, gr_ag, gr_agg, grL_cons, grL_nil, grD_cons, grD_nil, b_eqla, b_neqa, F_neq77, F_sl90, F_zero3, F_sz3, zz3, JS, zz1, zzG, maxLen_le, QT, zz29, zz30, zz13, JQ, JR, wideA, wideC, ints, QD, zz6, QO, ↓Qb]
 refine JT F_go50 (fun hG => wOf_ (Ql .i64 (t % 18446744073709551616)) (wI0 _) (wI1 _)) (by simp [QY, QX, wideA, wideC]) (by simp) ?_
 simp only [zzK, QR, QP, QQ, QU, JZ, zz5, Qj, Qi, Qh, F_ok77, F_ag77, F_sz77, zz8, zz23, zzD, QS, QN, zzH, zzC, QA, yyE, Qe, JC, JE, JF, zz21, JM, gr_ag, gr_agg, grL_cons, grL_nil, grD_cons, grD_nil, b_eqla, b_neqa, F_neq77, F_sl90, F_zero3, F_sz3, zz3, JS, zz1, zzG, maxLen_le, QT, zz29, zz30, zz13, JQ, JR, wideA, wideC, ints, QD, zz6, QO, ↓Qb, atsL, oksG, freeN, QZ, Qa, JO, Qm, QT, QS, zz9, QB, QA, S_mem, yyF, QF, zz2]
 refine JT F_go51 (fun hG => Right_ [Ql .i64 (t % 18446744073709551616)] (by simp)) (by simp [QY, QX, wideA, wideC]) (by simp) ?_
 simp only [zzK, QR, QP, QQ, QU, JZ, zz5, Qj, Qi, Qh, F_ok77, F_ag77, F_sz77, zz8, zz23, zzD, QS, QN, zzH, zzC, QA, yyE, Qe, JC, JE, JF, zz21, JM, gr_ag, gr_agg, grL_cons, grL_nil, grD_cons, grD_nil, b_eqla, b_neqa, F_neq77, F_sl90, F_zero3, F_sz3, zz3, JS, zz1, zzG, maxLen_le, QT, zz29, zz30, zz13, JQ, JR, wideA, wideC, ints, QD, zz6, QO, ↓Qb, atsL, oksG, freeN, QZ, Qa, JO, Qm, QT, QS, zz9, QB, QA, S_mem, yyF, QF, zz2]
 refine hK1 _ ?_; try clear hK1 K1
 refine kpA [4, 17] ?_
 refine cnA ?_ ?_
 ·intro hb
  rw [int_law2] at hb
  simp only [Bool.not_eq_true'] at hb
  refine JA fun K2 hK2 => ?_
  refine Qz F_mixed [some 2, some 3] rfl ?_
  simp only [zzK, QR, QP, QQ, JB, zz6, QO, ↓Qb]
  refine hK2 _ ?_; try clear hK2 K2
  refine kpA [2, 3] ?_
  refine JJ ?_
  simp only [zz6, QO, ↓Qb]
  refine dnA ?_
  simp only [QD, QE, resA, JZ, QR, QP, JD, QQ, Qd, Qc, JP]
  simp only [hb, Qc]
 ·intro hb
  rw [int_law2] at hb
  simp only [Bool.not_eq_false'] at hb
  refine JI ?_
  simp only [zz6, QO, ↓Qb]
  refine hK0 _ ?_; try clear hK0 K0
  refine kpA [4] ?_
  refine JA fun K0 hK0 => ?_
  refine Qz F_mixed [some 18, some 2, some 3] rfl ?_
  simp only [zzK, QR, QP, QQ, JC, JB, zz6, QO, ↓Qb]
  refine hK0 _ ?_; try clear hK0 K0
  refine kpA [2, 3] ?_
  refine JJ ?_
  simp only [zz6, QO, ↓Qb]
  refine dnA ?_
  simp only [QD, QE, resA, JZ, QR, QP, JD, QQ, Qd, Qc, JP]
  simp only [hb, Qd, int_val hb]
set_option maxRecDepth 100000 in
set_option maxHeartbeats 4000000 in
theorem aLegs_ (w n : Int) (long : Bool) (l : List FillV) (hl : l.length ≤ 400000) : ACalls Try.prog 15 [.agg [iv w, iv n], .v (.bool long), fillsD l] [⟨46, 4, (lgV w n long l).map posC⟩] (.tp [.ref 0 (lgV w n long l).length, .d (iv (lgE l))]) := by
 refine acalls_S (rs := [.tmp 6, .tmp 7]) Try.func15 rfl rfl 86 [(0, .d (.agg [iv w, iv n])), (1, bv long), (2, .d (fillsD l))] rfl (by simp) rfl ?_
 refine JA fun K0 hK0 => ?_
 refine Qz F_mixed [some 3, some 6, some 7] rfl ?_
 simp only [zzK, QR, QP, QQ, zz35, JS, zz1, zzG, zzD, zzC, QA, yyE, Qe, QS, QN, zzH, JB, zz6, QO, ↓Qb]
 refine hK0 _ ?_; try clear hK0 K0
 refine kpA [1, 2, 3] ?_
 refine JA fun K0 hK0 => ?_
 refine JA fun K1 hK1 => ?_
 refine Qz F_mixed [some 16, some 17, some 18] rfl ?_
 simp only [zzK, QR, QP, QQ, JC, JE, zz12, F_sl23, Option.isSome_some, fillsD, JN, zz6, QO, ↓Qb]
 refine hK1 _ ?_; try clear hK1 K1
 refine kpA [1, 2, 3, 16, 17, 18] ?_
 refine JH ?_
 refine awp_loop (fun m s => ∃ pre post : List FillV, l = pre ++ post ∧ pre.all lgOk = true ∧ m = post.length ∧ s = S 86 [(1, bv long), (2, .d (fillsD l)), (3, .ptr 3 0 0), (16, .d (fillsD l)), (17, .d (iv l.length)), (18, .d (iv pre.length))] [(3, (⟨True, 29, 2, true, false, 3, [[.d (iv w), .d (iv n)]]⟩ : ARow))]) l.length _ (le_SK id [] rfl (l' := [(1, bv long), (2, .d (fillsD l)), (3, .ptr 3 0 0), (16, .d (fillsD l)), (17, .d (iv l.length)), (18, .d (iv ([] : List FillV).length))]) (m' := [(3, (⟨True, 29, 2, true, false, 3, [[.d (iv w), .d (iv n)]]⟩ : ARow))]) ?_ ?_ ?_ ?_) ⟨[], l, rfl, rfl, rfl, rfl⟩ ?_
 ·simp only [leV, JD, QQ, Qd, Qc, fillsD, JN]; exact ⟨Qn _, Qn _, Qn _, Qn _, Qn _, Qn _, trivial⟩
 ·exact ⟨fun _ => ⟨_, rfl, ⟨id, rfl, rfl, fun _ => rfl, id, .inl, VLess.refl _⟩⟩, fun h => by simp at h, trivial⟩
 ·simp [wfV, QY, QX, lookR]
 ·simp [wfR, QX, QY]
 rintro m s ⟨pre, post, rfl, hp, rfl, rfl⟩
 refine JA fun K2 hK2 => ?_
 refine Qz F_mixed [some 19] rfl ?_
 simp only [zzK, QR, QP, QQ, zz21, JM, zz22, fillsD, JN, zz6, QO, ↓Qb]
 refine hK2 _ ?_; try clear hK2 K2
 refine kpA [1, 2, 3, 16, 17, 18, 19] ?_
 refine JA fun K2 hK2 => ?_
 refine cnA ?_ ?_
 ·intro hb
  obtain ⟨x, post, rfl⟩ := more_of hb; clear hb
  refine JI ?_
  simp only [zz6, QO, ↓Qb]
  refine hK2 _ ?_; try clear hK2 K2
  refine kpA [1, 2, 3, 16, 17, 18] ?_
  refine JA fun K2 hK2 => ?_
  refine JH ?_
  refine JA fun K3 hK3 => ?_
  refine Qz F_mixed [some 20, some 21, some 9, none] rfl ?_
  simp only [zzK, QR, QP, QQ, evS_indexAddr, zz23, zz24, F_sl23, F_sz33, QA, zzC, yyE, Qe, F_ok33, F_ag33, zz8, zzD, QS, QN, zzH, zz32, JS, F_zero33, zz10, zz18, splice, QG, zz1, zzG, fillsD, fillC, getD_mid, JN, lt_mid, ge_mid, QW, zz6, QO, ↓Qb]
  refine hK3 _ ?_; try clear hK3 K3
  refine kpA [1, 2, 3, 9, 16, 17, 18] ?_
  refine JA fun K3 hK3 => ?_
  refine Qz F_mixed [some 22, some 23, some 24, some 25, some 26, some 27, some 28, some 29, some 30, some 31, some 32, some 33, some 34, some 35, some 36, some 37, some 38, some 39] rfl ?_
  simp only [zzK, QR, QP, QQ, QU, JZ, zz5, Qj, Qi, Qh, zz19, zz23, F_off33_1, zzH, QN, QS, F_ok3, F_ag3, F_sz3, zz8, zzD, zzC, QA, yyE, Qe, zz21, JM, zz22, JC, zz25, zz13, JQ, JR, F_off33_2, zz6, QO, ↓Qb]
  refine hK3 _ ?_; try clear hK3 K3
  refine kpA [1, 2, 3, 16, 17, 18, 39] ?_
  refine cnA ?_ ?_
  ·intro hb
   have hq : lgOk x = false := by
    cases h : lgOk x with
    | false => rfl
    | true =>
     simp only [lgOk, inR, Bool.and_eq_true, decide_eq_true_eq] at h
     simp [show ¬ x.qty < 0 by omega, show ¬ x.qty > 1099511627776 by omega, show ¬ x.price < 0 by omega, show ¬ x.price > 1073741824 by omega] at hb
     try omega
   clear hb
   have e := lgE_bad (l := pre ++ x :: post) (x := x) (by simp) hq
   refine JA fun K4 hK4 => ?_
   refine Qz F_mixed [some 6, some 7] rfl ?_
   simp only [zzK, QR, QP, QQ, JB, zz6, QO, ↓Qb]
   refine hK4 _ ?_; try clear hK4 K4
   refine kpA [6, 7] ?_
   refine awp_le (le_SK id [0] rfl (l' := [(6, .ref 0 0), (7, .d (iv 3))]) (m' := [(0, (⟨True, 46, 4, true, true, 0, []⟩ : ARow))]) ?_ ?_ ?_ ?_) ?_
   ·simp only [leV, JD, QQ, Qd, Qc]; exact ⟨Qq (by decide), Qo rfl, trivial⟩
   ·exact ⟨fun h => by simp at h, fun _ => rfl, trivial⟩
   ·simp [wfV, QY, lookR]
   ·simp [wfR]
   refine JJ ?_
   simp only [zz6, QO, ↓Qb]
   rw [lgV_no (w := w) (n := n) (long := long) e (by decide), e]
   refine done1 0 (by simp only [resCs, resC]; trivial) ?_ (by simp [Ja, Jb, Jc]) (by simp [QY, QX]) (by rfl) trivial rfl rfl ?_ (by simp [flatDs, Jc])
   ·simp only [QD, QE, resA, JZ, QR, QP, JD, QQ, Qd, Qc, JP]; rfl
   ·rfl
  ·intro hb
   have hq : lgOk x = true := by
    simp only [lgOk, inR, Bool.and_eq_true, decide_eq_true_eq]
    by_cases h1 : x.qty < 0
    ·simp [h1] at hb
    ·by_cases h2 : x.qty > 1099511627776
     ·simp [h1, h2] at hb
     ·by_cases h3 : x.price < 0
      ·simp [h1, h2, h3] at hb
      ·by_cases h4 : x.price > 1073741824
       ·simp [h1, h2, h3, h4] at hb
       ·omega
   clear hb
   refine JI ?_
   simp only [zz6, QO, ↓Qb]
   refine hK2 _ ?_; try clear hK2 K2
   refine kpA [1, 2, 3, 16, 17, 18] ?_
   refine Qz F_mixed [some 40, some 18] rfl ?_
   simp only [zzK, QR, QP, QQ, zz21, JM, zz26, JC, zz6, QO, ↓Qb]
   refine ⟨post.length, _, by simp, le_SK id [] rfl (l' := [(1, bv long), (2, .d (fillsD (pre ++ x :: post))), (3, .ptr 3 0 0), (16, .d (fillsD (pre ++ x :: post))), (17, .d (iv (pre ++ x :: post).length)), (18, .d (iv (pre ++ [x]).length))]) (m' := [(3, (⟨True, 29, 2, true, false, 3, [[.d (iv w), .d (iv n)]]⟩ : ARow))]) ?_ ?_ ?_ ?_, pre ++ [x], post, by simp, by simp [hp, hq], rfl, rfl⟩
   ·simp only [leV, JD, QQ, Qd, Qc, fillsD, JN, wrap_len pre x (by simp at hl; omega)]; exact ⟨Qn _, Qn _, Qn _, Qn _, Qn _, Qn _, trivial⟩
   ·exact ⟨fun _ => ⟨_, rfl, ⟨id, rfl, rfl, fun _ => rfl, id, .inl, VLess.refl _⟩⟩, fun h => by simp at h, trivial⟩
   ·simp [wfV, QY, QX, lookR]
   ·simp [wfR, QX, QY]
 ·intro hb
  obtain rfl := none_of hb; clear hb
  have hpa : (pre ++ []).all lgOk = true := by simpa using hp
  generalize hLE : pre ++ [] = L at hl hpa ⊢
  clear hp
  refine awp_exit ?_
  simp only [zz6, QO, ↓Qb]
  refine hK0 _ ?_; try clear hK0 K0
  refine kpA [1, 2, 3] ?_
  refine JA fun K0 hK0 => ?_
  refine Qz F_mixed [some 10] rfl ?_
  simp only [zzK, QR, QP, QQ, JB, zz6, QO, ↓Qb]
  refine hK0 _ ?_; try clear hK0 K0
  refine kpA [1, 2, 3, 10] ?_
  refine JA fun K0 hK0 => ?_
  refine JA fun K1 hK1 => ?_
  refine Qz F_mixed [some 41, some 42, some 43] rfl ?_
  simp only [zzK, QR, QP, QQ, JC, JE, zz12, F_sl23, Option.isSome_some, fillsD, JN, zz6, QO, ↓Qb]
  refine hK1 _ ?_; try clear hK1 K1
  refine kpA [1, 3, 10, 41, 42, 43] ?_
  refine JH ?_
  refine awp_loop (fun m s => ∃ pre post : List FillV, L = pre ++ post ∧ pre.all lgC = true ∧ m = post.length ∧ s = S 86 [(1, bv long), (3, .ptr 3 0 0), (10, .ref 10 (lgs w n long pre).length), (41, .d (fillsD L)), (42, .d (iv L.length)), (43, .d (iv pre.length))] [(3, (⟨True, 29, 2, true, false, 3, [[.d (iv w), .d (iv n)]]⟩ : ARow)), (10, grow 46 4 10 ((lgs w n long pre).map posC))]) L.length _ (le_SK id [10] rfl (l' := [(1, bv long), (3, .ptr 3 0 0), (10, .ref 10 (lgs w n long ([] : List FillV)).length), (41, .d (fillsD L)), (42, .d (iv L.length)), (43, .d (iv ([] : List FillV).length))]) (m' := [(3, (⟨True, 29, 2, true, false, 3, [[.d (iv w), .d (iv n)]]⟩ : ARow)), (10, grow 46 4 10 ((lgs w n long ([] : List FillV)).map posC))]) ?_ ?_ ?_ ?_) ⟨[], L, rfl, rfl, rfl, rfl⟩ ?_
  ·simp only [leV, JD, QQ, Qd, Qc, fillsD, JN]; exact ⟨Qo rfl, VLe.ptr_ (f := id) (r := 3) (by simp), Qq (by decide), Qo rfl, Qo rfl, Qo rfl, trivial⟩
  ·exact ⟨fun _ => ⟨_, rfl, Qv (by simp [QX, QY])⟩, fun h => by simp at h, fun h => by simp at h, fun _ => rfl, trivial⟩
  ·simp [wfV, QY, lookR]
  ·simp [wfR, grow, lgs, QX, QY]
  rintro m s ⟨pre, post, rfl, hpc, rfl, rfl⟩
  have hpl := lgs_len w n long pre
  refine JA fun K2 hK2 => ?_
  refine Qz F_mixed [some 44] rfl ?_
  simp only [zzK, QR, QP, QQ, zz21, JM, zz22, fillsD, JN, zz6, QO, ↓Qb]
  refine hK2 _ ?_; try clear hK2 K2
  refine kpA [1, 3, 10, 41, 42, 43, 44] ?_
  refine JA fun K2 hK2 => ?_
  refine cnA ?_ ?_
  ·intro hb
   obtain ⟨x, post, rfl⟩ := more_of hb; clear hb
   have hq := hpa
   simp only [List.all_append, List.all_cons, Bool.and_eq_true] at hq
   have hxk := hq.2.1
   simp only [lgOk, inR, Bool.and_eq_true, decide_eq_true_eq] at hxk
   refine JI ?_
   simp only [zz6, QO, ↓Qb]
   refine hK2 _ ?_; try clear hK2 K2
   refine kpA [1, 3, 10, 41, 42, 43] ?_
   refine JA fun K2 hK2 => ?_
   refine JH ?_
   refine JA fun K3 hK3 => ?_
   refine Qz F_mixed [some 45, some 46, some 12, none] rfl ?_
   simp only [zzK, QR, QP, QQ, evS_indexAddr, zz23, zz24, F_sl23, F_sz33, QA, zzC, yyE, Qe, F_ok33, F_ag33, zz8, zzD, QS, QN, zzH, zz32, JS, F_zero33, zz10, zz18, splice, QG, zz1, zzG, fillsD, fillC, getD_mid, JN, lt_mid, ge_mid, QW, zz6, QO, ↓Qb]
   refine hK3 _ ?_; try clear hK3 K3
   refine kpA [1, 3, 10, 12, 41, 42, 43] ?_
   refine JA fun K3 hK3 => ?_
   refine Qz F_mixed [some 48, some 49, some 50, some 51, some 52, some 53, some 47, some 54, some 55, some 13, some 14] rfl ?_
   simp only [zzK, QR, QP, QQ, zz19, zz23, F_off33_1, zzH, QN, QS, F_ok3, F_ag3, F_sz3, zz8, zzD, zzC, QA, yyE, Qe, F_off33_2, JE, JF, JC, zz14, JB, wideA, wideC, QW, zz6, QO, ↓Qb]
   refine JT F_go33 (fun hG => Times_ x.qty x.price (by omega) (by omega) (by omega) (by omega)) (by simp [QY, QX, wideA, wideC]) (by simp) ?_
   simp only [zzK, QR, QP, QQ, zz19, zz23, F_off33_1, zzH, QN, QS, F_ok3, F_ag3, F_sz3, zz8, zzD, zzC, QA, yyE, Qe, F_off33_2, JE, JF, JC, zz14, JB, wideA, wideC, QW, zz6, QO, ↓Qb, atsL, oksG, freeN, QZ, Qa, JO, Qm, QT, QS, zz9, QB, QA, S_mem, yyF, QF, zz2]
   refine JT F_go32 (fun hG => wInt_ (x.qty * x.price)) (by simp [QY, QX, wideA, wideC]) (by simp) ?_
   simp only [zzK, QR, QP, QQ, zz19, zz23, F_off33_1, zzH, QN, QS, F_ok3, F_ag3, F_sz3, zz8, zzD, zzC, QA, yyE, Qe, F_off33_2, JE, JF, JC, zz14, JB, wideA, wideC, QW, zz6, QO, ↓Qb, atsL, oksG, freeN, QZ, Qa, JO, Qm, QT, QS, zz9, QB, QA, S_mem, yyF, QF, zz2]
   refine hK3 _ ?_; try clear hK3 K3
   refine kpA [1, 3, 10, 12, 13, 14, 41, 42, 43] ?_
   refine JA fun K3 hK3 => ?_
   refine JA fun K4 hK4 => ?_
   refine Qz F_mixed [some 56, some 57] rfl ?_
   simp only [zzK, QR, QP, QQ, JC, zz21, JM, zz28, zz6, QO, ↓Qb]
   refine hK4 _ ?_; try clear hK4 K4
   refine kpA [1, 3, 10, 12, 13, 14, 41, 42, 43, 57] ?_
   refine cnA ?_ ?_
   ·intro hb
    have hc : lgC x = false := by show rightN (x.qty * x.price) = false; revert hb; cases rightN (x.qty * x.price) <;> simp
    clear hb
    have e := lgE_big (l := pre ++ x :: post) (x := x) hpa (by simp) hc
    have hc2 : rightN (x.qty * x.price) = false := hc
    try simp only [hc2, Qc]
    refine JA fun K5 hK5 => ?_
    refine Qz F_mixed [some 58, some 6, some 7] rfl ?_
    simp only [zzK, QR, QP, QQ, JC, JB, zz6, QO, ↓Qb]
    refine hK5 _ ?_; try clear hK5 K5
    refine kpA [6, 7] ?_
    refine awp_le (le_SK id [0] rfl (l' := [(6, .ref 0 0), (7, .d (iv 1))]) (m' := [(0, (⟨True, 46, 4, true, true, 0, []⟩ : ARow))]) ?_ ?_ ?_ ?_) ?_
    ·simp only [leV, JD, QQ, Qd, Qc]; exact ⟨Qq (by decide), Qo rfl, trivial⟩
    ·exact ⟨fun h => by simp at h, fun _ => rfl, trivial⟩
    ·simp [wfV, QY, lookR]
    ·simp [wfR]
    refine JJ ?_
    simp only [zz6, QO, ↓Qb]
    rw [hLE]
    rw [lgV_no (w := w) (n := n) (long := long) e (by decide), e]
    refine done1 0 (by simp only [resCs, resC]; trivial) ?_ (by simp [Ja, Jb, Jc]) (by simp [QY, QX]) (by rfl) trivial rfl rfl ?_ (by simp [flatDs, Jc])
    ·simp only [QD, QE, resA, JZ, QR, QP, JD, QQ, Qd, Qc, JP]; rfl
    ·rfl
   ·intro hb
    have hc : lgC x = true := by show rightN (x.qty * x.price) = true; revert hb; cases rightN (x.qty * x.price) <;> simp
    clear hb
    have hc2 : rightN (x.qty * x.price) = true := hc
    have hcb : -4611686018427387904 ≤ x.qty * x.price ∧ x.qty * x.price ≤ 4611686018427387904 := by simpa [rightN] using hc2
    try simp only [hc2, Qd]
    refine JI ?_
    simp only [zz6, QO, ↓Qb]
    refine hK3 _ ?_; try clear hK3 K3
    refine kpA [1, 3, 10, 12, 13, 41, 42, 43] ?_
    refine JA fun K3 hK3 => ?_
    refine Qz F_mixed [some 59, some 60, some 15] rfl ?_
    simp only [zzK, QR, QP, QQ, zz19, zz23, F_off33_1, zzH, QN, QS, F_ok3, F_ag3, F_sz3, zz8, zzD, zzC, QA, yyE, Qe, JB, zz6, QO, ↓Qb]
    refine hK3 _ ?_; try clear hK3 K3
    refine kpA [1, 3, 10, 12, 13, 15, 41, 42, 43] ?_
    refine JA fun K3 hK3 => ?_
    refine JA fun K4 hK4 => ?_
    refine Qz F_mixed [some 61, some 62] rfl ?_
    simp only [zzK, QR, QP, QQ, JC, zz29, JM, zz30, zz6, QO, ↓Qb]
    refine hK4 _ ?_; try clear hK4 K4
    refine kpA [1, 3, 10, 12, 13, 15, 41, 42, 43, 62] ?_
    refine cnA ?_ ?_
    ·intro hb
     have hlg : long = false := by simpa using hb
     clear hb
     have hx1 : Ql .i64 (0 - x.qty) = 0 - x.qty := wrapI (by omega) (by omega)
     have hx2 : Ql .i64 (0 - x.qty * x.price) = 0 - x.qty * x.price := wrapI (by omega) (by omega)
     have hx3 : Ql .i64 (0 - (0 - x.qty)) = 0 - (0 - x.qty) := wrapI (by omega) (by omega)
     have hx4 : Ql .i64 (0 - (0 - x.qty * x.price)) = 0 - (0 - x.qty * x.price) := wrapI (by omega) (by omega)
     refine Qz F_mixed [some 63, some 64, some 65, some 66, some 15, some 13] rfl ?_
     simp only [zzK, QR, QP, QQ, JC, zz29, JM, zz37, JB, hx1, hx2, zz6, QO, ↓Qb]
     refine hK3 _ ?_; try clear hK3 K3
     refine kpA [1, 3, 10, 12, 13, 15, 41, 42, 43] ?_
     refine Qz F_mixed [some 67, some 68, some 69, some 70, some 71, some 72, some 73, some 74, some 75, some 76, some 77, some 78, some 79, some 80, some 81, some 82, some 83, some 10] rfl ?_
     simp only [zzK, QR, QP, QQ, JC, zz19, zz23, F_off33_0, zzH, QN, QS, F_ok3, F_ag3, F_sz3, zz8, zzD, zzC, QA, yyE, Qe, F_off29_1, F_zero29, F_bld29, zz7, splice, Option.getD_some, QG, zz1, zzG, zz10, F_fld29_0, F_fld29_1, F_zero46, F_bld46, F_fld46_0, F_fld46_1, F_fld46_2, F_ok29, F_ag29, F_sz29, zz29, JM, zz37, F_sl42, F_sz46, zz3, JS, maxLen_le, QT, JE, F_by46, zz4, zz9, QB, JB, grow, QW, unDs_map, hx1, hx2, hx3, hx4, zz6, QO, ↓Qb]
     have hm : (lgs w n long pre).length + 2 ≤ 1000000 := by simp at hl; omega
     first | refine ⟨le_maxLen hm, by omega, ?_⟩ | refine ⟨by simp, le_maxLen hm, by omega, ?_⟩
     clear hm
     refine hK2 _ ?_; try clear hK2 K2
     refine kpA [1, 3, 10, 41, 42, 43] ?_
     refine Qz F_mixed [some 84, some 43] rfl ?_
     simp only [zzK, QR, QP, QQ, zz21, JM, zz26, JC, zz6, QO, ↓Qb]
     refine ⟨post.length, _, by simp, le_SK (fun r => bif r == 10 then 83 else r) [] rfl (l' := [(1, bv long), (3, .ptr 3 0 0), (10, .ref 10 (lgs w n long (pre ++ [x])).length), (41, .d (fillsD (pre ++ x :: post))), (42, .d (iv (pre ++ x :: post).length)), (43, .d (iv (pre ++ [x]).length))]) (m' := [(3, (⟨True, 29, 2, true, false, 3, [[.d (iv w), .d (iv n)]]⟩ : ARow)), (10, grow 46 4 10 ((lgs w n long (pre ++ [x])).map posC))]) ?_ ?_ ?_ ?_, pre ++ [x], post, by simp, by simp [hpc, hc], rfl, rfl⟩
     ·simp only [leV, JD, QQ, Qd, Qc, fillsD, JN, wrap_len pre x (by simp at hl; omega)]
      refine ⟨Qo rfl, VLe.ptr_ (f := (fun r => bif r == 10 then 83 else r)) (r := 3) (by simp), ?_, Qo rfl, Qo rfl, Qo rfl, trivial⟩
      rw [lgs_snoc]
      rw [show (AV.ref 83 _ : AV) = .ref ((fun r => bif r == 10 then 83 else r) 10) (lgs w n long pre ++ lg1 w n long x).length from by simp [lg1]]; try exact VLe.ref_ (f := (fun r => bif r == 10 then 83 else r)) (r := 10) (by simp)
     ·exact ⟨fun _ => ⟨_, rfl, Qv (by simp [QX, QY])⟩, fun h => by simp at h, fun _ => ⟨_, rfl, Qw (by rw [lgs_snoc]; simp [posC, lg1, lq, hlg])⟩, fun h => by simp at h, trivial⟩
     ·simp [wfV, QY, lookR, grow]
     ·exact ⟨by simp [QX, QY], wf_data _ _, trivial⟩
    ·intro hb
     have hlg : long = true := by simpa using hb
     clear hb
     have hx1 : Ql .i64 (0 - x.qty) = 0 - x.qty := wrapI (by omega) (by omega)
     have hx2 : Ql .i64 (0 - x.qty * x.price) = 0 - x.qty * x.price := wrapI (by omega) (by omega)
     have hx3 := hx1
     have hx4 := hx2
     refine JI ?_
     simp only [zz6, QO, ↓Qb]
     refine hK3 _ ?_; try clear hK3 K3
     refine kpA [1, 3, 10, 12, 13, 15, 41, 42, 43] ?_
     refine Qz F_mixed [some 67, some 68, some 69, some 70, some 71, some 72, some 73, some 74, some 75, some 76, some 77, some 78, some 79, some 80, some 81, some 82, some 83, some 10] rfl ?_
     simp only [zzK, QR, QP, QQ, JC, zz19, zz23, F_off33_0, zzH, QN, QS, F_ok3, F_ag3, F_sz3, zz8, zzD, zzC, QA, yyE, Qe, F_off29_1, F_zero29, F_bld29, zz7, splice, Option.getD_some, QG, zz1, zzG, zz10, F_fld29_0, F_fld29_1, F_zero46, F_bld46, F_fld46_0, F_fld46_1, F_fld46_2, F_ok29, F_ag29, F_sz29, zz29, JM, zz37, F_sl42, F_sz46, zz3, JS, maxLen_le, QT, JE, F_by46, zz4, zz9, QB, JB, grow, QW, unDs_map, hx1, hx2, hx3, hx4, zz6, QO, ↓Qb]
     have hm : (lgs w n long pre).length + 2 ≤ 1000000 := by simp at hl; omega
     first | refine ⟨le_maxLen hm, by omega, ?_⟩ | refine ⟨by simp, le_maxLen hm, by omega, ?_⟩
     clear hm
     refine hK2 _ ?_; try clear hK2 K2
     refine kpA [1, 3, 10, 41, 42, 43] ?_
     refine Qz F_mixed [some 84, some 43] rfl ?_
     simp only [zzK, QR, QP, QQ, zz21, JM, zz26, JC, zz6, QO, ↓Qb]
     refine ⟨post.length, _, by simp, le_SK (fun r => bif r == 10 then 83 else r) [] rfl (l' := [(1, bv long), (3, .ptr 3 0 0), (10, .ref 10 (lgs w n long (pre ++ [x])).length), (41, .d (fillsD (pre ++ x :: post))), (42, .d (iv (pre ++ x :: post).length)), (43, .d (iv (pre ++ [x]).length))]) (m' := [(3, (⟨True, 29, 2, true, false, 3, [[.d (iv w), .d (iv n)]]⟩ : ARow)), (10, grow 46 4 10 ((lgs w n long (pre ++ [x])).map posC))]) ?_ ?_ ?_ ?_, pre ++ [x], post, by simp, by simp [hpc, hc], rfl, rfl⟩
     ·simp only [leV, JD, QQ, Qd, Qc, fillsD, JN, wrap_len pre x (by simp at hl; omega)]
      refine ⟨Qo rfl, VLe.ptr_ (f := (fun r => bif r == 10 then 83 else r)) (r := 3) (by simp), ?_, Qo rfl, Qo rfl, Qo rfl, trivial⟩
      rw [lgs_snoc]
      rw [show (AV.ref 83 _ : AV) = .ref ((fun r => bif r == 10 then 83 else r) 10) (lgs w n long pre ++ lg1 w n long x).length from by simp [lg1]]; try exact VLe.ref_ (f := (fun r => bif r == 10 then 83 else r)) (r := 10) (by simp)
     ·exact ⟨fun _ => ⟨_, rfl, Qv (by simp [QX, QY])⟩, fun h => by simp at h, fun _ => ⟨_, rfl, Qw (by rw [lgs_snoc]; simp [posC, lg1, lq, hlg])⟩, fun h => by simp at h, trivial⟩
     ·simp [wfV, QY, lookR, grow]
     ·exact ⟨by simp [QX, QY], wf_data _ _, trivial⟩
  ·intro hb
   obtain rfl := none_of hb; clear hb
   have e0 : lgE (pre ++ []) = 0 := lgE_ok hpa (by simpa using hpc)
   refine awp_exit ?_
   simp only [zz6, QO, ↓Qb]
   refine hK0 _ ?_; try clear hK0 K0
   refine kpA [10] ?_
   refine JA fun K0 hK0 => ?_
   refine Qz F_mixed [some 85, some 6, some 7] rfl ?_
   simp only [zzK, QR, QP, QQ, JC, JB, zz6, QO, ↓Qb]
   refine hK0 _ ?_; try clear hK0 K0
   refine kpA [6, 7] ?_
   refine JJ ?_
   simp only [zz6, QO, ↓Qb]
   rw [hLE, lgV_yes e0, e0]
   try simp only [QG]
   refine done1 10 (by simp only [resCs, resC]; trivial) ?_ (by simp [Ja, Jb, Jc, posC]) (by simp [QY, QX, posC]) (by rfl) trivial rfl rfl ?_ (by simp [flatDs, Jc, posC])
   ·simp only [QD, QE, resA, JZ, QR, QP, JD, QQ, Qd, Qc, JP]; rfl
   ·rfl
theorem aLegsF (w n : Int) (long : Bool) (l : List FillV) (hl : l.length ≤ 400000) : ACalls Try.prog 15 [.agg [iv w, iv n], .v (.bool long), fillsD l] [] (.tp [.d (poss (lgV w n long l)), .d (iv (lgE l))]) :=
 (aLegs_ w n long l hl).freezeT (by simp [frzOk, frzOkL])
end Go.Proofs.Ytopifbpibkpmmaa
