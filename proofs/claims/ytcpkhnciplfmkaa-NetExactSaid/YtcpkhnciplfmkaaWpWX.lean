/- Joined texts. No condition. -/
import Derived.Test.YtcpkhnciplfmkaaWpU
import Derived.Test.YtcpkhnciplfmkaaSpecE
import Derived.Test.YtcpkhnciplfmkaaWpI
import Derived.Test.YtcpkhnciplfmkaaSpecNC
namespace Go.Proofs.Ytcpkhnciplfmkaa
open Go.RowKit
set_option linter.unusedVariables false
set_option linter.unusedSimpArgs false
open Option renaming map_some → QA, bind_some → QB
open List renaming length_append → QC, map_cons → QD, map_nil → QE, length_cons → QF, append_nil → QG, drop_zero → QH, getD_cons_zero → QI, getD_cons_succ → QJ, take_succ_cons → QK, drop_succ_cons → QL, length_singleton → QM
open Nat renaming zero_add → QN, reduceEqDiff → QO, reduceLeDiff → QP, reduceBEq → QQ, reduceLT → QR, reduceAdd → QS, reduceMul → QT, reduceSub → QU
open Int renaming toNat_natCast → QV
open D.agg renaming injEq → QW
open AV renaming idsL → QX, ids → QY, ren → QZ, renL → Qa
open _root_ renaming reduceIte → Qb, cond_false → Qc, cond_true → Qd, reduceCtorEq → Qe, of_decide_eq_false → Qf, of_decide_eq_true → Qg, imp_self → Qh, imp_and → Qi, and_imp → Qj
open IntKind renaming wrap → Ql
open ORow renaming row → Qm
open VLe renaming refl → Qn, still → Qo
open RowLe renaming data_ → Qw
open Go.Proofs.Ytcpkhnciplfmkaa renaming awp_plain → Qz, awp_seq → JA, evS_assign → JB, evS_move → JC, look_cons → JD, evS_call → JE, evC_value → JF, awp_block → JH, awp_skip → JI, awp_ret → JJ, awp_exit → JK, awp_loop → JL, gr_v → JM, len_map → JN, addRows → JO, resAll → JP, pickK_l → JQ, pickK_r → JR, newRow1 → JS, call_go → JT, freeN → JV, evS_indexAddr → JW, S_getD → JZ
theorem F_ag77 : aggT Try.prog 77 = true := by kernel_rfl
theorem F_sz77 : szT Try.prog 77 = 2 := by kernel_rfl
theorem F_ok77 : tyOk Try.prog 77 = true := by kernel_rfl
theorem F_zero77 : zeroT Try.prog 77 = some [(.int .i64 0), (.int .u64 0)] := by kernel_rfl
theorem F_bld77 : bldT Try.prog 77 = true := by kernel_rfl
theorem F_fld77_0 : fldT Try.prog 77 0 = some (0, 1) := by kernel_rfl
theorem F_fld77_1 : fldT Try.prog 77 1 = some (1, 1) := by kernel_rfl
theorem F_sl75 : sliceT Try.prog 75 = some 77 := by kernel_rfl
theorem F_off77_1 : offT Try.prog 77 1 = some 1 := by kernel_rfl
theorem F_ok71 : tyOk Try.prog 71 = true := by kernel_rfl
theorem F_ag71 : aggT Try.prog 71 = false := by kernel_rfl
theorem F_sz71 : szT Try.prog 71 = 1 := by kernel_rfl
theorem F_off77_0 : offT Try.prog 77 0 = some 0 := by kernel_rfl
theorem F_eqi77 (a0 b0 : Int) (a1 b1 : Int) (w : World) : (Op.equalIn 10000 77 (.agg #[.int .i64 a0, .int .u64 a1]) (.agg #[.int .i64 b0, .int .u64 b1])).run Try.prog w = .ok (veqL [.int .i64 a0, .int .u64 a1] [.int .i64 b0, .int .u64 b1]) w := by
 have u3 := Try.underlying3
 have g3 := Try.isAgg3
 have z3 := Try.sizeOf3
 have u71 := Try.underlying71
 have g71 := Try.isAgg71
 have z71 := Try.sizeOf71
 have hS : Try.prog.underlying 77 = some (.struct (Try.prog.fieldsOf 77)) := by kernel_rfl
 have hp : Try.prog.stoodInHeld 77 = false := by kernel_rfl
 rw [show (10000 : Nat) = 9999 + 1 from rfl, run_equalIn_agg w 9999 77 _ _ hS hp]
 simp only [Program.fieldsOf, Try.underlying77]
 go_simp
 by_cases h0 : a0 = b0 <;> by_cases h1 : a1 = b1 <;> simp [veqL, veq, h0, h1]
theorem F_neq77 (a0 b0 : Int) (a1 b1 : Int) (x y : Operand) : pureBin Try.prog .neq 77 x y (.agg #[.int .i64 a0, .int .u64 a1]) (.agg #[.int .i64 b0, .int .u64 b1]) = True := by
 have hm : Try.prog.eqGuardType Try.prog.depth 77 = false := by kernel_rfl
 simp only [pureBin, Pure, eq_iff_iff, iff_true]
 intro w
 simp only [Sem.run_bind, run_eqGuard_agg w .neq 77 x y _ _ hm, Result.andThen_ok, run_neq_struct, F_eqi77, binV]
theorem F_go48 : goFn Try.prog 48 := ⟨_, Try.func48, rfl, rfl⟩
theorem F_go47 : goFn Try.prog 47 := ⟨_, Try.func47, rfl, rfl⟩
theorem F_by77 : byT Try.prog 77 = 16 := by kernel_rfl
theorem F_go49 : goFn Try.prog 49 := ⟨_, Try.func49, rfl, rfl⟩
theorem F_go50 : goFn Try.prog 50 := ⟨_, Try.func50, rfl, rfl⟩
theorem F_go37 : goFn Try.prog 37 := ⟨_, Try.func37, rfl, rfl⟩
theorem F_go40 : goFn Try.prog 40 := ⟨_, Try.func40, rfl, rfl⟩
theorem F_go33 : goFn Try.prog 33 := ⟨_, Try.func33, rfl, rfl⟩
theorem rRight_ (n : Int) : ACalls Try.prog 47 [iv n] [] (bv (rightN n)) := by
 refine acalls_S (rs := [.tmp 2]) Try.func47 rfl rfl 9 [(0, .d (iv n))] rfl (by simp) rfl ?_
 refine JA fun K0 hK0 => ?_
 refine Qz F_mixed [some 2] rfl ?_
 simp only [zzK, QR, QP, QQ, JB, zz6, QO, ↓Qb]
 refine hK0 _ ?_; try clear hK0 K0
 refine kpA [0] ?_
 refine JA fun K0 hK0 => ?_
 refine Qz F_mixed [some 3, some 4, some 5, some 6, some 7, some 8, some 2] rfl ?_
 simp only [zzK, QR, QP, QQ, QU, JZ, zz5, Qj, Qi, Qh, and_self, JC, zz21, JM, zz31, b_leq, pure_leq, zz13, JQ, JR, JB, zz6, QO, ↓Qb]
 refine hK0 _ ?_; try clear hK0 K0
 refine kpA [2] ?_
 refine JJ ?_
 simp only [zz6, QO, ↓Qb]
 refine dnA ?_
 simp only [QD, QE, resA, JZ, QR, QP, JD, QQ, Qd, Qc, JP]
 have h : (decide (n ≥ -4611686018427387904) && decide (n ≤ 4611686018427387904)) = rightN n := by
  rw [Bool.eq_iff_iff]; simp [rightN]
 rw [h]
theorem rAcRight_ (a : AcV) : ACalls Try.prog 37 [.agg (acC a)] [] (bv (acOk a)) := by
 refine acalls_S (rs := [.tmp 2]) Try.func37 rfl rfl 40 [(0, .d (.agg (acC a)))] rfl (by simp) rfl ?_
 refine JA fun K0 hK0 => ?_
 refine Qz F_mixed [some 1, some 2] rfl ?_
 simp only [zzK, QR, QP, QQ, zz35, JS, zz1, zzG, zzD, zzC, QA, yyE, Qe, QS, QN, zzH, JB, acC, zz6, QO, ↓Qb]
 refine hK0 _ ?_; try clear hK0 K0
 refine kpA [1] ?_
 refine JA fun K0 hK0 => ?_
 refine JA fun K1 hK1 => ?_
 refine Qz F_mixed [some 3, some 4, some 5, some 6, some 7, some 8, some 9, some 10, some 11, some 12, some 13, some 14, some 15, some 16, some 17, some 18, some 19, some 20] rfl ?_
 simp only [zzK, QR, QP, QQ, QU, JZ, zz5, Qj, Qi, Qh, zz19, zz23, F_off48_2, zzH, QN, QS, F_ok3, F_ag3, F_sz3, zz8, zzD, zzC, QA, yyE, Qe, zz21, JM, zz22, JC, zz31, zz13, JQ, JR, F_off48_0, zz25, zz6, QO, ↓Qb]
 refine hK1 _ ?_; try clear hK1 K1
 refine kpA [1, 20] ?_
 refine cnA ?_ ?_
 ·intro hb
  have e : acBad a = true := by rw [acBad_ref]; exact hb
  clear hb
  refine JA fun K2 hK2 => ?_
  refine Qz F_mixed [some 2] rfl ?_
  simp only [zzK, QR, QP, QQ, JB, zz6, QO, ↓Qb]
  refine hK2 _ ?_; try clear hK2 K2
  refine kpA [2] ?_
  refine JJ ?_
  simp only [zz6, QO, ↓Qb]
  refine dnA ?_
  simp only [QD, QE, resA, JZ, QR, QP, JD, QQ, Qd, Qc, JP]
  rw [acOk, e]; rfl
 ·intro hb
  have e : acBad a = false := by rw [acBad_ref]; exact hb
  clear hb
  refine JI ?_
  simp only [zz6, QO, ↓Qb]
  refine hK0 _ ?_; try clear hK0 K0
  refine kpA [1] ?_
  refine JA fun K0 hK0 => ?_
  refine JA fun K1 hK1 => ?_
  refine Qz F_mixed [some 21, some 22, some 23, some 24, some 25, some 26, some 27, some 28] rfl ?_
  simp only [zzK, QR, QP, QQ, QU, JZ, zz5, Qj, Qi, Qh, zz19, zz23, F_off48_0, zzH, QN, QS, F_ok3, F_ag3, F_sz3, zz8, zzD, zzC, QA, yyE, Qe, zz21, JM, zz34, JC, zz13, JQ, JR, zz6, QO, ↓Qb]
  refine hK1 _ ?_; try clear hK1 K1
  refine kpA [1, 28] ?_
  refine cnA ?_ ?_
  ·intro hb
   have e2 : acOwn a.kind = true := hb
   clear hb
   refine JA fun K2 hK2 => ?_
   refine Qz F_mixed [some 29, some 30, some 31, some 32, some 33, some 34, some 35, some 36, some 2] rfl ?_
   simp only [zzK, QR, QP, QQ, QU, JZ, zz5, Qj, Qi, Qh, zz19, zz23, F_off48_1, zzH, QN, QS, F_ok3, F_ag3, F_sz3, zz8, zzD, zzC, QA, yyE, Qe, zz21, JM, zz31, JC, b_leq, pure_leq, zz13, JQ, JR, JB, zz6, QO, ↓Qb]
   refine hK2 _ ?_; try clear hK2 K2
   refine kpA [2] ?_
   refine JJ ?_
   simp only [zz6, QO, ↓Qb]
   refine dnA ?_
   simp only [QD, QE, resA, JZ, QR, QP, JD, QQ, Qd, Qc, JP]
   rw [acOk, e, e2]; cases decide (a.who ≥ 1) <;> rfl
  ·intro hb
   have e2 : acOwn a.kind = false := hb
   clear hb
   refine JI ?_
   simp only [zz6, QO, ↓Qb]
   refine hK0 _ ?_; try clear hK0 K0
   refine kpA [1] ?_
   refine JA fun K0 hK0 => ?_
   refine Qz F_mixed [some 37, some 38, some 39, some 2] rfl ?_
   simp only [zzK, QR, QP, QQ, zz19, zz23, F_off48_1, zzH, QN, QS, F_ok3, F_ag3, F_sz3, zz8, zzD, zzC, QA, yyE, Qe, zz21, JM, zz34, JB, zz6, QO, ↓Qb]
   refine hK0 _ ?_; try clear hK0 K0
   refine kpA [2] ?_
   refine JJ ?_
   simp only [zz6, QO, ↓Qb]
   refine dnA ?_
   simp only [QD, QE, resA, JZ, QR, QP, JD, QQ, Qd, Qc, JP]
   rw [acOk, e, e2]; rfl
theorem Of_ (n : Int) (h0 : -9223372036854775808 ≤ n) (h1 : n < 9223372036854775808) : ACalls Try.prog 48 [iv n] [] (wideA n) := by
 refine acalls_S (rs := [.cell 2 77]) Try.func48 rfl rfl 11 [(0, .d (iv n))] rfl (by simp) rfl ?_
 refine JA fun K0 hK0 => ?_
 refine Qz F_mixed [some 2] rfl ?_
 simp only [zzK, QR, QP, QQ, zz32, JS, F_zero77, zzC, QA, yyE, Qe, zzD, QS, QN, zzH, zz10, zz6, QO, ↓Qb]
 refine hK0 _ ?_; try clear hK0 K0
 refine kpA [0, 2] ?_
 refine JA fun K0 hK0 => ?_
 refine JA fun K1 hK1 => ?_
 refine Qz F_mixed [some 3, some 4] rfl ?_
 simp only [zzK, QR, QP, QQ, JC, zz21, JM, zz22, zz6, QO, ↓Qb]
 refine hK1 _ ?_; try clear hK1 K1
 refine kpA [0, 2, 4] ?_
 refine cnA ?_ ?_
 ·intro hb
  simp only [decide_eq_true_eq] at hb
  refine JA fun K2 hK2 => ?_
  refine Qz F_mixed [some 5, some 6, some 7, none] rfl ?_
  simp only [zzK, QR, QP, QQ, JC, zz27, JM, F_cv3_71, F_cvV71, F_zero77, F_bld77, zz7, splice, Option.getD_some, QG, zz1, zzG, zzD, zzC, QA, yyE, Qe, QS, QN, zzH, zz10, F_fld77_0, F_fld77_1, zz18, F_ok77, F_sz77, zz6, QO, ↓Qb]
  refine hK2 _ ?_; try clear hK2 K2
  refine kpA [2] ?_
  refine JJ ?_
  simp only [zz6, QO, ↓Qb]
  refine done0 (by simp [resCs, resC, S, List.getD, JD, lookR, F_ag77, F_sz77, F_ok77]) ?_ (by simp [flatA, flatAs, flatD, wideA]) (by simp [QY, QX, wideA])
  simp only [QD, QE, resA, JZ, S_mem, lookR_cons, lookR_nil, QR, QP, JD, QQ, Qd, Qc, JP, QI, QJ, QH, QL, QK, List.take_zero, F_ag77, F_sz77, F_ok77]
  rw [wide_neg h0 hb]
 ·intro hb
  simp only [decide_eq_false_iff_not, Int.not_lt] at hb
  refine JI ?_
  simp only [zz6, QO, ↓Qb]
  refine hK0 _ ?_; try clear hK0 K0
  refine kpA [0, 2] ?_
  refine JA fun K0 hK0 => ?_
  refine Qz F_mixed [some 8, some 9, some 10, none] rfl ?_
  simp only [zzK, QR, QP, QQ, JC, zz27, JM, F_cv3_71, F_cvV71, F_zero77, F_bld77, zz7, splice, Option.getD_some, QG, zz1, zzG, zzD, zzC, QA, yyE, Qe, QS, QN, zzH, zz10, F_fld77_1, zz18, F_ok77, F_sz77, zz6, QO, ↓Qb]
  refine hK0 _ ?_; try clear hK0 K0
  refine kpA [2] ?_
  refine JJ ?_
  simp only [zz6, QO, ↓Qb]
  refine done0 (by simp [resCs, resC, S, List.getD, JD, lookR, F_ag77, F_sz77, F_ok77]) ?_ (by simp [flatA, flatAs, flatD, wideA]) (by simp [QY, QX, wideA])
  simp only [QD, QE, resA, JZ, S_mem, lookR_cons, lookR_nil, QR, QP, JD, QQ, Qd, Qc, JP, QI, QJ, QH, QL, QK, List.take_zero, F_ag77, F_sz77, F_ok77]
  rw [wide_pos h1 hb]
set_option maxRecDepth 100000 in
set_option maxHeartbeats 4000000 in
theorem WSum_ (l : List Int) (hl : l.length ≤ 1000000) (hall : ∀ x ∈ l, -170141183460469231731687303715884105728 ≤ x ∧ x < 170141183460469231731687303715884105728) : ACalls Try.prog 49 [wides l] [] (.tp [wideA (bif fitsW l.sum then l.sum else 0), bv (fitsW l.sum)]) := by
 refine acalls_S (rs := [.cell 2 77, .tmp 3]) Try.func49 rfl rfl 75 [(0, .d (wides l))] rfl (by simp) rfl ?_
 refine JA fun K0 hK0 => ?_
 refine Qz F_mixed [some 2, some 3] rfl ?_
 simp only [zzK, QR, QP, QQ, zz32, JS, F_zero77, zzC, QA, yyE, Qe, zzD, QS, QN, zzH, zz10, JB, zz6, QO, ↓Qb]
 refine hK0 _ ?_; try clear hK0 K0
 refine kpA [0, 2] ?_
 refine JA fun K0 hK0 => ?_
 refine Qz F_mixed [some 4] rfl ?_
 simp only [zzK, QR, QP, QQ, JB, zz6, QO, ↓Qb]
 refine hK0 _ ?_; try clear hK0 K0
 refine kpA [0, 2, 4] ?_
 refine JA fun K0 hK0 => ?_
 refine Qz F_mixed [some 5, some 6] rfl ?_
 simp only [zzK, QR, QP, QQ, JB, zz6, QO, ↓Qb]
 refine hK0 _ ?_; try clear hK0 K0
 refine kpA [0, 2, 4, 5, 6] ?_
 refine JA fun K0 hK0 => ?_
 refine JA fun K1 hK1 => ?_
 refine Qz F_mixed [some 7] rfl ?_
 simp only [zzK, QR, QP, QQ, JB, zz6, QO, ↓Qb]
 refine hK1 _ ?_; try clear hK1 K1
 refine kpA [0, 2, 4, 5, 6, 7] ?_
 refine JH ?_
 refine JL (fun m s => ∃ pre post : List Int, l = pre ++ post ∧ m = post.length ∧ s = S 75 [(0, .d (wides l)), (2, .ptr 2 0 0), (4, .d (iv (topN pre.sum))), (5, .d (.v (.int .u64 (hiN pre.sum)))), (6, .d (.v (.int .u64 (loN pre.sum)))), (7, .d (iv pre.length))] [(2, (⟨True, 77, 2, true, false, 2, [[.d (.v (.int .i64 0)), .d (.v (.int .u64 0))]]⟩ : ARow))]) l.length _ (le_SK id [] rfl (l' := [(0, .d (wides l)), (2, .ptr 2 0 0), (4, .d (iv (topN ([] : List Int).sum))), (5, .d (.v (.int .u64 (hiN ([] : List Int).sum)))), (6, .d (.v (.int .u64 (loN ([] : List Int).sum)))), (7, .d (iv ([] : List Int).length))]) (m' := [(2, (⟨True, 77, 2, true, false, 2, [[.d (.v (.int .i64 0)), .d (.v (.int .u64 0))]]⟩ : ARow))]) ?_ ?_ ?_ ?_) ⟨[], l, rfl, rfl, rfl⟩ ?_
 ·simp only [leV, JD, QQ, Qd, Qc, List.sum_nil]; exact ⟨Qn _, Qn _, Qn _, Qn _, Qn _, Qn _, trivial⟩
 ·exact ⟨fun _ => ⟨_, rfl, ⟨id, rfl, rfl, fun _ => rfl, id, .inl, VLess.refl _⟩⟩, fun h => by simp at h, trivial⟩
 ·simp [wfV, QY, lookR]
 ·simp [wfR, QX, QY]
 rintro m s ⟨pre, post, rfl, rfl, rfl⟩
 refine JA fun K2 hK2 => ?_
 refine JA fun K3 hK3 => ?_
 refine Qz F_mixed [some 13, some 14, some 15, some 16] rfl ?_
 simp only [zzK, QR, QP, QQ, JC, JE, zz12, F_sl75, Option.isSome_some, zz21, JM, zz22, wides, JN, zz6, QO, ↓Qb]
 refine hK3 _ ?_; try clear hK3 K3
 refine kpA [0, 2, 4, 5, 6, 7, 16] ?_
 refine cnA ?_ ?_
 ·intro hb
  obtain ⟨x, post, rfl⟩ := more_of hb; clear hb
  have hx := hall x (by simp)
  have hs := wsum_bound (l := pre) (fun y hy => hall y (by simp [hy])) (by simp at hl; omega)
  refine JI ?_
  simp only [zz6, QO, ↓Qb]
  refine hK2 _ ?_; try clear hK2 K2
  refine kpA [0, 2, 4, 5, 6, 7] ?_
  refine JA fun K2 hK2 => ?_
  refine JH ?_
  refine JA fun K3 hK3 => ?_
  refine Qz F_mixed [some 20, some 21, some 22, some 23, some 24, some 25, some 26, some 19, some 27, some 28, some 8, some 9] rfl ?_
  simp only [zzK, QR, QP, QQ, JC, JW, zz23, zz24, F_sl75, F_sz77, QA, zzC, yyE, Qe, zz19, F_off77_1, zzH, QN, QS, F_ok71, F_ag71, F_sz71, zz8, zzD, JE, JF, zz14, JB, wides, wideC, getD_mid, JN, lt_mid, ge_mid, zz6, QO, ↓Qb]
  refine call_ext _ _ (add64 (loN pre.sum) (x % 18446744073709551616) 0 (lo_nn _) (by omega) (by decide) (by decide)) ?_
  simp only [zzK, QR, QP, QQ, JC, JW, zz23, zz24, F_sl75, F_sz77, QA, zzC, yyE, Qe, zz19, F_off77_1, zzH, QN, QS, F_ok71, F_ag71, F_sz71, zz8, zzD, JE, JF, zz14, JB, wides, wideC, getD_mid, JN, lt_mid, ge_mid, zz6, QO, ↓Qb, grsL, JM, QB, QA, oksL, ofV_pair, ofV_int, ofV_bool]
  refine hK3 _ ?_; try clear hK3 K3
  refine kpA [0, 2, 4, 5, 7, 8, 9] ?_
  refine JA fun K3 hK3 => ?_
  refine Qz F_mixed [some 30, some 31, some 32, some 33, some 34, some 35, some 36, some 37, some 38, some 29, some 39, some 40, some 10, some 11] rfl ?_
  simp only [zzK, QR, QP, QQ, JC, JW, zz23, zz24, F_sl75, F_sz77, QA, zzC, yyE, Qe, zz19, F_off77_0, zzH, QN, QS, F_ok3, F_ag3, F_sz3, zz8, zzD, zz27, JM, F_cv3_71, F_cvV71, JE, JF, zz14, JB, wides, wideC, getD_mid, JN, lt_mid, ge_mid, zz6, QO, ↓Qb]
  refine call_ext _ _ (add64 (hiN pre.sum) (Ql .u64 (x / 18446744073709551616)) ((loN pre.sum + x % 18446744073709551616 + 0) / 18446744073709551616) (hi_nn _) (wu_nn _) (wcarry0 _ _) (wcarry1 _ _)) ?_
  simp only [zzK, QR, QP, QQ, JC, JW, zz23, zz24, F_sl75, F_sz77, QA, zzC, yyE, Qe, zz19, F_off77_0, zzH, QN, QS, F_ok3, F_ag3, F_sz3, zz8, zzD, zz27, JM, F_cv3_71, F_cvV71, JE, JF, zz14, JB, wides, wideC, getD_mid, JN, lt_mid, ge_mid, zz6, QO, ↓Qb, grsL, JM, QB, QA, oksL, ofV_pair, ofV_int, ofV_bool]
  refine hK3 _ ?_; try clear hK3 K3
  refine kpA [0, 2, 4, 7, 8, 10, 11] ?_
  refine JA fun K3 hK3 => ?_
  refine Qz F_mixed [some 41, some 42, some 6, some 5] rfl ?_
  simp only [zzK, QR, QP, QQ, JC, JB, zz6, QO, ↓Qb]
  refine hK3 _ ?_; try clear hK3 K3
  refine kpA [0, 2, 4, 5, 6, 7, 11] ?_
  refine JA fun K3 hK3 => ?_
  refine Qz F_mixed [some 43, some 44, some 45, some 46, some 4] rfl ?_
  simp only [zzK, QR, QP, QQ, JC, zz27, JM, F_cv71_3, F_cvV3, zz21, zz26, JB, zz6, QO, ↓Qb]
  refine hK3 _ ?_; try clear hK3 K3
  refine kpA [0, 2, 4, 5, 6, 7] ?_
  refine JA fun K3 hK3 => ?_
  refine Qz F_mixed [some 47, some 48, some 49, some 50, some 51, some 52] rfl ?_
  simp only [zzK, QR, QP, QQ, JC, JW, zz23, zz24, F_sl75, F_sz77, QA, zzC, yyE, Qe, zz19, F_off77_0, zzH, QN, QS, F_ok3, F_ag3, F_sz3, zz8, zzD, zz21, JM, zz22, wides, wideC, getD_mid, JN, lt_mid, ge_mid, zz6, QO, ↓Qb]
  refine hK3 _ ?_; try clear hK3 K3
  refine kpA [0, 2, 4, 5, 6, 7, 52] ?_
  refine cnA ?_ ?_
  ·intro hb
   refine Qz F_mixed [some 53, some 54, some 4] rfl ?_
   simp only [zzK, QR, QP, QQ, JC, zz21, JM, zz33, JB, zz6, QO, ↓Qb]
   refine hK2 _ ?_; try clear hK2 K2
   refine kpA [0, 2, 4, 5, 6, 7] ?_
   refine Qz F_mixed [some 17, some 18, some 7] rfl ?_
   simp only [zzK, QR, QP, QQ, JC, zz21, JM, zz26, JB, zz6, QO, ↓Qb]
   refine ⟨post.length, _, by simp, le_SK id [] rfl (l' := [(0, .d (wides (pre ++ x :: post))), (2, .ptr 2 0 0), (4, .d (iv (topN (pre ++ [x]).sum))), (5, .d (.v (.int .u64 (hiN (pre ++ [x]).sum)))), (6, .d (.v (.int .u64 (loN (pre ++ [x]).sum)))), (7, .d (iv (pre ++ [x]).length))]) (m' := [(2, (⟨True, 77, 2, true, false, 2, [[.d (.v (.int .i64 0)), .d (.v (.int .u64 0))]]⟩ : ARow))]) ?_ ?_ ?_ ?_, pre ++ [x], post, by simp, rfl, rfl⟩
   ·simp only [leV, JD, QQ, Qd, Qc, wides, wrap_len pre x (by simp at hl; omega), sum_snoc]
    refine ⟨Qn _, Qn _, ?_, ?_, ?_, Qn _, trivial⟩
    ·(first | rw [wsum_topA hs.1 hs.2 hx.1 hx.2 hb] | rw [wsum_topB hs.1 hs.2 hx.1 hx.2 hb]); exact Qn _
    ·rw [wsum_hi]; exact Qn _
    ·rw [wsum_lo]; exact Qn _
   ·exact ⟨fun _ => ⟨_, rfl, ⟨id, rfl, rfl, fun _ => rfl, id, .inl, VLess.refl _⟩⟩, fun h => by simp at h, trivial⟩
   ·simp [wfV, QY, lookR]
   ·simp [wfR, QX, QY]
  ·intro hb
   refine JI ?_
   simp only [zz6, QO, ↓Qb]
   refine hK2 _ ?_; try clear hK2 K2
   refine kpA [0, 2, 4, 5, 6, 7] ?_
   refine Qz F_mixed [some 17, some 18, some 7] rfl ?_
   simp only [zzK, QR, QP, QQ, JC, zz21, JM, zz26, JB, zz6, QO, ↓Qb]
   refine ⟨post.length, _, by simp, le_SK id [] rfl (l' := [(0, .d (wides (pre ++ x :: post))), (2, .ptr 2 0 0), (4, .d (iv (topN (pre ++ [x]).sum))), (5, .d (.v (.int .u64 (hiN (pre ++ [x]).sum)))), (6, .d (.v (.int .u64 (loN (pre ++ [x]).sum)))), (7, .d (iv (pre ++ [x]).length))]) (m' := [(2, (⟨True, 77, 2, true, false, 2, [[.d (.v (.int .i64 0)), .d (.v (.int .u64 0))]]⟩ : ARow))]) ?_ ?_ ?_ ?_, pre ++ [x], post, by simp, rfl, rfl⟩
   ·simp only [leV, JD, QQ, Qd, Qc, wides, wrap_len pre x (by simp at hl; omega), sum_snoc]
    refine ⟨Qn _, Qn _, ?_, ?_, ?_, Qn _, trivial⟩
    ·(first | rw [wsum_topA hs.1 hs.2 hx.1 hx.2 hb] | rw [wsum_topB hs.1 hs.2 hx.1 hx.2 hb]); exact Qn _
    ·rw [wsum_hi]; exact Qn _
    ·rw [wsum_lo]; exact Qn _
   ·exact ⟨fun _ => ⟨_, rfl, ⟨id, rfl, rfl, fun _ => rfl, id, .inl, VLess.refl _⟩⟩, fun h => by simp at h, trivial⟩
   ·simp [wfV, QY, lookR]
   ·simp [wfR, QX, QY]
 ·intro hb
  obtain rfl := none_of hb; clear hb
  simp only [QG] at hl hall ⊢
  refine JK ?_
  simp only [zz6, QO, ↓Qb]
  refine hK0 _ ?_; try clear hK0 K0
  refine kpA [2, 4, 5, 6] ?_
  refine JA fun K0 hK0 => ?_
  refine Qz F_mixed [some 55, some 56, some 12] rfl ?_
  simp only [zzK, QR, QP, QQ, JC, zz27, JM, F_cv71_3, F_cvV3, JB, zz6, QO, ↓Qb]
  refine hK0 _ ?_; try clear hK0 K0
  refine kpA [2, 4, 6, 12] ?_
  refine JA fun K0 hK0 => ?_
  refine JA fun K1 hK1 => ?_
  refine Qz F_mixed [some 57, some 58, some 59, some 60, some 61, some 62, some 63, some 64, some 65, some 66, some 67, some 68, some 69, some 70] rfl ?_
  simp only [zzK, QR, QP, QQ, QU, JZ, zz5, Qj, Qi, Qh, and_self, JC, zz21, JM, zz34, zz31, zz13, JQ, JR, zz22, zz6, QO, ↓Qb]
  refine hK1 _ ?_; try clear hK1 K1
  refine kpA [2, 6, 12, 70] ?_
  refine cnA ?_ ?_
  ·intro hb
   rw [fits_law] at hb
   refine JA fun K2 hK2 => ?_
   refine Qz F_mixed [some 71, some 72, some 73, none, some 3] rfl ?_
   simp only [zzK, QR, QP, QQ, JC, F_zero77, F_bld77, zz7, splice, Option.getD_some, QG, zz1, zzG, zzD, zzC, QA, yyE, Qe, QS, QN, zzH, zz10, F_fld77_0, F_fld77_1, zz18, F_ok77, F_sz77, JB, zz6, QO, ↓Qb]
   refine hK2 _ ?_; try clear hK2 K2
   refine kpA [2, 3] ?_
   refine JJ ?_
   simp only [zz6, QO, ↓Qb]
   refine done0 (by simp [resCs, resC, S, List.getD, JD, lookR, F_ag77, F_sz77, F_ok77]) ?_ (by simp [flatA, flatAs, flatD, wideA]) (by simp [QY, QX, wideA])
   simp only [QD, QE, resA, JZ, S_mem, lookR_cons, lookR_nil, QR, QP, JD, QQ, Qd, Qc, JP, QI, QJ, QH, QL, QK, List.take_zero, F_ag77, F_sz77, F_ok77]
   simp only [QG, hb, wide_fit hb, Qd]
  ·intro hb
   rw [fits_law] at hb
   refine JI ?_
   simp only [zz6, QO, ↓Qb]
   refine hK0 _ ?_; try clear hK0 K0
   refine kpA [2] ?_
   refine JA fun K0 hK0 => ?_
   refine Qz F_mixed [some 74, none, some 3] rfl ?_
   simp only [zzK, QR, QP, QQ, F_zero77, F_bld77, zz7, splice, Option.getD_some, QG, zz1, zzG, zzD, zzC, QA, yyE, Qe, QS, QN, zzH, zz10, zz18, F_ok77, F_sz77, JB, zz6, QO, ↓Qb]
   refine hK0 _ ?_; try clear hK0 K0
   refine kpA [2, 3] ?_
   refine JJ ?_
   simp only [zz6, QO, ↓Qb]
   refine done0 (by simp [resCs, resC, S, List.getD, JD, lookR, F_ag77, F_sz77, F_ok77]) ?_ (by simp [flatA, flatAs, flatD, wideA]) (by simp [QY, QX, wideA])
   simp only [QD, QE, resA, JZ, S_mem, lookR_cons, lookR_nil, QR, QP, JD, QQ, Qd, Qc, JP, QI, QJ, QH, QL, QK, List.take_zero, F_ag77, F_sz77, F_ok77]
   simp only [QG, hb, Qc]; rfl
theorem Int_ (t : Int) : ACalls Try.prog 50 [.agg (wideC t)] [] (.tp [.d (iv (bif rightN t then t else 0)), bv (rightN t)]) := by
 refine acalls_S (rs := [.tmp 2, .tmp 3]) Try.func50 rfl rfl 18 [(0, .d (.agg (wideC t)))] rfl (by simp) rfl ?_
 refine JA fun K0 hK0 => ?_
 refine Qz F_mixed [some 1, some 2, some 3] rfl ?_
 simp only [zzK, QR, QP, QQ, zz35, JS, zz1, zzG, zzD, zzC, QA, yyE, Qe, QS, QN, zzH, JB, wideC, zz6, QO, ↓Qb]
 refine hK0 _ ?_; try clear hK0 K0
 refine kpA [1] ?_
 refine JA fun K0 hK0 => ?_
 refine Qz F_mixed [some 5, some 6, some 7, some 4] rfl ?_
 simp only [zzK, QR, QP, QQ, zz19, zz23, F_off77_1, zzH, QN, QS, F_ok71, F_ag71, F_sz71, zz8, zzD, zzC, QA, yyE, Qe, zz27, JM, F_cv71_3, F_cvV3, JB, zz6, QO, ↓Qb]
 refine hK0 _ ?_; try clear hK0 K0
 refine kpA [1, 4] ?_
 refine JA fun K0 hK0 => ?_
 refine JA fun K1 hK1 => ?_
 refine awp_draw F_mixed [some 8, some 9, some 10, some 11, some 12, some 13, some 14, some 15, some 16] rfl (by kernel_rfl) ?_
 simp only [zzK, QR, QP, QQ, QU, JZ, zz5, Qj, Qi, Qh, JC, JE, JF, F_ok77, F_ag77, F_sz77, zz8, zz23, zzD, QS, QN, zzH, zzC, QA, yyE, Qe, zz21, JM, gr_ag, gr_agg, grL_cons, grL_nil, grD_cons, grD_nil, b_eqla, b_neqa, F_neq77, zz29, zz30, zz13, JQ, JR, wideA, wideC, zz6, QO, ↓Qb]
 refine JT F_go48 (fun hG => Of_ (Ql .i64 (t % 18446744073709551616)) (wI0 _) (wI1 _)) (by simp [QY, QX, wideA, wideC]) (by simp) ?_
 simp only [zzK, QR, QP, QQ, QU, JZ, zz5, Qj, Qi, Qh, JC, JE, JF, F_ok77, F_ag77, F_sz77, zz8, zz23, zzD, QS, QN, zzH, zzC, QA, yyE, Qe, zz21, JM, gr_ag, gr_agg, grL_cons, grL_nil, grD_cons, grD_nil, b_eqla, b_neqa, F_neq77, zz29, zz30, zz13, JQ, JR, wideA, wideC, zz6, QO, ↓Qb, atsL, oksG, JV, QZ, Qa, JO, Qm, QT, QS, zz9, QB, QA, S_mem, yyF, QF, zz2]
 refine JT F_go47 (fun hG => rRight_ (Ql .i64 (t % 18446744073709551616))) (by simp [QY, QX, wideA, wideC]) (by simp) ?_
 simp only [zzK, QR, QP, QQ, QU, JZ, zz5, Qj, Qi, Qh, JC, JE, JF, F_ok77, F_ag77, F_sz77, zz8, zz23, zzD, QS, QN, zzH, zzC, QA, yyE, Qe, zz21, JM, gr_ag, gr_agg, grL_cons, grL_nil, grD_cons, grD_nil, b_eqla, b_neqa, F_neq77, zz29, zz30, zz13, JQ, JR, wideA, wideC, zz6, QO, ↓Qb, atsL, oksG, JV, QZ, Qa, JO, Qm, QT, QS, zz9, QB, QA, S_mem, yyF, QF, zz2]
 refine hK1 _ ?_; try clear hK1 K1
 refine kpA [4, 16] ?_
 refine cnA ?_ ?_
 ·intro hb
  rw [int_law] at hb
  simp only [Bool.not_eq_true'] at hb
  refine JA fun K2 hK2 => ?_
  refine Qz F_mixed [some 2, some 3] rfl ?_
  simp only [zzK, QR, QP, QQ, JB, zz6, QO, ↓Qb]
  refine hK2 _ ?_; try clear hK2 K2
  refine kpA [2, 3] ?_
  refine JJ ?_
  simp only [zz6, QO, ↓Qb]
  refine dnA ?_
  simp only [QD, QE, resA, JZ, QR, QP, JD, QQ, Qd, Qc, JP]
  simp only [hb, Qc]
 ·intro hb
  rw [int_law] at hb
  simp only [Bool.not_eq_false'] at hb
  refine JI ?_
  simp only [zz6, QO, ↓Qb]
  refine hK0 _ ?_; try clear hK0 K0
  refine kpA [4] ?_
  refine JA fun K0 hK0 => ?_
  refine Qz F_mixed [some 17, some 2, some 3] rfl ?_
  simp only [zzK, QR, QP, QQ, JC, JB, zz6, QO, ↓Qb]
  refine hK0 _ ?_; try clear hK0 K0
  refine kpA [2, 3] ?_
  refine JJ ?_
  simp only [zz6, QO, ↓Qb]
  refine dnA ?_
  simp only [QD, QE, resA, JZ, QR, QP, JD, QQ, Qd, Qc, JP]
  simp only [hb, Qd, int_val hb]
theorem Add_ (l : List Int) (hl : l.length ≤ 1000000) (hall : ∀ x ∈ l, -9223372036854775808 ≤ x ∧ x < 9223372036854775808) : ACalls Try.prog 33 [ints l] [] (.tp [.d (iv (bif rightN l.sum then l.sum else 0)), bv (rightN l.sum)]) := by
 refine acalls_S (rs := [.tmp 2, .tmp 3]) Try.func33 rfl rfl 33 [(0, .d (ints l))] rfl (by simp) rfl ?_
 refine JA fun K0 hK0 => ?_
 refine Qz F_mixed [some 2, some 3] rfl ?_
 simp only [zzK, QR, QP, QQ, JB, zz6, QO, ↓Qb]
 refine hK0 _ ?_; try clear hK0 K0
 refine kpA [0] ?_
 refine JA fun K0 hK0 => ?_
 refine Qz F_mixed [some 4] rfl ?_
 simp only [zzK, QR, QP, QQ, JB, zz6, QO, ↓Qb]
 refine hK0 _ ?_; try clear hK0 K0
 refine kpA [0, 4] ?_
 refine JA fun K0 hK0 => ?_
 refine JA fun K1 hK1 => ?_
 refine Qz F_mixed [some 5] rfl ?_
 simp only [zzK, QR, QP, QQ, JB, zz6, QO, ↓Qb]
 refine hK1 _ ?_; try clear hK1 K1
 refine kpA [0, 4, 5] ?_
 refine JH ?_
 refine JL (fun m s => ∃ pre post : List Int, l = pre ++ post ∧ m = post.length ∧ s = S 33 [(0, .d (ints l)), (4, .ref 4 pre.length), (5, .d (iv pre.length))] [(4, grow 77 2 4 (pre.map wideC))]) l.length _ (le_SK id [4] rfl (l' := [(0, .d (ints l)), (4, .ref 4 ([] : List Int).length), (5, .d (iv ([] : List Int).length))]) (m' := [(4, grow 77 2 4 (([] : List Int).map wideC))]) ?_ ?_ ?_ ?_) ⟨[], l, rfl, rfl, rfl⟩ ?_
 ·simp only [leV, JD, QQ, Qd, Qc]; exact ⟨VLe.data_ _, VLe.nil_ (by decide), VLe.data_ _, trivial⟩
 ·simp [leR, grow]
 ·simp [wfV, QY, lookR]
 ·simp [wfR, grow]
 rintro m s ⟨pre, post, rfl, rfl, rfl⟩
 refine JA fun K2 hK2 => ?_
 refine JA fun K3 hK3 => ?_
 refine Qz F_mixed [some 8, some 9, some 10, some 11] rfl ?_
 simp only [zzK, QR, QP, QQ, JC, JE, zz12, F_sl57, Option.isSome_some, zz21, JM, zz22, ints, JN, zz6, QO, ↓Qb]
 refine hK3 _ ?_; try clear hK3 K3
 refine kpA [0, 4, 5, 11] ?_
 refine cnA ?_ ?_
 ·intro hb
  obtain ⟨x, post, rfl⟩ := more_of hb; clear hb
  have hx := hall x (by simp)
  refine JI ?_
  simp only [zz6, QO, ↓Qb]
  refine hK2 _ ?_; try clear hK2 K2
  refine kpA [0, 4, 5] ?_
  refine JA fun K2 hK2 => ?_
  refine JH ?_
  refine Qz F_mixed [some 14, some 15, some 16, some 17, some 18, some 19, some 20, some 21, some 4] rfl ?_
  simp only [zzK, QR, QP, QQ, JC, JW, zz23, zz24, F_sl57, F_sz3, QA, zzC, yyE, Qe, F_ok3, F_ag3, zz8, zzD, QS, QN, zzH, JE, JF, F_sl75, F_zero77, F_sz77, zz3, JS, zz1, zzG, maxLen_le, QT, F_by77, zz4, zz9, QB, JB, ints, grow, wideA, wideC, getD_mid, JN, lt_mid, ge_mid, zz6, QO, ↓Qb]
  refine JT F_go48 (fun hG => Of_ x hx.1 hx.2) (by simp [QY, QX, wideA, wideC]) (by simp) ?_
  simp only [zzK, QR, QP, QQ, JC, JW, zz23, zz24, F_sl57, F_sz3, QA, zzC, yyE, Qe, F_ok3, F_ag3, zz8, zzD, QS, QN, zzH, JE, JF, F_sl75, F_zero77, F_sz77, zz3, JS, zz1, zzG, maxLen_le, QT, F_by77, zz4, zz9, QB, JB, ints, grow, wideA, wideC, getD_mid, JN, lt_mid, ge_mid, zz6, QO, ↓Qb, atsL, oksG, JV, QZ, Qa, JO, Qm, QT, QS, unDs_cons, QB, QA, S_mem, yyF, QF, zz2]
  have hm : pre.length + 1 ≤ 1000000 := by simp at hl; omega
  refine ⟨by rw [maxLen_le _ hm]; trivial, by omega, ?_⟩
  clear hm
  refine hK2 _ ?_; try clear hK2 K2
  refine kpA [0, 4, 5] ?_
  refine Qz F_mixed [some 12, some 13, some 5] rfl ?_
  simp only [zzK, QR, QP, QQ, JC, zz21, JM, zz26, JB, zz6, QO, ↓Qb]
  refine ⟨post.length, _, by simp, le_SK (fun _ => 21) [] rfl (l' := [(0, .d (ints (pre ++ x :: post))), (4, .ref 4 (pre ++ [x]).length), (5, .d (iv (pre ++ [x]).length))]) (m' := [(4, grow 77 2 4 ((pre ++ [x]).map wideC))]) ?_ ?_ ?_ ?_, pre ++ [x], post, by simp, rfl, rfl⟩
  ·simp only [leV, JD, QQ, Qd, Qc, ints, wrap_len pre x (by simp at hl; omega)]
   refine ⟨VLe.data_ _, ?_, VLe.data_ _, trivial⟩
   rw [show pre.length + 1 = (pre ++ [x]).length from by simp]; exact VLe.ref_ (f := fun _ => 21) (r := 4) (by simp)
  ·refine ⟨fun _ => ⟨_, rfl, Qw (by simp [wideC])⟩, fun h => by simp at h, trivial⟩
  ·simp [wfV, QY, lookR, grow]
  ·exact ⟨wf_data _ _, trivial⟩
 ·intro hb
  obtain rfl := none_of hb; clear hb
  simp only [QG] at hl hall ⊢
  have hfit := fits_small hall hl
  refine JK ?_
  simp only [zz6, QO, ↓Qb]
  refine hK0 _ ?_; try clear hK0 K0
  refine kpA [4] ?_
  refine JA fun K0 hK0 => ?_
  refine Qz F_mixed [some 23, some 24, some 22, some 25, some 26, some 6, none, some 7] rfl ?_
  simp only [zzK, QR, QP, QQ, JC, JE, JF, zz14, zzD, QS, QN, zz32, JS, F_zero77, zzC, QA, yyE, Qe, zzH, zz10, zz18, F_ok77, F_sz77, splice, QG, zz1, zzG, JB, wides, wideA, JN, grow, zz6, QO, ↓Qb]
  refine JT F_go49 (fun hG => WSum_ pre hl (fun x hx => ⟨by have := (hall x hx).1; omega, by have := (hall x hx).2; omega⟩)) (by simp [QY, QX, wideA]) (by simp) ?_
  simp only [zzK, QR, QP, QQ, JC, JE, JF, zz14, zzD, QS, QN, zz32, JS, F_zero77, zzC, QA, yyE, Qe, zzH, zz10, zz18, F_ok77, F_sz77, splice, QG, zz1, zzG, JB, wides, wideA, JN, grow, zz6, QO, ↓Qb, atsL, oksG, JV, QZ, Qa, JO, Qm, QT, QS, zz9, QB, QA, S_mem, yyF, QF, zz2]
  refine hK0 _ ?_; try clear hK0 K0
  refine kpA [6, 7] ?_
  refine JA fun K0 hK0 => ?_
  refine JA fun K1 hK1 => ?_
  refine Qz F_mixed [some 27, some 28] rfl ?_
  simp only [zzK, QR, QP, QQ, JC, zz29, JM, zz30, zz6, QO, ↓Qb]
  refine hK1 _ ?_; try clear hK1 K1
  refine kpA [6, 28] ?_
  refine cnA ?_ ?_
  ·intro hb
   simp [hfit] at hb
  ·intro hb
   clear hb
   refine JI ?_
   simp only [zz6, QO, ↓Qb]
   refine hK0 _ ?_; try clear hK0 K0
   refine kpA [6] ?_
   refine JA fun K0 hK0 => ?_
   refine Qz F_mixed [some 29, some 30, some 31, some 32, some 2, some 3] rfl ?_
   simp only [zzK, QR, QP, QQ, F_ok77, F_ag77, F_sz77, zz8, zz23, zzD, QS, QN, zzH, zzC, QA, yyE, Qe, JE, JF, zz14, JB, hfit, wideC, wideA, QW, zz6, QO, ↓Qb]
   refine JT F_go50 (fun hG => Int_ pre.sum) (by simp [QY, QX, wideC, wideA]) (by simp) ?_
   simp only [zzK, QR, QP, QQ, F_ok77, F_ag77, F_sz77, zz8, zz23, zzD, QS, QN, zzH, zzC, QA, yyE, Qe, JE, JF, zz14, JB, hfit, wideC, wideA, QW, zz6, QO, ↓Qb, atsL, oksG, JV, QZ, Qa, JO, Qm, QT, QS, zz9, QB, QA, S_mem, yyF, QF, zz2]
   refine hK0 _ ?_; try clear hK0 K0
   refine kpA [2, 3] ?_
   refine JJ ?_
   simp only [zz6, QO, ↓Qb]
   refine dnA ?_
   simp only [QD, QE, resA, JZ, QR, QP, JD, QQ, Qd, Qc, JP]
   simp only [QG]
theorem rMay_ (l : List LegV) (hl : l.length ≤ 1000000) : ACalls Try.prog 40 [legs l] [] (bv (l.all legOk)) := by
 refine acalls_S (rs := [.tmp 2]) Try.func40 rfl rfl 26 [(0, .d (legs l))] rfl (by simp) rfl ?_
 refine JA fun K0 hK0 => ?_
 refine Qz F_mixed [some 2] rfl ?_
 simp only [zzK, QR, QP, QQ, JB, zz6, QO, ↓Qb]
 refine hK0 _ ?_; try clear hK0 K0
 refine kpA [0] ?_
 refine JA fun K0 hK0 => ?_
 refine JA fun K1 hK1 => ?_
 refine Qz F_mixed [some 3] rfl ?_
 simp only [zzK, QR, QP, QQ, JB, zz6, QO, ↓Qb]
 refine hK1 _ ?_; try clear hK1 K1
 refine kpA [0, 3] ?_
 refine JH ?_
 refine JL (fun m s => ∃ pre post : List LegV, l = pre ++ post ∧ pre.all legOk = true ∧ m = post.length ∧ s = S 26 [(0, .d (legs l)), (3, .d (iv pre.length))] []) l.length _ (le_SK id [] rfl (l' := [(0, .d (legs l)), (3, .d (iv ([] : List LegV).length))]) (m' := []) ?_ ?_ ?_ ?_) ⟨[], l, rfl, rfl, rfl, rfl⟩ ?_
 ·simp only [leV, JD, QQ, Qd, Qc, legs, JN]; exact ⟨Qn _, Qn _, trivial⟩
 ·exact trivial
 ·simp [wfV, QY, QX, lookR]
 ·simp [wfR, QX, QY]
 rintro m s ⟨pre, post, rfl, hp, rfl, rfl⟩
 refine JA fun K2 hK2 => ?_
 refine JA fun K3 hK3 => ?_
 refine Qz F_mixed [some 4, some 5, some 6, some 7] rfl ?_
 simp only [zzK, QR, QP, QQ, JC, JE, zz12, F_sl39, Option.isSome_some, zz21, JM, zz22, legs, JN, zz6, QO, ↓Qb]
 refine hK3 _ ?_; try clear hK3 K3
 refine kpA [0, 3, 7] ?_
 refine cnA ?_ ?_
 ·intro hb
  obtain ⟨x, post, rfl⟩ := more_of hb; clear hb
  refine JI ?_
  simp only [zz6, QO, ↓Qb]
  refine hK2 _ ?_; try clear hK2 K2
  refine kpA [0, 3] ?_
  refine JA fun K2 hK2 => ?_
  refine JH ?_
  refine JA fun K3 hK3 => ?_
  refine Qz F_mixed [some 10, some 11, some 12, some 13, some 14, some 15, some 16, some 17, some 18, some 19, some 20, some 21, some 22, some 23, some 24, some 25] rfl ?_
  simp only [zzK, QR, QP, QQ, QU, JZ, zz5, Qj, Qi, Qh, JC, JW, zz23, zz24, F_sl39, F_sz50, QA, zzC, yyE, Qe, zz19, F_off50_0, zzH, QN, QS, F_ok48, F_ag48, F_sz48, zz8, zzD, JE, JF, zz29, JM, zz30, F_off50_1, F_ok3, F_ag3, F_sz3, zz13, JQ, JR, legs, legC, acC, getD_mid, JN, lt_mid, ge_mid, QW, zz6, QO, ↓Qb]
  refine JT F_go37 (fun hG => rAcRight_ x.ac) (by simp [QY, QX]) (by simp) ?_
  simp only [zzK, QR, QP, QQ, QU, JZ, zz5, Qj, Qi, Qh, JC, JW, zz23, zz24, F_sl39, F_sz50, QA, zzC, yyE, Qe, zz19, F_off50_0, zzH, QN, QS, F_ok48, F_ag48, F_sz48, zz8, zzD, JE, JF, zz29, JM, zz30, F_off50_1, F_ok3, F_ag3, F_sz3, zz13, JQ, JR, legs, legC, acC, getD_mid, JN, lt_mid, ge_mid, QW, zz6, QO, ↓Qb, atsL, oksG, JV, QZ, Qa, JO, Qm, QT, QS, zz9, QB, QA, S_mem, yyF, QF, zz2]
  refine JT F_go47 (fun hG => rRight_ x.amt) (by simp [QY, QX]) (by simp) ?_
  simp only [zzK, QR, QP, QQ, QU, JZ, zz5, Qj, Qi, Qh, JC, JW, zz23, zz24, F_sl39, F_sz50, QA, zzC, yyE, Qe, zz19, F_off50_0, zzH, QN, QS, F_ok48, F_ag48, F_sz48, zz8, zzD, JE, JF, zz29, JM, zz30, F_off50_1, F_ok3, F_ag3, F_sz3, zz13, JQ, JR, legs, legC, acC, getD_mid, JN, lt_mid, ge_mid, QW, zz6, QO, ↓Qb, atsL, oksG, JV, QZ, Qa, JO, Qm, QT, QS, zz9, QB, QA, S_mem, yyF, QF, zz2]
  refine hK3 _ ?_; try clear hK3 K3
  refine kpA [0, 3, 25] ?_
  refine cnA ?_ ?_
  ·intro hb
   have hq : legOk x = false := by
    simp only [legOk]
    cases h1 : acOk x.ac <;> cases h2 : rightN x.amt <;> simp [h1, h2] at hb ⊢
   try clear hb
   refine JA fun K4 hK4 => ?_
   refine Qz F_mixed [some 2] rfl ?_
   simp only [zzK, QR, QP, QQ, JB, zz6, QO, ↓Qb]
   refine hK4 _ ?_; try clear hK4 K4
   refine kpA [2] ?_
   refine JJ ?_
   simp only [zz6, QO, ↓Qb]
   refine dnA ?_
   simp only [QD, QE, resA, JZ, QR, QP, JD, QQ, Qd, Qc, JP]
   simp [hq]
  ·intro hb
   have hq : legOk x = true := by
    simp only [legOk]
    cases h1 : acOk x.ac <;> cases h2 : rightN x.amt <;> simp [h1, h2] at hb ⊢
   clear hb
   refine JI ?_
   simp only [zz6, QO, ↓Qb]
   refine hK2 _ ?_; try clear hK2 K2
   refine kpA [0, 3] ?_
   refine Qz F_mixed [some 8, some 9, some 3] rfl ?_
   simp only [zzK, QR, QP, QQ, JC, zz21, JM, zz26, JB, zz6, QO, ↓Qb]
   refine ⟨post.length, _, by simp, le_SK id [] rfl (l' := [(0, .d (legs (pre ++ x :: post))), (3, .d (iv (pre ++ [x]).length))]) (m' := []) ?_ ?_ ?_ ?_, pre ++ [x], post, by simp, by simp [hp, hq], rfl, rfl⟩
   ·simp only [leV, JD, QQ, Qd, Qc, legs, JN, wrap_len pre x (by simp at hl; omega)]; exact ⟨Qn _, Qn _, trivial⟩
   ·exact trivial
   ·simp [wfV, QY, QX, lookR]
   ·simp [wfR, QX, QY]
 ·intro hb
  obtain rfl := none_of hb; clear hb
  refine JK ?_
  simp only [zz6, QO, ↓Qb]
  refine hK0 _ ?_; try clear hK0 K0
  refine kpA [] ?_
  refine JA fun K0 hK0 => ?_
  refine Qz F_mixed [some 2] rfl ?_
  simp only [zzK, QR, QP, QQ, JB, zz6, QO, ↓Qb]
  refine hK0 _ ?_; try clear hK0 K0
  refine kpA [2] ?_
  refine JJ ?_
  simp only [zz6, QO, ↓Qb]
  refine dnA ?_
  simp only [QD, QE, resA, JZ, QR, QP, JD, QQ, Qd, Qc, JP]
  simp [hp]
theorem rCheck_ (l : List LegV) (hl : l.length ≤ 1000000) : ACalls Try.prog 20 [legs l] [] (.d (iv (chkE l))) := by
 refine acalls_S (rs := [.tmp 2]) Try.func20 rfl rfl 54 [(0, .d (legs l))] rfl (by simp) rfl ?_
 refine JA fun K0 hK0 => ?_
 refine Qz F_mixed [some 2] rfl ?_
 simp only [zzK, QR, QP, QQ, JB, zz6, QO, ↓Qb]
 refine hK0 _ ?_; try clear hK0 K0
 refine kpA [0] ?_
 refine JA fun K0 hK0 => ?_
 refine JA fun K1 hK1 => ?_
 refine Qz F_mixed [some 8, some 9, some 10] rfl ?_
 simp only [zzK, QR, QP, QQ, JC, JE, zz12, F_sl39, Option.isSome_some, zz21, JM, zz34, legs, JN, zz6, QO, ↓Qb]
 refine hK1 _ ?_; try clear hK1 K1
 refine kpA [0, 10] ?_
 refine cnA ?_ ?_
 ·intro hb
  have e : chkE l = 2 := by rw [chkE, hb]; try rfl
  refine JA fun K2 hK2 => ?_
  refine Qz F_mixed [some 2] rfl ?_
  simp only [zzK, QR, QP, QQ, JB, zz6, QO, ↓Qb]
  refine hK2 _ ?_; try clear hK2 K2
  refine kpA [2] ?_
  refine JJ ?_
  simp only [zz6, QO, ↓Qb]
  refine dnA ?_
  simp only [QD, QE, resA, JZ, QR, QP, JD, QQ, Qd, Qc, JP]
  rw [e]
 ·intro hb
  have h1 : ((l.length : Int) == 0) = false := hb
  clear hb
  refine JI ?_
  simp only [zz6, QO, ↓Qb]
  refine hK0 _ ?_; try clear hK0 K0
  refine kpA [0] ?_
  refine JA fun K0 hK0 => ?_
  refine JA fun K1 hK1 => ?_
  refine Qz F_mixed [some 11, some 12, some 13] rfl ?_
  simp only [zzK, QR, QP, QQ, JC, JE, zz12, F_sl39, Option.isSome_some, zz21, JM, zz25, legs, JN, zz6, QO, ↓Qb]
  refine hK1 _ ?_; try clear hK1 K1
  refine kpA [0, 13] ?_
  refine cnA ?_ ?_
  ·intro hb
   have e : chkE l = 5 := by rw [chkE, h1, hb]; rfl
   refine JA fun K2 hK2 => ?_
   refine Qz F_mixed [some 2] rfl ?_
   simp only [zzK, QR, QP, QQ, JB, zz6, QO, ↓Qb]
   refine hK2 _ ?_; try clear hK2 K2
   refine kpA [2] ?_
   refine JJ ?_
   simp only [zz6, QO, ↓Qb]
   refine dnA ?_
   simp only [QD, QE, resA, JZ, QR, QP, JD, QQ, Qd, Qc, JP]
   rw [e]
  ·intro hb
   have h2 : decide ((l.length : Int) > 64) = false := hb
   clear hb
   refine JI ?_
   simp only [zz6, QO, ↓Qb]
   refine hK0 _ ?_; try clear hK0 K0
   refine kpA [0] ?_
   refine JA fun K0 hK0 => ?_
   refine JA fun K1 hK1 => ?_
   refine Qz F_mixed [some 14, some 15, some 16] rfl ?_
   simp only [zzK, QR, QP, QQ, JC, JE, JF, zz29, JM, zz30, legs, zz6, QO, ↓Qb]
   refine JT F_go40 (fun hG => rMay_ l hl) (by simp [QY, QX]) (by simp) ?_
   simp only [zzK, QR, QP, QQ, JC, JE, JF, zz29, JM, zz30, legs, zz6, QO, ↓Qb, atsL, oksG, JV, QZ, Qa, JO, Qm, QT, QS, zz9, QB, QA, zzC, yyF, zzD, zz2]
   refine hK1 _ ?_; try clear hK1 K1
   refine kpA [0, 16] ?_
   refine cnA ?_ ?_
   ·intro hb
    have h3 : l.all legOk = false := by simpa using hb
    have e : chkE l = 3 := by rw [chkE, h1, h2, h3]; rfl
    refine JA fun K2 hK2 => ?_
    refine Qz F_mixed [some 2] rfl ?_
    simp only [zzK, QR, QP, QQ, JB, zz6, QO, ↓Qb]
    refine hK2 _ ?_; try clear hK2 K2
    refine kpA [2] ?_
    refine JJ ?_
    simp only [zz6, QO, ↓Qb]
    refine dnA ?_
    simp only [QD, QE, resA, JZ, QR, QP, JD, QQ, Qd, Qc, JP]
    rw [e]
   ·intro hb
    have h3 : l.all legOk = true := by simpa using hb
    clear hb
    refine JI ?_
    simp only [zz6, QO, ↓Qb]
    refine hK0 _ ?_; try clear hK0 K0
    refine kpA [0] ?_
    refine JA fun K0 hK0 => ?_
    refine JA fun K1 hK1 => ?_
    refine Qz F_mixed [some 3] rfl ?_
    simp only [zzK, QR, QP, QQ, JB, zz6, QO, ↓Qb]
    refine hK1 _ ?_; try clear hK1 K1
    refine kpA [0, 3] ?_
    refine JH ?_
    refine JL (fun m s => ∃ c : Nat, c ≤ 3 ∧ (∀ k : Nat, k < c → chkC (k : Int) l = false) ∧ m = 3 - c ∧ s = S 54 [(0, .d (legs l)), (3, .d (iv c))] []) 3 _ (le_SK id [] rfl (l' := [(0, .d (legs l)), (3, .d (iv ((0 : Nat) : Int)))]) (m' := []) ?_ ?_ ?_ ?_) ⟨0, by omega, fun k hk => by omega, rfl, rfl⟩ ?_
    ·simp only [leV, JD, QQ, Qd, Qc, legs]; exact ⟨Qn _, Qn _, trivial⟩
    ·trivial
    ·simp [wfV, QY, lookR]
    ·trivial
    rintro m s ⟨c, hc3, hck, rfl, rfl⟩
    refine JA fun K2 hK2 => ?_
    refine JA fun K3 hK3 => ?_
    refine Qz F_mixed [some 17, some 18] rfl ?_
    simp only [zzK, QR, QP, QQ, JC, zz21, JM, zz22, zz6, QO, ↓Qb]
    refine hK3 _ ?_; try clear hK3 K3
    refine kpA [0, 3, 18] ?_
    refine cnA ?_ ?_
    ·intro hb
     have hlt : c < 3 := by have := Qg hb; omega
     clear hb
     have hwc : Ql .i64 ((c : Int) + 1) = ((c + 1 : Nat) : Int) := by rw [wrapI (by omega) (by omega)]; try omega
     refine JI ?_
     simp only [zz6, QO, ↓Qb]
     refine hK2 _ ?_; try clear hK2 K2
     refine kpA [0, 3] ?_
     refine JA fun K2 hK2 => ?_
     refine JH ?_
     refine JA fun K3 hK3 => ?_
     refine Qz F_mixed [some 4] rfl ?_
     simp only [zzK, QR, QP, QQ, JB, zz6, QO, ↓Qb]
     refine hK3 _ ?_; try clear hK3 K3
     refine kpA [0, 3, 4] ?_
     refine JA fun K3 hK3 => ?_
     refine JA fun K4 hK4 => ?_
     refine Qz F_mixed [some 5] rfl ?_
     simp only [zzK, QR, QP, QQ, JB, zz6, QO, ↓Qb]
     refine hK4 _ ?_; try clear hK4 K4
     refine kpA [0, 3, 4, 5] ?_
     refine JH ?_
     refine JL (fun m s => ∃ pre post : List LegV, l = pre ++ post ∧ m = post.length ∧ s = S 54 [(0, .d (legs l)), (3, .d (iv c)), (4, .ref 4 (amts (curL (c : Int) pre)).length), (5, .d (iv (pre).length))] [(4, grow 3 1 4 ((amts (curL (c : Int) pre)).map fun n => [iv n]))]) l.length _ (le_SK id [4] rfl (l' := [(0, .d (legs l)), (3, .d (iv c)), (4, .ref 4 (amts (curL (c : Int) ([] : List LegV))).length), (5, .d (iv (([] : List LegV)).length))]) (m' := [(4, grow 3 1 4 ((amts (curL (c : Int) ([] : List LegV))).map fun n => [iv n]))]) ?_ ?_ ?_ ?_) ⟨[], l, rfl, rfl, rfl⟩ ?_
     ·simp only [leV, JD, QQ, Qd, Qc, legs, JN]; exact ⟨Qo rfl, Qo rfl, VLe.nil_ (by decide), Qo rfl, trivial⟩
     ·exact ⟨fun h => by simp at h, fun _ => rfl, trivial⟩
     ·simp [wfV, QY, lookR]
     ·simp [wfR, grow, amts, curL, QX, QY]
     rintro m s ⟨pre, post, hsp, rfl, rfl⟩
     have hspl := congrArg List.length hsp
     simp only [QC] at hspl
     refine JA fun K5 hK5 => ?_
     refine JA fun K6 hK6 => ?_
     refine Qz F_mixed [some 21, some 22, some 23, some 24] rfl ?_
     simp only [zzK, QR, QP, QQ, JC, JE, zz12, F_sl39, Option.isSome_some, zz21, JM, zz22, legs, JN, zz6, QO, ↓Qb]
     refine hK6 _ ?_; try clear hK6 K6
     refine kpA [0, 3, 4, 5, 24] ?_
     refine cnA ?_ ?_
     ·intro hb
      obtain ⟨x, post, rfl⟩ : ∃ x t, post = x :: t := by
       cases post with
       | nil => have := Qg hb; simp at hspl; omega
       | cons x t => exact ⟨x, t, rfl⟩
      clear hb
      simp only [QF] at hspl
      have gx : (l.map legC).getD pre.length [] = [iv x.ac.kind, iv x.ac.who, iv x.ac.cur, iv x.amt] := by
       rw [hsp, List.map_append]; exact gd_mid' (A := pre.map legC) _ _ (by simp)
      have b1 := ltI (show pre.length < l.length by omega)
      have hwi : Ql .i64 ((pre.length : Int) + 1) = ((pre.length + 1 : Nat) : Int) := by rw [wrapI (by omega) (by omega)]; try omega
      have hcf : (curL (c : Int) pre).length ≤ pre.length := List.length_filter_le _ _
      have hca : (amts (curL (c : Int) pre)).length = (curL (c : Int) pre).length := by simp [amts]
      refine JI ?_
      simp only [zz6, QO, ↓Qb]
      refine hK5 _ ?_; try clear hK5 K5
      refine kpA [0, 3, 4, 5] ?_
      refine JA fun K5 hK5 => ?_
      refine JH ?_
      refine JA fun K6 hK6 => ?_
      refine Qz F_mixed [some 27, some 28, some 29, some 30, some 31, some 32, some 33, some 34] rfl ?_
      simp only [zzK, QR, QP, QQ, JC, JW, zz23, zz24, F_sl39, F_sz50, QA, zzC, yyE, Qe, zz19, F_off50_0, zzH, QN, QS, F_off48_2, F_ok3, F_ag3, F_sz3, zz8, zzD, zz21, JM, zz34, legs, legC, JN, gx, b1, ge0, QV, QW, zz6, QO, ↓Qb]
      refine hK6 _ ?_; try clear hK6 K6
      refine kpA [0, 3, 4, 5, 34] ?_
      refine cnA ?_ ?_
      ·intro hb
       have hcq : (x.ac.cur == (c : Int)) = true := hb
       clear hb
       have hcx : curL (c : Int) (pre ++ [x]) = curL (c : Int) pre ++ [x] := by simp only [curL, List.filter_append, List.filter_cons, hcq, List.filter_nil, if_true]
       have hcl : (amts (curL (c : Int) pre ++ [x])).length = (amts (curL (c : Int) pre)).length + 1 := by simp [amts]
       refine Qz F_mixed [some 35, some 36, some 37, some 38, some 39, some 40, some 41, some 42, some 4] rfl ?_
       simp only [zzK, QR, QP, QQ, JC, JW, zz23, zz24, F_sl39, F_sz50, QA, zzC, yyE, Qe, zz19, F_off50_1, zzH, QN, QS, F_ok3, F_ag3, F_sz3, zz8, zzD, F_sl57, F_zero3, zz3, JS, zz1, zzG, maxLen_le, QT, JE, F_by3, zz4, zz9, QB, JB, legs, JN, gx, b1, ge0, QV, QW, grow, unDs_map, zz6, QO, ↓Qb]
       have hm : (amts (curL (c : Int) pre)).length + 1 ≤ 1000000 := by omega
       first | refine ⟨le_maxLen hm, by omega, ?_⟩ | refine ⟨by simp [amts], le_maxLen hm, by omega, ?_⟩
       clear hm
       refine hK5 _ ?_; try clear hK5 K5
       refine kpA [0, 3, 4, 5] ?_
       refine Qz F_mixed [some 25, some 26, some 5] rfl ?_
       simp only [zzK, QR, QP, QQ, JC, zz21, JM, zz26, JB, zz6, QO, ↓Qb]
       refine ⟨post.length, _, by simp, le_SK (fun r => bif r == 4 then 42 else r) [] rfl (l' := [(0, .d (legs l)), (3, .d (iv c)), (4, .ref 4 (amts (curL (c : Int) (pre ++ [x]))).length), (5, .d (iv ((pre ++ [x])).length))]) (m' := [(4, grow 3 1 4 ((amts (curL (c : Int) (pre ++ [x]))).map fun n => [iv n]))]) ?_ ?_ ?_ ?_, pre ++ [x], post, by rw [hsp]; simp, rfl, rfl⟩
       ·simp only [leV, JD, QQ, Qd, Qc, hwi, hcx, QC, QM]
        refine ⟨Qo rfl, Qo rfl, ?_, Qo rfl, trivial⟩
        rw [hcl]; exact VLe.ref_ (f := (fun r => bif r == 4 then 42 else r)) (r := 4) (by simp)
       ·exact ⟨fun _ => ⟨_, rfl, Qw (by rw [hcx] <;> simp [amts])⟩, fun h => by simp at h, trivial⟩
       ·simp [wfV, QY, lookR, grow]
       ·exact ⟨wf_data _ _, trivial⟩
      ·intro hb
       have hcq : (x.ac.cur == (c : Int)) = false := hb
       clear hb
       have hcx : curL (c : Int) (pre ++ [x]) = curL (c : Int) pre := by simp only [curL, List.filter_append, List.filter_cons, hcq, List.filter_nil, QG, Bool.false_eq_true, if_false]
       have hcl : (amts (curL (c : Int) pre)).length = (amts (curL (c : Int) pre)).length := rfl
       refine JI ?_
       simp only [zz6, QO, ↓Qb]
       refine hK5 _ ?_; try clear hK5 K5
       refine kpA [0, 3, 4, 5] ?_
       refine Qz F_mixed [some 25, some 26, some 5] rfl ?_
       simp only [zzK, QR, QP, QQ, JC, zz21, JM, zz26, JB, zz6, QO, ↓Qb]
       refine ⟨post.length, _, by simp, le_SK (fun r => bif r == 4 then 4 else r) [] rfl (l' := [(0, .d (legs l)), (3, .d (iv c)), (4, .ref 4 (amts (curL (c : Int) (pre ++ [x]))).length), (5, .d (iv ((pre ++ [x])).length))]) (m' := [(4, grow 3 1 4 ((amts (curL (c : Int) (pre ++ [x]))).map fun n => [iv n]))]) ?_ ?_ ?_ ?_, pre ++ [x], post, by rw [hsp]; simp, rfl, rfl⟩
       ·simp only [leV, JD, QQ, Qd, Qc, hwi, hcx, QC, QM]
        refine ⟨Qo rfl, Qo rfl, ?_, Qo rfl, trivial⟩
        rw [hcl]; exact VLe.ref_ (f := (fun r => bif r == 4 then 4 else r)) (r := 4) (by simp)
       ·exact ⟨fun _ => ⟨_, rfl, Qw (by rw [hcx] <;> simp [amts])⟩, fun h => by simp at h, trivial⟩
       ·simp [wfV, QY, lookR, grow]
       ·exact ⟨wf_data _ _, trivial⟩
     ·intro hb
      obtain rfl : post = [] := by
       cases post with
       | nil => rfl
       | cons x t => have := Qf hb; simp at hspl; omega
      clear hb
      simp only [QG] at hsp
      obtain rfl : l = pre := hsp
      have hcf : (curL (c : Int) l).length ≤ l.length := List.length_filter_le _ _
      have hca : (amts (curL (c : Int) l)).length = (curL (c : Int) l).length := by simp [amts]
      refine JK ?_
      simp only [zz6, QO, ↓Qb]
      refine hK3 _ ?_; try clear hK3 K3
      refine kpA [0, 3, 4] ?_
      refine JA fun K3 hK3 => ?_
      refine Qz F_mixed [some 44, some 45, some 43, some 46, some 47, some 6, some 7] rfl ?_
      simp only [zzK, QR, QP, QQ, JC, JE, JF, zz14, zzD, QS, QN, zzF, JB, ints, grow, D.sl.injEq, JN, zz6, QO, ↓Qb]
      refine JT F_go33 (fun hG => Add_ (amts (curL (c : Int) l)) (by omega) (rt_bound (amts_rt fun y hy => ok_rt h3 y (List.mem_filter.1 hy).1))) (by simp [QY, QX]) (by simp) ?_
      simp only [zzK, QR, QP, QQ, JC, JE, JF, zz14, zzD, QS, QN, zzF, JB, ints, grow, JN, zz6, QO, ↓Qb, atsL, oksG, JV, QZ, Qa, JO, Qm, QT, QS, zz9, QB, QA, zzC, yyF, QF, zz2]
      first | refine ⟨by simp [amts], ?_⟩ | skip
      refine hK3 _ ?_; try clear hK3 K3
      refine kpA [0, 3, 6, 7] ?_
      refine JA fun K3 hK3 => ?_
      refine Qz F_mixed [some 48, some 49, some 50, some 51, some 52, some 53] rfl ?_
      simp only [zzK, QR, QP, QQ, QU, JZ, zz5, Qj, Qi, Qh, and_self, JC, zz29, JM, zz30, zz21, zz28, zz13, JQ, JR, zz6, QO, ↓Qb]
      refine hK3 _ ?_; try clear hK3 K3
      refine kpA [0, 3, 53] ?_
      refine cnA ?_ ?_
      ·intro hb
       have hcc : chkC (c : Int) l = true := by
        rw [chkC_ref h3]
        revert hb
        cases rightN (amts (curL (c : Int) l)).sum <;> simp
       clear hb
       have e : chkE l = 12 := by
        rw [chkE, h1, h2, h3]
        have : c = 0 ∨ c = 1 ∨ c = 2 := by omega
        rcases this with rfl | rfl | rfl
        ·rw [show chkC 0 l = true from hcc]; rfl
        ·rw [show chkC 1 l = true from hcc]; cases chkC 0 l <;> rfl
        ·rw [show chkC 2 l = true from hcc]; cases chkC 0 l <;> cases chkC 1 l <;> rfl
       refine JA fun K4 hK4 => ?_
       refine Qz F_mixed [some 2] rfl ?_
       simp only [zzK, QR, QP, QQ, JB, zz6, QO, ↓Qb]
       refine hK4 _ ?_; try clear hK4 K4
       refine kpA [2] ?_
       refine JJ ?_
       simp only [zz6, QO, ↓Qb]
       refine dnA ?_
       simp only [QD, QE, resA, JZ, QR, QP, JD, QQ, Qd, Qc, JP]
       rw [e]
      ·intro hb
       have hcc : chkC (c : Int) l = false := by
        rw [chkC_ref h3]
        revert hb
        cases rightN (amts (curL (c : Int) l)).sum <;> simp
       clear hb
       refine JI ?_
       simp only [zz6, QO, ↓Qb]
       refine hK2 _ ?_; try clear hK2 K2
       refine kpA [0, 3] ?_
       refine Qz F_mixed [some 19, some 20, some 3] rfl ?_
       simp only [zzK, QR, QP, QQ, JC, zz21, JM, zz26, JB, hwc, zz6, QO, ↓Qb]
       refine ⟨3 - (c + 1), _, by omega, le_SK id [] rfl (l' := [(0, .d (legs l)), (3, .d (iv ((c + 1 : Nat) : Int)))]) (m' := []) ?_ ?_ ?_ ?_, c + 1, by omega, fun k hk => by
        rcases Nat.lt_succ_iff_lt_or_eq.1 hk with hk | rfl
        ·exact hck k hk
        ·exact hcc, rfl, rfl⟩
       ·simp only [leV, JD, QQ, Qd, Qc, hwc, legs]; exact ⟨Qn _, Qn _, trivial⟩
       ·trivial
       ·simp [wfV, QY, lookR]
       ·trivial
    ·intro hb
     obtain rfl : c = 3 := by have := Qf hb; omega
     clear hb
     have e : chkE l = 0 := by
      rw [chkE, h1, h2, h3, show chkC 0 l = false from hck 0 (by omega), show chkC 1 l = false from hck 1 (by omega), show chkC 2 l = false from hck 2 (by omega)]; rfl
     refine JK ?_
     simp only [zz6, QO, ↓Qb]
     refine hK0 _ ?_; try clear hK0 K0
     refine kpA [] ?_
     refine JA fun K0 hK0 => ?_
     refine Qz F_mixed [some 2] rfl ?_
     simp only [zzK, QR, QP, QQ, JB, zz6, QO, ↓Qb]
     refine hK0 _ ?_; try clear hK0 K0
     refine kpA [2] ?_
     refine JJ ?_
     simp only [zz6, QO, ↓Qb]
     refine dnA ?_
     simp only [QD, QE, resA, JZ, QR, QP, JD, QQ, Qd, Qc, JP]
     rw [e]
end Go.Proofs.Ytcpkhnciplfmkaa
namespace Go.Proofs.Ytcpkhnciplfmkaa
open Go.RowKit
set_option linter.unusedVariables false
set_option linter.unusedSimpArgs false
open Option renaming map_some → QA, bind_some → QB
open List renaming length_append → QC, map_cons → QD, map_nil → QE, length_cons → QF, append_nil → QG
open Nat renaming zero_add → QN, reduceEqDiff → QO, reduceLeDiff → QP, reduceBEq → QQ, reduceLT → QR, reduceAdd → QS, reduceMul → QT, reduceSub → QU
open Int renaming toNat_natCast → QV
open D.agg renaming injEq → QW
open AV renaming idsL → QX, ids → QY, ren → QZ, renL → Qa
open _root_ renaming reduceIte → Qb, cond_false → Qc, cond_true → Qd, reduceCtorEq → Qe, of_decide_eq_false → Qf, of_decide_eq_true → Qg, imp_self → Qh, imp_and → Qi, and_imp → Qj
open IntKind renaming wrap → Ql
open ORow renaming row → Qm
open VLe renaming refl → Qn, still → Qo, nild_ → Qp, nil_ → Qq, refE → Qr, ptrE → Qs, dE → Qt
open Go.Proofs.Ytcpkhnciplfmkaa renaming awp_plain → Qz, awp_seq → JA, evS_assign → JB, evS_move → JC, look_cons → JD, evS_call → JE, evC_value → JF, awp_block → JH, awp_skip → JI, awp_ret → JJ, gr_v → JM, len_map → JN, addRows → JO, resAll → JP, pickK_l → JQ, pickK_r → JR, newRow1 → JS, call_go → JT, freeN → JV, evS_indexAddr → JW, S_getD → JZ, flatD → Jc
theorem F_bld48 : bldT Try.prog 48 = true := by kernel_rfl
theorem F_fld48_0 : fldT Try.prog 48 0 = some (0, 1) := by kernel_rfl
theorem F_fld48_1 : fldT Try.prog 48 1 = some (1, 1) := by kernel_rfl
theorem F_fld48_2 : fldT Try.prog 48 2 = some (2, 1) := by kernel_rfl
theorem F_go36 : goFn Try.prog 36 := ⟨_, Try.func36, rfl, rfl⟩
theorem F_go16 : goFn Try.prog 16 := ⟨_, Try.func16, rfl, rfl⟩
theorem F_go9 : goFn Try.prog 9 := ⟨_, Try.func9, rfl, rfl⟩
theorem F_go20 : goFn Try.prog 20 := ⟨_, Try.func20, rfl, rfl⟩
set_option maxRecDepth 100000 in
set_option maxHeartbeats 4000000 in
theorem nLegs_ (l : List LegV) (hk : K2 l) (hl : l.length ≤ 400000) : ACalls Try.prog 16 [dues l] [⟨50, 4, (nlV l).map legC⟩] (.tp [.ref 0 (nlV l).length, .d (iv (nlR l))]) := by
 refine acalls_S (rs := [.tmp 2, .tmp 3]) Try.func16 rfl rfl 72 [(0, .d (dues l))] rfl (by simp) rfl ?_
 refine JA fun K0 hK0 => ?_
 refine Qz F_mixed [some 2, some 3] rfl ?_
 simp only [zzK, QR, QP, QQ, JB, zz6, QO, ↓Qb]
 refine hK0 _ ?_; try clear hK0 K0
 refine kpA [0] ?_
 refine JA fun K0 hK0 => ?_
 refine JA fun K1 hK1 => ?_
 refine Qz F_mixed [some 11, some 12, some 13] rfl ?_
 simp only [zzK, QR, QP, QQ, JC, JE, zz12, F_sl22, Option.isSome_some, dues, JN, zz6, QO, ↓Qb]
 refine hK1 _ ?_; try clear hK1 K1
 refine kpA [0, 11, 12, 13] ?_
 refine JH ?_
 refine awp_loop (fun m s => ∃ (pre : List LegV) (post : List LegV), (l = pre ++ post) ∧ (pre.all legOk = true) ∧ m = post.length ∧ s = S 72 [(0, .d (dues l)), (11, .d (dues l)), (12, .d (iv l.length)), (13, .d (iv pre.length))] []) (l.length) _ (le_SK id [] rfl (l' := [(0, .d (dues l)), (11, .d (dues l)), (12, .d (iv l.length)), (13, .d (iv [].length))]) (m' := []) ?_ ?_ ?_ ?_) ⟨[], l, rfl, rfl, rfl, rfl⟩ ?_
 ·simp only [leV, JD, QQ, Qd, Qc]; exact ⟨(by first | exact Qo rfl | exact Qq (by decide) | exact Qp | exact Qn _ | exact Qs (by simp) (by rfl) | exact Qr (by simp) (by rfl) (by first | rfl | (simp; done) | (simp; omega)) | exact Qt (by first | rfl | simp)), (by first | exact Qo rfl | exact Qq (by decide) | exact Qp | exact Qn _ | exact Qs (by simp) (by rfl) | exact Qr (by simp) (by rfl) (by first | rfl | (simp; done) | (simp; omega)) | exact Qt (by first | rfl | simp)), (by first | exact Qo rfl | exact Qq (by decide) | exact Qp | exact Qn _ | exact Qs (by simp) (by rfl) | exact Qr (by simp) (by rfl) (by first | rfl | (simp; done) | (simp; omega)) | exact Qt (by first | rfl | simp)), (by first | exact Qo rfl | exact Qq (by decide) | exact Qp | exact Qn _ | exact Qs (by simp) (by rfl) | exact Qr (by simp) (by rfl) (by first | rfl | (simp; done) | (simp; omega)) | exact Qt (by first | rfl | simp)), trivial⟩
 ·exact trivial
 ·simp [wfV, QY, QX, lookR, grow]
 ·simp [wfR]
 rintro m s ⟨pre, post, hsp, hpa, rfl, rfl⟩
 have hspl := congrArg List.length hsp
 simp only [QC] at hspl
 refine JA fun K2 hK2 => ?_
 refine Qz F_mixed [some 14] rfl ?_
 simp only [zzK, QR, QP, QQ, zz21, JM, zz22, zz6, QO, ↓Qb]
 refine hK2 _ ?_; try clear hK2 K2
 refine kpA [0, 11, 12, 13, 14] ?_
 refine JA fun K2 hK2 => ?_
 refine cnA ?_ ?_
 ·intro hb
  obtain ⟨x, post2, rfl⟩ : ∃ x t, post = x :: t := by
   cases post with
   | nil => have := Qg hb; simp at hspl; omega
   | cons x t => exact ⟨x, t, rfl⟩
  clear hb
  simp only [QF] at hspl
  have gx : (l.map dueC).getD pre.length [] = [iv x.ac.who, iv x.ac.cur, iv x.amt] := by
   rw [hsp, List.map_append]; exact gd_mid' (A := pre.map dueC) _ _ (by simp)
  have bx := ltI (show pre.length < l.length by omega)
  have hwx : Ql .i64 ((pre.length : Int) + 1) = ((pre ++ [x]).length : Int) := by rw [wrapI (by omega) (by omega)]; simp
  have hxk := hk x (by rw [hsp]; simp)
  refine JI ?_
  simp only [zz6, QO, ↓Qb]
  refine hK2 _ ?_; try clear hK2 K2
  refine kpA [0, 11, 12, 13] ?_
  refine JA fun K2 hK2 => ?_
  refine JH ?_
  refine JA fun K3 hK3 => ?_
  refine Qz F_mixed [some 15, some 16, some 5, none] rfl ?_
  simp only [zzK, QR, QP, QQ, JW, zz23, zz24, F_sl22, F_sz30, QA, zzC, yyE, Qe, F_ok30, F_ag30, zz8, zzD, QS, QN, zzH, zz32, JS, F_zero30, zz10, zz18, splice, QG, zz1, zzG, dues, gx, bx, hwx, JN, ge0, QV, QW, zz6, QO, ↓Qb]
  refine hK3 _ ?_; try clear hK3 K3
  refine kpA [0, 5, 11, 12, 13] ?_
  refine JA fun K3 hK3 => ?_
  refine Qz F_mixed [some 17, some 18, some 19, some 20, some 21, some 22, some 23, some 24, some 25, some 26, some 27, some 28, some 29, some 30] rfl ?_
  simp only [zzK, QR, QP, QQ, QU, JZ, zz5, Qj, Qi, Qh, zz19, zz23, F_off30_0, zzH, QN, QS, F_ok3, F_ag3, F_sz3, zz8, zzD, zzC, QA, yyE, Qe, F_off30_1, F_zero48, F_bld48, zz7, splice, Option.getD_some, QG, zz1, zzG, zz10, F_fld48_0, F_fld48_1, F_fld48_2, JE, JF, zz29, JM, zz30, JC, F_off30_2, F_sl57, F_zero3, zz3, JS, maxLen_le, QT, zz13, JQ, JR, acC, hxk, ints, QD, D.sl.injEq, QW, zz6, QO, ↓Qb]
  refine JT F_go34 (fun hG => acRight_ x.ac) (by simp [QY, QX]) (by simp) ?_
  simp only [zzK, QR, QP, QQ, QU, JZ, zz5, Qj, Qi, Qh, zz19, zz23, F_off30_0, zzH, QN, QS, F_ok3, F_ag3, F_sz3, zz8, zzD, zzC, QA, yyE, Qe, F_off30_1, F_zero48, F_bld48, zz7, splice, Option.getD_some, QG, zz1, zzG, zz10, F_fld48_0, F_fld48_1, F_fld48_2, JE, JF, zz29, JM, zz30, JC, F_off30_2, F_sl57, F_zero3, zz3, JS, maxLen_le, QT, zz13, JQ, JR, acC, hxk, ints, QD, QW, zz6, QO, ↓Qb, atsL, oksG, JV, QZ, Qa, JO, Qm, QT, QS, zz9, QB, QA, S_mem, yyF, QF, zz2]
  refine JT F_go35 (fun hG => Right_ [x.amt] (by simp)) (by simp [QY, QX]) (by simp) ?_
  simp only [zzK, QR, QP, QQ, QU, JZ, zz5, Qj, Qi, Qh, zz19, zz23, F_off30_0, zzH, QN, QS, F_ok3, F_ag3, F_sz3, zz8, zzD, zzC, QA, yyE, Qe, F_off30_1, F_zero48, F_bld48, zz7, splice, Option.getD_some, QG, zz1, zzG, zz10, F_fld48_0, F_fld48_1, F_fld48_2, JE, JF, zz29, JM, zz30, JC, F_off30_2, F_sl57, F_zero3, zz3, JS, maxLen_le, QT, zz13, JQ, JR, acC, hxk, ints, QD, QW, zz6, QO, ↓Qb, atsL, oksG, JV, QZ, Qa, JO, Qm, QT, QS, zz9, QB, QA, S_mem, yyF, QF, zz2]
  refine hK3 _ ?_; try clear hK3 K3
  refine kpA [0, 11, 12, 13, 30] ?_
  refine cnA ?_ ?_
  ·intro hb
   have hq : legOk x = false := by
    simp only [legOk]
    cases h1 : acOk x.ac <;> cases h2 : rightN x.amt <;> simp [h1, h2] at hb ⊢
   try clear hb
   have hr : nlR l = 3 := by simp only [nlR, show l.all legOk = false by rw [hsp]; simp [hq]]; rfl
   have hv : nlV l = [] := nl_no (by rw [hr]; decide)
   refine JA fun K4 hK4 => ?_
   refine Qz F_mixed [some 2, some 3] rfl ?_
   simp only [zzK, QR, QP, QQ, JB, zz6, QO, ↓Qb]
   refine hK4 _ ?_; try clear hK4 K4
   refine kpA [2, 3] ?_
   refine awp_le (le_SK id [0] rfl (l' := [(2, .ref 0 0), (3, .d (iv 3))]) (m' := [(0, (⟨True, 50, 4, true, true, 0, []⟩ : ARow))]) ?_ ?_ ?_ ?_) ?_
   ·simp only [leV, JD, QQ, Qd, Qc]; exact ⟨Qq (by decide), Qo rfl, trivial⟩
   ·exact ⟨fun h => by simp at h, fun _ => rfl, trivial⟩
   ·simp [wfV, QY, lookR]
   ·simp [wfR]
   refine JJ ?_
   simp only [zz6, QO, ↓Qb]
   rw [hv, hr]
   refine done1 0 (by simp only [resCs, resC]; trivial) ?_ (by simp [flatA, flatAs, Jc]) (by simp [QY, QX]) (by rfl) trivial rfl rfl ?_ (by simp [flatDs, Jc])
   ·simp only [QD, QE, resA, JZ, QR, QP, JD, QQ, Qd, Qc, JP]; rfl
   ·rfl
  ·intro hb
   have hq : legOk x = true := by
    simp only [legOk]
    cases h1 : acOk x.ac <;> cases h2 : rightN x.amt <;> simp [h1, h2] at hb ⊢
   clear hb
   refine JI ?_
   simp only [zz6, QO, ↓Qb]
   refine hK2 _ ?_; try clear hK2 K2
   refine kpA [0, 11, 12, 13] ?_
   refine Qz F_mixed [some 31, some 13] rfl ?_
   simp only [zzK, QR, QP, QQ, zz21, JM, zz26, JC, hwx, zz6, QO, ↓Qb]
   refine ⟨post2.length, _, by simp, le_SK id [] rfl (l' := [(0, .d (dues l)), (11, .d (dues l)), (12, .d (iv l.length)), (13, .d (iv (pre ++ [x]).length))]) (m' := []) ?_ ?_ ?_ ?_, (pre ++ [x]), post2, by simp [hsp], by simp [hpa, hq], rfl, rfl⟩
   ·simp only [leV, JD, QQ, Qd, Qc, hwx]; exact ⟨(by first | exact Qo rfl | exact Qq (by decide) | exact Qp | exact Qn _ | exact Qs (by simp) (by rfl) | exact Qr (by simp) (by rfl) (by first | rfl | (simp; done) | (simp; omega)) | exact Qt (by first | rfl | simp)), (by first | exact Qo rfl | exact Qq (by decide) | exact Qp | exact Qn _ | exact Qs (by simp) (by rfl) | exact Qr (by simp) (by rfl) (by first | rfl | (simp; done) | (simp; omega)) | exact Qt (by first | rfl | simp)), (by first | exact Qo rfl | exact Qq (by decide) | exact Qp | exact Qn _ | exact Qs (by simp) (by rfl) | exact Qr (by simp) (by rfl) (by first | rfl | (simp; done) | (simp; omega)) | exact Qt (by first | rfl | simp)), (by first | exact Qo rfl | exact Qq (by decide) | exact Qp | exact Qn _ | exact Qs (by simp) (by rfl) | exact Qr (by simp) (by rfl) (by first | rfl | (simp; done) | (simp; omega)) | exact Qt (by first | rfl | simp)), trivial⟩
   ·exact trivial
   ·simp [wfV, QY, QX, lookR, grow]
   ·simp [wfR]
 ·intro hb
  obtain rfl : post = [] := by
   cases post with
   | nil => rfl
   | cons x t => have := Qf hb; simp at hspl; omega
  clear hb
  simp only [QG] at hsp
  subst hsp
  refine awp_exit ?_
  simp only [zz6, QO, ↓Qb]
  refine hK0 _ ?_; try clear hK0 K0
  refine kpA [0] ?_
  refine JA fun K0 hK0 => ?_
  refine Qz F_mixed [some 33, some 34, some 32, some 35, some 36, some 6, some 7] rfl ?_
  simp only [zzK, QR, QP, QQ, JC, JE, JF, zz14, zzD, QS, QN, zzF, JB, dues, zz6, QO, ↓Qb]
  refine JT F_go8 (fun hG => NetF l hk (by omega)) (by simp [QY, QX]) (by simp) ?_
  simp only [zzK, QR, QP, QQ, JC, JE, JF, zz14, zzD, QS, QN, zzF, JB, dues, zz6, QO, ↓Qb, atsL, oksG, JV, QZ, Qa, JO, Qm, QT, QS, zz9, QB, QA, zzC, yyF, QF, zz2]
  refine hK0 _ ?_; try clear hK0 K0
  refine kpA [6, 7] ?_
  refine JA fun K0 hK0 => ?_
  refine JA fun K1 hK1 => ?_
  refine Qz F_mixed [some 37, some 38] rfl ?_
  simp only [zzK, QR, QP, QQ, JC, zz21, JM, zz28, zz6, QO, ↓Qb]
  refine hK1 _ ?_; try clear hK1 K1
  refine kpA [6, 7, 38] ?_
  refine cnA ?_ ?_
  ·intro hb
   have hn : (netR l != 0) = true := hb
   clear hb
   have hr : nlR l = netR l := by simp only [nlR, hpa, hn, Qd]
   have hv : nlV l = [] := nl_no (by rw [hr]; simpa using hn)
   refine JA fun K2 hK2 => ?_
   refine Qz F_mixed [some 39, some 2, some 3] rfl ?_
   simp only [zzK, QR, QP, QQ, JC, JB, zz6, QO, ↓Qb]
   refine hK2 _ ?_; try clear hK2 K2
   refine kpA [2, 3] ?_
   refine awp_le (le_SK id [0] rfl (l' := [(2, .ref 0 0), (3, .d (iv (netR l)))]) (m' := [(0, (⟨True, 50, 4, true, true, 0, []⟩ : ARow))]) ?_ ?_ ?_ ?_) ?_
   ·simp only [leV, JD, QQ, Qd, Qc]; exact ⟨Qq (by decide), Qo rfl, trivial⟩
   ·exact ⟨fun h => by simp at h, fun _ => rfl, trivial⟩
   ·simp [wfV, QY, lookR]
   ·simp [wfR]
   refine JJ ?_
   simp only [zz6, QO, ↓Qb]
   rw [hv, hr]
   refine done1 0 (by simp only [resCs, resC]; trivial) ?_ (by simp [flatA, flatAs, Jc]) (by simp [QY, QX]) (by rfl) trivial rfl rfl ?_ (by simp [flatDs, Jc])
   ·simp only [QD, QE, resA, JZ, QR, QP, JD, QQ, Qd, Qc, JP]; rfl
   ·rfl
  ·intro hb
   have hn : (netR l != 0) = false := hb
   clear hb
   have hn0 : netR l = 0 := by simpa using hn
   have hrt := net_ok hn0
   have hr : nlR l = joinR (payL (netV l)) := by simp only [nlR, hpa, hn, Qd, Qc]
   have hv : nlV l = joinV (payL (netV l)) := by
    simp only [nlV, hr, joinV]
    cases joinR (payL (netV l)) == 0 <;> rfl
   have hnl := net_len l
   refine JI ?_
   simp only [zz6, QO, ↓Qb]
   refine hK0 _ ?_; try clear hK0 K0
   refine kpA [6] ?_
   refine JA fun K0 hK0 => ?_
   refine Qz F_mixed [some 8] rfl ?_
   simp only [zzK, QR, QP, QQ, JB, zz6, QO, ↓Qb]
   refine hK0 _ ?_; try clear hK0 K0
   refine kpA [6, 8] ?_
   refine JA fun K0 hK0 => ?_
   refine JA fun K1 hK1 => ?_
   refine Qz F_mixed [some 40, some 41, some 42] rfl ?_
   simp only [zzK, QR, QP, QQ, JC, JE, zz12, F_sl22, Option.isSome_some, dues, JN, zz6, QO, ↓Qb]
   refine hK1 _ ?_; try clear hK1 K1
   refine kpA [8, 40, 41, 42] ?_
   refine JH ?_
   refine awp_loop (fun m s => ∃ (pre : List LegV) (post : List LegV), (netV l = pre ++ post) ∧ m = post.length ∧ s = S 72 [(8, .ref 8 (payL pre).length), (40, .d (dues (netV l))), (41, .d (iv (netV l).length)), (42, .d (iv pre.length))] [(8, grow 50 4 8 ((payL pre).map legC))]) ((netV l).length) _ (le_SK id [8] rfl (l' := [(8, .ref 8 (payL []).length), (40, .d (dues (netV l))), (41, .d (iv (netV l).length)), (42, .d (iv [].length))]) (m' := [(8, grow 50 4 8 ((payL []).map legC))]) ?_ ?_ ?_ ?_) ⟨[], (netV l), rfl, rfl, rfl⟩ ?_
   ·simp only [leV, JD, QQ, Qd, Qc]; exact ⟨(by first | exact Qo rfl | exact Qq (by decide) | exact Qp | exact Qn _ | exact Qs (by simp) (by rfl) | exact Qr (by simp) (by rfl) (by first | rfl | (simp; done) | (simp; omega)) | exact Qt (by first | rfl | simp)), (by first | exact Qo rfl | exact Qq (by decide) | exact Qp | exact Qn _ | exact Qs (by simp) (by rfl) | exact Qr (by simp) (by rfl) (by first | rfl | (simp; done) | (simp; omega)) | exact Qt (by first | rfl | simp)), (by first | exact Qo rfl | exact Qq (by decide) | exact Qp | exact Qn _ | exact Qs (by simp) (by rfl) | exact Qr (by simp) (by rfl) (by first | rfl | (simp; done) | (simp; omega)) | exact Qt (by first | rfl | simp)), (by first | exact Qo rfl | exact Qq (by decide) | exact Qp | exact Qn _ | exact Qs (by simp) (by rfl) | exact Qr (by simp) (by rfl) (by first | rfl | (simp; done) | (simp; omega)) | exact Qt (by first | rfl | simp)), trivial⟩
   ·exact ⟨fun h => by simp at h, fun _ => rfl, trivial⟩
   ·simp [wfV, QY, QX, lookR, grow]
   ·exact ⟨wf_data _ _, trivial⟩
   rintro m s ⟨pre, post, hsp, rfl, rfl⟩
   have hspl := congrArg List.length hsp
   simp only [QC] at hspl
   have hpl := payL_len pre
   refine JA fun K2 hK2 => ?_
   refine Qz F_mixed [some 43] rfl ?_
   simp only [zzK, QR, QP, QQ, zz21, JM, zz22, zz6, QO, ↓Qb]
   refine hK2 _ ?_; try clear hK2 K2
   refine kpA [8, 40, 41, 42, 43] ?_
   refine JA fun K2 hK2 => ?_
   refine cnA ?_ ?_
   ·intro hb
    obtain ⟨x, post2, rfl⟩ : ∃ x t, post = x :: t := by
     cases post with
     | nil => have := Qg hb; simp at hspl; omega
     | cons x t => exact ⟨x, t, rfl⟩
    clear hb
    simp only [QF] at hspl
    have gx : ((netV l).map dueC).getD pre.length [] = [iv x.ac.who, iv x.ac.cur, iv x.amt] := by
     rw [hsp, List.map_append]; exact gd_mid' (A := pre.map dueC) _ _ (by simp)
    have bx := ltI (show pre.length < (netV l).length by omega)
    have hwx : Ql .i64 ((pre.length : Int) + 1) = ((pre ++ [x]).length : Int) := by rw [wrapI (by omega) (by omega)]; simp
    have hxr : rightN x.amt = true := rt_of hrt x (by rw [hsp]; simp)
    have hxn : Ql .i64 (0 - x.amt) = 0 - x.amt := by simp [rightN] at hxr; exact wrapI (by omega) (by omega)
    refine JI ?_
    simp only [zz6, QO, ↓Qb]
    refine hK2 _ ?_; try clear hK2 K2
    refine kpA [8, 40, 41, 42] ?_
    refine JA fun K2 hK2 => ?_
    refine JH ?_
    refine JA fun K3 hK3 => ?_
    refine Qz F_mixed [some 44, some 45, some 10, none] rfl ?_
    simp only [zzK, QR, QP, QQ, JW, zz23, zz24, F_sl22, F_sz30, QA, zzC, yyE, Qe, F_ok30, F_ag30, zz8, zzD, QS, QN, zzH, zz32, JS, F_zero30, zz10, zz18, splice, QG, zz1, zzG, dues, gx, bx, hwx, JN, ge0, QV, QW, zz6, QO, ↓Qb]
    refine hK3 _ ?_; try clear hK3 K3
    refine kpA [8, 10, 40, 41, 42] ?_
    refine JA fun K3 hK3 => ?_
    refine Qz F_mixed [some 46, some 47, some 48, some 49, some 50, some 51, some 52, some 53, some 54, some 55, some 56, some 8] rfl ?_
    simp only [zzK, QR, QP, QQ, JC, zz19, zz23, F_off30_0, zzH, QN, QS, F_ok3, F_ag3, F_sz3, zz8, zzD, zzC, QA, yyE, Qe, F_off30_1, F_zero48, F_bld48, zz7, splice, Option.getD_some, QG, zz1, zzG, zz10, F_fld48_0, F_fld48_1, F_fld48_2, F_off30_2, F_zero50, F_bld50, F_fld50_0, F_fld50_1, F_sl39, F_sz50, zz3, JS, maxLen_le, QT, JE, F_by50, zz4, zz9, QB, JB, grow, unDs_map, QW, zz6, QO, ↓Qb]
    have hm : (payL pre).length + 1 ≤ 1000000 := by first | omega | (simp; omega)
    first | refine ⟨le_maxLen hm, by omega, ?_⟩ | refine ⟨by simp, le_maxLen hm, by omega, ?_⟩
    clear hm
    refine hK3 _ ?_; try clear hK3 K3
    refine kpA [8, 10, 40, 41, 42] ?_
    refine Qz F_mixed [some 57, some 58, some 59, some 60, some 61, some 62, some 63, some 64, some 65, some 66, some 8] rfl ?_
    simp only [zzK, QR, QP, QQ, JC, zz19, zz23, F_off30_1, zzH, QN, QS, F_ok3, F_ag3, F_sz3, zz8, zzD, zzC, QA, yyE, Qe, F_zero48, F_bld48, zz7, splice, Option.getD_some, QG, zz1, zzG, zz10, F_fld48_0, F_fld48_2, F_off30_2, zz29, JM, zz37, F_zero50, F_bld50, F_fld50_0, F_fld50_1, F_sl39, F_sz50, zz3, JS, maxLen_le, QT, JE, F_by50, zz4, zz9, QB, JB, hxn, grow, unDs_map, QW, zz6, QO, ↓Qb]
    have hm : (payL pre).length + 1 + 1 ≤ 1000000 := by omega
    first | refine ⟨le_maxLen hm, by omega, ?_⟩ | refine ⟨by simp, le_maxLen hm, by omega, ?_⟩
    clear hm
    refine hK2 _ ?_; try clear hK2 K2
    refine kpA [8, 40, 41, 42] ?_
    refine Qz F_mixed [some 67, some 42] rfl ?_
    simp only [zzK, QR, QP, QQ, zz21, JM, zz26, JC, hwx, zz6, QO, ↓Qb]
    refine ⟨post2.length, _, by simp, le_SK (fun r => bif r == 8 then 66 else r) [] rfl (l' := [(8, .ref 8 (payL (pre ++ [x])).length), (40, .d (dues (netV l))), (41, .d (iv (netV l).length)), (42, .d (iv (pre ++ [x]).length))]) (m' := [(8, grow 50 4 8 ((payL (pre ++ [x])).map legC))]) ?_ ?_ ?_ ?_, (pre ++ [x]), post2, by simp [hsp], rfl, rfl⟩
    ·simp only [leV, JD, QQ, Qd, Qc, hwx]; exact ⟨(Qr (by simp) (by rfl) (by rw [payL_snoc]; simp)), (by first | exact Qo rfl | exact Qq (by decide) | exact Qp | exact Qn _ | exact Qs (by simp) (by rfl) | exact Qr (by simp) (by rfl) (by first | rfl | (simp; done) | (simp; omega)) | exact Qt (by first | rfl | simp)), (by first | exact Qo rfl | exact Qq (by decide) | exact Qp | exact Qn _ | exact Qs (by simp) (by rfl) | exact Qr (by simp) (by rfl) (by first | rfl | (simp; done) | (simp; omega)) | exact Qt (by first | rfl | simp)), (by first | exact Qo rfl | exact Qq (by decide) | exact Qp | exact Qn _ | exact Qs (by simp) (by rfl) | exact Qr (by simp) (by rfl) (by first | rfl | (simp; done) | (simp; omega)) | exact Qt (by first | rfl | simp)), trivial⟩
    ·exact ⟨fun _ => ⟨_, rfl, RowLe.data_ (by rw [payL_snoc]; simp [legC, cashL, varL])⟩, fun h => by simp at h, trivial⟩
    ·simp [wfV, QY, QX, lookR, grow]
    ·exact ⟨wf_data _ _, trivial⟩
   ·intro hb
    obtain rfl : post = [] := by
     cases post with
     | nil => rfl
     | cons x t => have := Qf hb; simp at hspl; omega
    clear hb
    simp only [QG] at hsp
    subst hsp
    refine awp_exit ?_
    simp only [zz6, QO, ↓Qb]
    refine hK0 _ ?_; try clear hK0 K0
    refine kpA [8] ?_
    refine JA fun K0 hK0 => ?_
    refine Qz F_mixed [some 68, some 69, some 70, some 71, some 2, some 3] rfl ?_
    simp only [zzK, QR, QP, QQ, JC, JE, JF, zz14, zzD, QS, QN, zzF, JB, legs, grow, D.sl.injEq, JN, zz6, QO, ↓Qb]
    refine JT F_go36 (fun hG => Join_ (payL (netV l)) (by rw [payL_len]; omega)) (by simp [QY, QX]) (by simp) ?_
    simp only [zzK, QR, QP, QQ, JC, JE, JF, zz14, zzD, QS, QN, zzF, JB, legs, grow, JN, zz6, QO, ↓Qb, atsL, oksG, JV, QZ, Qa, JO, Qm, QT, QS, zz9, QB, QA, zzC, yyF, QF, zz2]
    first | refine ⟨by simp, ?_⟩ | skip
    refine hK0 _ ?_; try clear hK0 K0
    refine kpA [2, 3] ?_
    refine JJ ?_
    simp only [zz6, QO, ↓Qb]
    rw [hv, hr]
    refine done1 70000 (by simp only [resCs, resC]; trivial) ?_ (by simp [flatA, flatAs, Jc, legC]) (by simp [QY, QX, legC]) (by rfl) trivial rfl rfl ?_ (by simp [flatDs, Jc, legC])
    ·simp only [QD, QE, resA, JZ, QR, QP, JD, QQ, Qd, Qc, JP]; rfl
    ·rfl
theorem nLegsF (l : List LegV) (hk : K2 l) (hl : l.length ≤ 400000) : ACalls Try.prog 16 [dues l] [] (.tp [.d (legs (nlV l)), .d (iv (nlR l))]) := (nLegs_ l hk hl).freezeT (by simp [frzOk, frzOkL])

set_option maxRecDepth 100000 in
set_option maxHeartbeats 4000000 in
theorem netPays_ (l : List LegV) (hk : K2 l) : ACalls Try.prog 7 [dues l] [] (bv true) := by
 refine acalls_S (rs := [.tmp 2]) Try.func7 rfl rfl 131 [(0, .d (dues l))] rfl (by simp) rfl ?_
 refine JA fun K0 hK0 => ?_
 refine Qz F_mixed [some 2] rfl ?_
 simp only [zzK, QR, QP, QQ, JB, zz6, QO, ↓Qb]
 refine hK0 _ ?_; try clear hK0 K0
 refine kpA [0] ?_
 refine JA fun K0 hK0 => ?_
 refine JA fun K1 hK1 => ?_
 refine Qz F_mixed [some 9, some 10, some 11] rfl ?_
 simp only [zzK, QR, QP, QQ, JC, JE, zz12, F_sl22, Option.isSome_some, zz21, JM, zz25, dues, JN, zz6, QO, ↓Qb]
 refine hK1 _ ?_; try clear hK1 K1
 refine kpA [0, 11] ?_
 refine cnA ?_ ?_
 ·intro hb
  clear hb
  refine JA fun K2 hK2 => ?_
  refine Qz F_mixed [some 2] rfl ?_
  simp only [zzK, QR, QP, QQ, JB, zz6, QO, ↓Qb]
  refine hK2 _ ?_; try clear hK2 K2
  refine kpA [2] ?_
  refine JJ ?_
  simp only [zz6, QO, ↓Qb]
  refine dnA ?_
  simp only [QD, QE, resA, JZ, QR, QP, JD, QQ, Qd, Qc, JP]
  
 ·intro hb
  have hl : l.length ≤ 300 := by simp at hb; omega
  clear hb
  refine JI ?_
  simp only [zz6, QO, ↓Qb]
  refine hK0 _ ?_; try clear hK0 K0
  refine kpA [0] ?_
  refine JA fun K0 hK0 => ?_
  refine Qz F_mixed [some 13, some 14, some 12, some 15, some 16, some 3, some 4] rfl ?_
  simp only [zzK, QR, QP, QQ, JC, JE, JF, zz14, zzD, QS, QN, zzF, JB, dues, zz6, QO, ↓Qb]
  refine JT F_go16 (fun hG => nLegsF l hk (by omega)) (by simp [QY, QX]) (by simp) ?_
  simp only [zzK, QR, QP, QQ, JC, JE, JF, zz14, zzD, QS, QN, zzF, JB, dues, zz6, QO, ↓Qb, atsL, oksG, JV, QZ, Qa, JO, Qm, QT, QS, zz9, QB, QA, zzC, yyF, QF, zz2]
  refine hK0 _ ?_; try clear hK0 K0
  refine kpA [0, 3, 4] ?_
  refine JA fun K0 hK0 => ?_
  refine Qz F_mixed [some 18, some 19, some 17, some 20, some 21, some 5, some 6] rfl ?_
  simp only [zzK, QR, QP, QQ, JC, JE, JF, zz14, zzD, QS, QN, zzF, JB, dues, zz6, QO, ↓Qb]
  refine JT F_go8 (fun hG => NetF l hk (by omega)) (by simp [QY, QX]) (by simp) ?_
  simp only [zzK, QR, QP, QQ, JC, JE, JF, zz14, zzD, QS, QN, zzF, JB, dues, zz6, QO, ↓Qb, atsL, oksG, JV, QZ, Qa, JO, Qm, QT, QS, zz9, QB, QA, zzC, yyF, QF, zz2]
  refine hK0 _ ?_; try clear hK0 K0
  refine kpA [3, 4, 5, 6] ?_
  refine JA fun K0 hK0 => ?_
  refine JA fun K1 hK1 => ?_
  refine Qz F_mixed [some 22, some 23, some 24, some 25, some 26, some 27] rfl ?_
  simp only [zzK, QR, QP, QQ, QU, JZ, zz5, Qj, Qi, Qh, and_self, JC, zz21, JM, zz28, zz13, JQ, JR, zz6, QO, ↓Qb]
  refine hK1 _ ?_; try clear hK1 K1
  refine kpA [3, 4, 5, 27] ?_
  refine cnA ?_ ?_
  ·intro hb
   have hn : nlR l ≠ 0 := by
    intro h
    have h2 : ¬ netR l ≠ 0 := fun h3 => nl_net h3 h
    have h3 : netR l = 0 := by simpa using h2
    simp [h, h3] at hb
   clear hb
   have hv : legs (nlV l) = .sl 4 [] := by rw [nl_no hn]; rfl
   have hr : (nlR l != 0) = true := by simpa using hn
   refine JA fun K2 hK2 => ?_
   refine Qz F_mixed [some 28, some 29, some 30, some 31, some 32, some 33, some 34, some 35, some 36, some 37, some 2] rfl ?_
   simp only [zzK, QR, QP, QQ, QU, JZ, zz5, Qj, Qi, Qh, and_self, JC, zz21, JM, zz28, JE, zz12, F_sl39, Option.isSome_some, zz34, zz13, JQ, JR, JF, JB, hv, hr, List.length_nil, Int.natCast_zero, beq_self_eq_true, Gp_some, zz6, QO, ↓Qb]
   refine JT F_go9 (fun hG => wakes17_) (by simp [QY, QX]) (by simp) ?_
   simp only [zzK, QR, QP, QQ, QU, JZ, zz5, Qj, Qi, Qh, and_self, JC, zz21, JM, zz28, JE, zz12, F_sl39, Option.isSome_some, zz34, zz13, JQ, JR, JF, JB, hv, hr, Int.natCast_zero, beq_self_eq_true, Gp_some, zz6, QO, ↓Qb, atsL, oksG, JV, QZ, Qa, JO, Qm, QT, QS, zz9, QB, QA, zzC, yyF, zzD, zz2]
   refine hK2 _ ?_; try clear hK2 K2
   refine kpA [2] ?_
   refine JJ ?_
   simp only [zz6, QO, ↓Qb]
   refine dnA ?_
   simp only [QD, QE, resA, JZ, QR, QP, JD, QQ, Qd, Qc, JP]
   try simp
  ·intro hb
   have hn : nlR l = 0 := by
    cases h : (nlR l != 0) with
    | false => simpa using h
    | true => rw [h] at hb; simp at hb
   clear hb
   have hnl := net_len l
   have hll := nlV_len l
   have hf := nl_fin hk hn
   refine JI ?_
   simp only [zz6, QO, ↓Qb]
   refine hK0 _ ?_; try clear hK0 K0
   refine kpA [3, 5] ?_
   refine JA fun K0 hK0 => ?_
   refine JA fun K1 hK1 => ?_
   refine Qz F_mixed [some 38, some 39, some 40, some 41, some 42, some 43, some 44, some 45, some 46, some 47, some 48, some 49, some 50, some 51, some 52, some 53, some 54, some 55, some 56, some 57, some 58, some 59, some 60] rfl ?_
   simp only [zzK, QR, QP, QQ, QU, JZ, zz5, Qj, Qi, Qh, and_self, JC, JE, zz12, F_sl39, Option.isSome_some, zz21, JM, zz25, b_leq, pure_leq, zz13, JQ, JR, JF, zz28, zz34, F_sl22, legs, dues, JN, zz6, QO, ↓Qb]
   refine JT F_go20 (fun hG => rCheck_ (nlV l) (by omega)) (by simp [QY, QX]) (by simp) ?_
   simp only [zzK, QR, QP, QQ, QU, JZ, zz5, Qj, Qi, Qh, and_self, JC, JE, zz12, F_sl39, Option.isSome_some, zz21, JM, zz25, b_leq, pure_leq, zz13, JQ, JR, JF, zz28, zz34, F_sl22, legs, dues, JN, zz6, QO, ↓Qb, atsL, oksG, JV, QZ, Qa, JO, Qm, QT, QS, zz9, QB, QA, zzC, yyF, zzD, zz2]
   refine hK1 _ ?_; try clear hK1 K1
   refine kpA [3, 5, 60] ?_
   refine cnA ?_ ?_
   ·intro hb
    rw [hf] at hb; cases hb
   ·intro hb
    clear hb
    refine JI ?_
    simp only [zz6, QO, ↓Qb]
    refine hK0 _ ?_; try clear hK0 K0
    refine kpA [3, 5] ?_
    refine JA fun K0 hK0 => ?_
    refine Qz F_mixed [some 7] rfl ?_
    simp only [zzK, QR, QP, QQ, JB, zz6, QO, ↓Qb]
    refine hK0 _ ?_; try clear hK0 K0
    refine kpA [3, 5, 7] ?_
    refine JA fun K0 hK0 => ?_
    refine JA fun K1 hK1 => ?_
    refine Qz F_mixed [some 8] rfl ?_
    simp only [zzK, QR, QP, QQ, JB, zz6, QO, ↓Qb]
    refine hK1 _ ?_; try clear hK1 K1
    refine kpA [3, 5, 7, 8] ?_
    refine JH ?_
    refine awp_loop (fun m s => ∃ (pre : List LegV) (post : List LegV), (nlV l = pre ++ post) ∧ m = post.length ∧ s = S 131 [(3, .d (legs (nlV l))), (5, .d (dues (netV l))), (7, .d (iv (pre.filter isCash).length)), (8, .d (iv pre.length))] []) ((nlV l).length) _ (le_SK id [] rfl (l' := [(3, .d (legs (nlV l))), (5, .d (dues (netV l))), (7, .d (iv ([].filter isCash).length)), (8, .d (iv [].length))]) (m' := []) ?_ ?_ ?_ ?_) ⟨[], (nlV l), rfl, rfl, rfl⟩ ?_
    ·simp only [leV, JD, QQ, Qd, Qc]; exact ⟨(by first | exact Qo rfl | exact Qq (by decide) | exact Qp | exact Qn _ | exact Qs (by simp) (by rfl) | exact Qr (by simp) (by rfl) (by first | rfl | (simp; done) | (simp; omega)) | exact Qt (by first | rfl | simp)), (by first | exact Qo rfl | exact Qq (by decide) | exact Qp | exact Qn _ | exact Qs (by simp) (by rfl) | exact Qr (by simp) (by rfl) (by first | rfl | (simp; done) | (simp; omega)) | exact Qt (by first | rfl | simp)), (Qt rfl), (by first | exact Qo rfl | exact Qq (by decide) | exact Qp | exact Qn _ | exact Qs (by simp) (by rfl) | exact Qr (by simp) (by rfl) (by first | rfl | (simp; done) | (simp; omega)) | exact Qt (by first | rfl | simp)), trivial⟩
    ·exact trivial
    ·simp [wfV, QY, QX, lookR, grow]
    ·simp [wfR]
    rintro m s ⟨pre, post, hsp, rfl, rfl⟩
    have hspl := congrArg List.length hsp
    simp only [QC] at hspl
    have hfl : (pre.filter isCash).length ≤ pre.length := List.length_filter_le _ _
    refine JA fun K2 hK2 => ?_
    refine JA fun K3 hK3 => ?_
    refine Qz F_mixed [some 61, some 62, some 63, some 64] rfl ?_
    simp only [zzK, QR, QP, QQ, JC, JE, zz12, F_sl39, Option.isSome_some, zz21, JM, zz22, legs, JN, zz6, QO, ↓Qb]
    refine hK3 _ ?_; try clear hK3 K3
    refine kpA [3, 5, 7, 8, 64] ?_
    refine cnA ?_ ?_
    ·intro hb
     obtain ⟨x, post2, rfl⟩ : ∃ x t, post = x :: t := by
      cases post with
      | nil => have := Qg hb; simp at hspl; omega
      | cons x t => exact ⟨x, t, rfl⟩
     clear hb
     simp only [QF] at hspl
     have gx : ((nlV l).map legC).getD pre.length [] = [iv x.ac.kind, iv x.ac.who, iv x.ac.cur, iv x.amt] := by
      rw [hsp, List.map_append]; exact gd_mid' (A := pre.map legC) _ _ (by simp)
     have bx := ltI (show pre.length < (nlV l).length by omega)
     have hwx : Ql .i64 ((pre.length : Int) + 1) = ((pre ++ [x]).length : Int) := by rw [wrapI (by omega) (by omega)]; simp
     have hkx := nl_kinds hn (x := x) (by rw [hsp]; simp)
     refine JI ?_
     simp only [zz6, QO, ↓Qb]
     refine hK2 _ ?_; try clear hK2 K2
     refine kpA [3, 5, 7, 8] ?_
     refine JA fun K2 hK2 => ?_
     refine JH ?_
     refine JA fun K3 hK3 => ?_
     refine Qz F_mixed [some 67, some 68, some 69, some 70, some 71, some 72] rfl ?_
     simp only [zzK, QR, QP, QQ, JC, JW, zz23, zz24, F_sl39, F_sz50, QA, zzC, yyE, Qe, zz19, F_off50_0, zzH, QN, QS, F_off48_0, F_ok3, F_ag3, F_sz3, zz8, zzD, legs, gx, bx, hwx, JN, ge0, QV, QW, zz6, QO, ↓Qb]
     refine hK3 _ ?_; try clear hK3 K3
     refine kpA [3, 5, 7, 8, 72] ?_
     refine JH ?_
     refine JA fun K3 hK3 => ?_
     refine Qz F_mixed [some 74, some 73] rfl ?_
     simp only [zzK, QR, QP, QQ, zz21, JM, zz34, JB, zz6, QO, ↓Qb]
     refine hK3 _ ?_; try clear hK3 K3
     refine kpA [3, 5, 7, 8, 72, 73] ?_
     refine cnA ?_ ?_
     ·intro hb
      have hc : isCash x = true := hb
      clear hb
      have hcy := cash_yes hc pre
      have hna := cash_at hk hn hsp hc
      have hnal := congrArg List.length hna
      simp only [QC, QF] at hnal
      have gn : ((netV l).map dueC).getD (pre.filter isCash).length [] = [iv x.ac.who, iv x.ac.cur, iv x.amt] := due_at hna rfl
      have bn := ltI (show (pre.filter isCash).length < (netV l).length by omega)
      have hge : decide (((pre.filter isCash).length : Int) ≥ ((netV l).length : Int)) = false := decide_eq_false (by omega)
      have hwc : Ql .i64 (((pre.filter isCash).length : Int) + 1) = (((pre.filter isCash).length + 1 : Nat) : Int) := by rw [wrapI (by omega) (by omega)]; omega
      refine JA fun K4 hK4 => ?_
      refine JA fun K5 hK5 => ?_
      refine awp_draw F_mixed [some 75, some 76, some 77, some 78, some 79, some 80, some 81, some 82, some 83, some 84, some 85, some 86, some 87, some 88, some 89, some 90, some 91, some 92, some 93, some 94, some 95, some 96, some 97, some 98, some 99, some 100, some 101, some 102, some 103, some 104, some 105, some 106, some 107, some 108, some 109, some 110, some 111, some 112, some 113, some 114, some 115, some 116, some 117, some 118, some 119] rfl (by kernel_rfl) ?_
      simp only [zzK, QR, QP, QQ, QU, JZ, zz5, Qj, Qi, Qh, JC, JE, zz12, F_sl22, Option.isSome_some, zz21, JM, zz31, JW, zz23, zz24, F_sl39, F_sz50, QA, zzC, yyE, Qe, zz19, F_off50_0, zzH, QN, QS, F_off48_1, F_ok3, F_ag3, F_sz3, zz8, zzD, F_sz30, F_off30_0, zz28, zz13, JQ, JR, F_off48_2, F_off30_1, F_off50_1, F_off30_2, legs, dues, gx, bx, gn, bn, hge, JN, ge0, QV, bne_self_eq_false, Gp_some, QW, zz6, QO, ↓Qb]
      refine hK5 _ ?_; try clear hK5 K5
      refine kpA [3, 5, 7, 8, 119] ?_
      refine cnA ?_ ?_
      ·intro hb
       simp at hb
      ·intro hb
       clear hb
       refine JI ?_
       simp only [zz6, QO, ↓Qb]
       refine hK4 _ ?_; try clear hK4 K4
       refine kpA [3, 5, 7, 8] ?_
       refine Qz F_mixed [some 120, some 121, some 7] rfl ?_
       simp only [zzK, QR, QP, QQ, JC, zz21, JM, zz26, JB, hwc, zz6, QO, ↓Qb]
       refine hK2 _ ?_; try clear hK2 K2
       refine kpA [3, 5, 7, 8] ?_
       refine Qz F_mixed [some 65, some 66, some 8] rfl ?_
       simp only [zzK, QR, QP, QQ, JC, zz21, JM, zz26, JB, hwx, zz6, QO, ↓Qb]
       refine ⟨post2.length, _, by simp, le_SK id [] rfl (l' := [(3, .d (legs (nlV l))), (5, .d (dues (netV l))), (7, .d (iv ((pre ++ [x]).filter isCash).length)), (8, .d (iv (pre ++ [x]).length))]) (m' := []) ?_ ?_ ?_ ?_, (pre ++ [x]), post2, by simp [hsp], rfl, rfl⟩
       ·simp only [leV, JD, QQ, Qd, Qc, hwx, hcy, hwc]; exact ⟨(by first | exact Qo rfl | exact Qq (by decide) | exact Qp | exact Qn _ | exact Qs (by simp) (by rfl) | exact Qr (by simp) (by rfl) (by first | rfl | (simp; done) | (simp; omega)) | exact Qt (by first | rfl | simp)), (by first | exact Qo rfl | exact Qq (by decide) | exact Qp | exact Qn _ | exact Qs (by simp) (by rfl) | exact Qr (by simp) (by rfl) (by first | rfl | (simp; done) | (simp; omega)) | exact Qt (by first | rfl | simp)), (Qt (by simp)), (by first | exact Qo rfl | exact Qq (by decide) | exact Qp | exact Qn _ | exact Qs (by simp) (by rfl) | exact Qr (by simp) (by rfl) (by first | rfl | (simp; done) | (simp; omega)) | exact Qt (by first | rfl | simp)), trivial⟩
       ·exact trivial
       ·simp [wfV, QY, QX, lookR, grow]
       ·simp [wfR]
     ·intro hb
      have hc : isCash x = false := hb
      clear hb
      have hcy := cash_no hc pre
      have hk5 : (x.ac.kind == 5) = true := by
       rcases hkx with h | h
       ·simp [isCash, h] at hc
       ·simp [h]
      refine JA fun K4 hK4 => ?_
      refine Qz F_mixed [some 123, some 122] rfl ?_
      simp only [zzK, QR, QP, QQ, zz21, JM, zz34, JB, hk5, zz6, QO, ↓Qb]
      refine hK4 _ ?_; try clear hK4 K4
      refine kpA [3, 5, 7, 8, 122] ?_
      refine cnA ?_ ?_
      ·intro hb
       clear hb
       refine JI ?_
       simp only [zz6, QO, ↓Qb]
       refine hK2 _ ?_; try clear hK2 K2
       refine kpA [3, 5, 7, 8] ?_
       refine Qz F_mixed [some 65, some 66, some 8] rfl ?_
       simp only [zzK, QR, QP, QQ, JC, zz21, JM, zz26, JB, hwx, zz6, QO, ↓Qb]
       refine ⟨post2.length, _, by simp, le_SK id [] rfl (l' := [(3, .d (legs (nlV l))), (5, .d (dues (netV l))), (7, .d (iv ((pre ++ [x]).filter isCash).length)), (8, .d (iv (pre ++ [x]).length))]) (m' := []) ?_ ?_ ?_ ?_, (pre ++ [x]), post2, by simp [hsp], rfl, rfl⟩
       ·simp only [leV, JD, QQ, Qd, Qc, hwx, hcy]; exact ⟨(by first | exact Qo rfl | exact Qq (by decide) | exact Qp | exact Qn _ | exact Qs (by simp) (by rfl) | exact Qr (by simp) (by rfl) (by first | rfl | (simp; done) | (simp; omega)) | exact Qt (by first | rfl | simp)), (by first | exact Qo rfl | exact Qq (by decide) | exact Qp | exact Qn _ | exact Qs (by simp) (by rfl) | exact Qr (by simp) (by rfl) (by first | rfl | (simp; done) | (simp; omega)) | exact Qt (by first | rfl | simp)), (Qt (by rfl)), (by first | exact Qo rfl | exact Qq (by decide) | exact Qp | exact Qn _ | exact Qs (by simp) (by rfl) | exact Qr (by simp) (by rfl) (by first | rfl | (simp; done) | (simp; omega)) | exact Qt (by first | rfl | simp)), trivial⟩
       ·exact trivial
       ·simp [wfV, QY, QX, lookR, grow]
       ·simp [wfR]
      ·intro hb
       cases hb
    ·intro hb
     obtain rfl : post = [] := by
      cases post with
      | nil => rfl
      | cons x t => have := Qf hb; simp at hspl; omega
     clear hb
     simp only [QG] at hsp
     have hce : (pre.filter isCash).length = (netV l).length := by rw [← nl_cash hk hn, hsp]
     refine awp_exit ?_
     simp only [zz6, QO, ↓Qb]
     refine hK0 _ ?_; try clear hK0 K0
     refine kpA [5, 7] ?_
     refine JA fun K0 hK0 => ?_
     refine Qz F_mixed [some 124, some 125, some 126, some 127, some 128, some 129, some 130, some 2] rfl ?_
     simp only [zzK, QR, QP, QQ, QU, JZ, zz5, Qj, Qi, Qh, and_self, JC, JE, zz12, F_sl22, Option.isSome_some, zz21, JM, zz34, JF, zz13, JQ, JR, JB, dues, JN, hce, beq_self_eq_true, Gp_some, zz6, QO, ↓Qb]
     refine JT F_go9 (fun hG => wakes17_) (by simp [QY, QX]) (by simp) ?_
     simp only [zzK, QR, QP, QQ, QU, JZ, zz5, Qj, Qi, Qh, and_self, JC, JE, zz12, F_sl22, Option.isSome_some, zz21, JM, zz34, JF, zz13, JQ, JR, JB, dues, JN, hce, beq_self_eq_true, Gp_some, zz6, QO, ↓Qb, atsL, oksG, JV, QZ, Qa, JO, Qm, QT, QS, zz9, QB, QA, zzC, yyF, zzD, zz2]
     refine hK0 _ ?_; try clear hK0 K0
     refine kpA [2] ?_
     refine JJ ?_
     simp only [zz6, QO, ↓Qb]
     refine dnA ?_
     simp only [QD, QE, resA, JZ, QR, QP, JD, QQ, Qd, Qc, JP]
     try simp
theorem netPays2_ (l : List DueV) : ACalls Try.prog 7 [.sl 3 (l.map dueC2)] [] (bv true) := by
 have e := netPays_ (l.map dueL) (dueL_k l)
 rwa [dueL_d] at e

end Go.Proofs.Ytcpkhnciplfmkaa
