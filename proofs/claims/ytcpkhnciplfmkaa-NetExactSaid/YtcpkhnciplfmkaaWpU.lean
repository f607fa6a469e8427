import Derived.Test.YtcpkhnciplfmkaaWpT
import Derived.Test.YtcpkhnciplfmkaaWpF
namespace Go.Proofs.Ytcpkhnciplfmkaa
open Go.RowKit
set_option linter.unusedVariables false
set_option linter.unusedSimpArgs false
open Option renaming map_some → QA, bind_some → QB
open List renaming length_append → QC, map_cons → QD, map_nil → QE, length_cons → QF, append_nil → QG, length_singleton → QM
open Nat renaming zero_add → QN, reduceEqDiff → QO, reduceLeDiff → QP, reduceBEq → QQ, reduceLT → QR, reduceAdd → QS, reduceMul → QT, reduceSub → QU
open Int renaming toNat_natCast → QV
open D.agg renaming injEq → QW
open AV renaming idsL → QX, ids → QY, ren → QZ, renL → Qa
open _root_ renaming reduceIte → Qb, cond_false → Qc, cond_true → Qd, reduceCtorEq → Qe, imp_self → Qh, imp_and → Qi, and_imp → Qj
open ORow renaming row → Qm
open VLe renaming refl → Qn, still → Qo, nil_ → Qq
open RowLe renaming still → Qv, data_ → Qw
open Go.Proofs.Ytcpkhnciplfmkaa renaming awp_plain → Qz, awp_seq → JA, evS_assign → JB, evS_move → JC, look_cons → JD, evS_call → JE, evC_value → JF, awp_block → JH, awp_skip → JI, awp_ret → JJ, awp_exit → JK, gr_v → JM, len_map → JN, addRows → JO, resAll → JP, pickK_l → JQ, pickK_r → JR, newRow1 → JS, call_go → JT, aV_ids → JU, freeN → JV, evS_indexAddr → JW, S_getD → JZ, flatD → Jc
theorem F_off48_0 : offT Try.prog 48 0 = some 0 := by kernel_rfl
theorem F_off48_2 : offT Try.prog 48 2 = some 2 := by kernel_rfl
theorem F_go51 : goFn Try.prog 51 := ⟨_, Try.func51, rfl, rfl⟩
theorem F_off48_1 : offT Try.prog 48 1 = some 1 := by kernel_rfl
theorem F_off50_0 : offT Try.prog 50 0 = some 0 := by kernel_rfl
theorem F_ok48 : tyOk Try.prog 48 = true := by kernel_rfl
theorem F_ag48 : aggT Try.prog 48 = true := by kernel_rfl
theorem F_sz48 : szT Try.prog 48 = 3 := by kernel_rfl
theorem F_go55 : goFn Try.prog 55 := ⟨_, Try.func55, rfl, rfl⟩
theorem F_zero50 : zeroT Try.prog 50 = some [(.int .i64 0), (.int .i64 0), (.int .i64 0), (.int .i64 0)] := by kernel_rfl
theorem F_off50_1 : offT Try.prog 50 1 = some 3 := by kernel_rfl
theorem F_go34 : goFn Try.prog 34 := ⟨_, Try.func34, rfl, rfl⟩
theorem F_go52 : goFn Try.prog 52 := ⟨_, Try.func52, rfl, rfl⟩
theorem F_by50 : byT Try.prog 50 = 32 := by kernel_rfl
theorem F_go53 : goFn Try.prog 53 := ⟨_, Try.func53, rfl, rfl⟩
theorem F_zero48 : zeroT Try.prog 48 = some [(.int .i64 0), (.int .i64 0), (.int .i64 0)] := by kernel_rfl
theorem F_eqi48 (a0 b0 : Int) (a1 b1 : Int) (a2 b2 : Int) (w : World) : (Op.equalIn 10000 48 (.agg #[.int .i64 a0, .int .i64 a1, .int .i64 a2]) (.agg #[.int .i64 b0, .int .i64 b1, .int .i64 b2])).run Try.prog w = .ok (veqL [.int .i64 a0, .int .i64 a1, .int .i64 a2] [.int .i64 b0, .int .i64 b1, .int .i64 b2]) w := by
 have u3 := Try.underlying3
 have g3 := Try.isAgg3
 have z3 := Try.sizeOf3
 have hS : Try.prog.underlying 48 = some (.struct (Try.prog.fieldsOf 48)) := by kernel_rfl
 have hp : Try.prog.stoodInHeld 48 = false := by kernel_rfl
 rw [show (10000 : Nat) = 9999 + 1 from rfl, run_equalIn_agg w 9999 48 _ _ hS hp]
 simp only [Program.fieldsOf, Try.underlying48]
 go_simp
 by_cases h0 : a0 = b0 <;> by_cases h1 : a1 = b1 <;> by_cases h2 : a2 = b2 <;> simp [veqL, veq, h0, h1, h2]
theorem F_eql48 (a0 b0 : Int) (a1 b1 : Int) (a2 b2 : Int) (x y : Operand) : pureBin Try.prog .eql 48 x y (.agg #[.int .i64 a0, .int .i64 a1, .int .i64 a2]) (.agg #[.int .i64 b0, .int .i64 b1, .int .i64 b2]) = True := by
 have hm : Try.prog.eqGuardType Try.prog.depth 48 = false := by kernel_rfl
 simp only [pureBin, Pure, eq_iff_iff, iff_true]
 intro w
 simp only [Sem.run_bind, run_eqGuard_agg w .eql 48 x y _ _ hm, Result.andThen_ok, run_eql_struct, F_eqi48, binV]
theorem F_bld50 : bldT Try.prog 50 = true := by kernel_rfl
theorem F_fld50_0 : fldT Try.prog 50 0 = some (0, 3) := by kernel_rfl
theorem F_fld50_1 : fldT Try.prog 50 1 = some (3, 1) := by kernel_rfl
theorem owned_ (n : Int) : ACalls Try.prog 51 [iv n] [] (bv (acOwn n)) := by
 refine acalls_S (rs := [.tmp 2]) Try.func51 rfl rfl 9 [(0, .d (iv n))] rfl (by simp) rfl ?_
 refine JA fun K0 hK0 => ?_
 refine Qz F_mixed [some 2] rfl ?_
 simp only [zzK, QR, QP, QQ, JB, zz6, QO, ↓Qb]
 refine hK0 _ ?_; try clear hK0 K0
 refine kpA [0] ?_
 refine JA fun K0 hK0 => ?_
 refine Qz F_mixed [some 3, some 4, some 5, some 6, some 7, some 8, some 2] rfl ?_
 simp only [zzK, QR, QP, QQ, QU, JZ, zz5, Qj, Qi, Qh, and_self, JC, zz21, JM, zz34, zz13, JQ, JR, JB, zz6, QO, ↓Qb]
 refine hK0 _ ?_; try clear hK0 K0
 refine kpA [2] ?_
 refine JJ ?_
 simp only [zz6, QO, ↓Qb]
 refine dnA ?_
 simp only [QD, QE, resA, JZ, QR, QP, JD, QQ, Qd, Qc, JP]
 rfl
theorem acRight_ (a : AcV) : ACalls Try.prog 34 [.agg (acC a)] [] (bv (acOk a)) := by
 refine acalls_S (rs := [.tmp 2]) Try.func34 rfl rfl 37 [(0, .d (.agg (acC a)))] rfl (by simp) rfl ?_
 refine JA fun K0 hK0 => ?_
 refine Qz F_mixed [some 1, some 2] rfl ?_
 simp only [zzK, QR, QP, QQ, zz35, JS, zz1, zzG, zzD, zzC, QA, yyE, Qe, QS, QN, zzH, JB, acC, zz6, QO, ↓Qb]
 refine hK0 _ ?_; try clear hK0 K0
 refine kpA [1] ?_
 refine JA fun K0 hK0 => ?_
 refine JH ?_
 refine JA fun K1 hK1 => ?_
 refine Qz F_mixed [some 4, some 5, some 6, some 7, some 8, some 9, some 10, some 11, some 12, some 13, some 14, some 15, some 16, some 17, some 18, some 19, some 20, some 21, some 3] rfl ?_
 simp only [zzK, QR, QP, QQ, QU, JZ, zz5, Qj, Qi, Qh, zz19, zz23, F_off48_0, zzH, QN, QS, F_ok3, F_ag3, F_sz3, zz8, zzD, zzC, QA, yyE, Qe, zz21, JM, zz22, JC, zz25, zz13, JQ, JR, F_off48_2, zz31, JB, zz6, QO, ↓Qb]
 refine hK1 _ ?_; try clear hK1 K1
 refine kpA [1, 3] ?_
 refine cnA ?_ ?_
 ·intro hb
  have e : acBad a = true := hb
  clear hb
  refine JA fun K2 hK2 => ?_
  refine Qz F_mixed [some 2] rfl ?_
  simp only [zzK, QR, QP, QQ, JB, zz6, QO, ↓Qb]
  refine hK2 _ ?_; try clear hK2 K2
  refine kpA [2] ?_
  refine JJ ?_
  simp only [zz6, QO, ↓Qb]
  refine dnA ?_
  simp only [QD, QE, resA, JZ, QR, QP, JD, QQ, Qd, Qc, JP]
  rw [acOk, e]; rfl
 ·intro hb
  have e : acBad a = false := hb
  clear hb
  refine JA fun K2 hK2 => ?_
  refine Qz F_mixed [some 23, some 24, some 25, some 22] rfl ?_
  simp only [zzK, QR, QP, QQ, zz19, zz23, F_off48_0, zzH, QN, QS, F_ok3, F_ag3, F_sz3, zz8, zzD, zzC, QA, yyE, Qe, JE, JF, JB, zz6, QO, ↓Qb]
  refine JT F_go51 (fun hG => owned_ a.kind) (by simp [QY, QX]) (by simp) ?_
  simp only [zzK, QR, QP, QQ, zz19, zz23, F_off48_0, zzH, QN, QS, F_ok3, F_ag3, F_sz3, zz8, zzD, zzC, QA, yyE, Qe, JE, JF, JB, zz6, QO, ↓Qb, atsL, oksG, JV, QZ, Qa, JO, Qm, QT, QS, zz9, QB, QA, S_mem, yyF, QF, zz2]
  refine hK2 _ ?_; try clear hK2 K2
  refine kpA [1, 22] ?_
  refine cnA ?_ ?_
  ·intro hb
   have e2 : acOwn a.kind = true := hb
   clear hb
   refine JA fun K3 hK3 => ?_
   refine Qz F_mixed [some 26, some 27, some 28, some 29, some 30, some 31, some 32, some 33, some 2] rfl ?_
   simp only [zzK, QR, QP, QQ, QU, JZ, zz5, Qj, Qi, Qh, zz19, zz23, F_off48_1, zzH, QN, QS, F_ok3, F_ag3, F_sz3, zz8, zzD, zzC, QA, yyE, Qe, zz21, JM, zz31, JC, b_leq, pure_leq, zz13, JQ, JR, JB, zz6, QO, ↓Qb]
   refine hK3 _ ?_; try clear hK3 K3
   refine kpA [2] ?_
   refine JJ ?_
   simp only [zz6, QO, ↓Qb]
   refine dnA ?_
   simp only [QD, QE, resA, JZ, QR, QP, JD, QQ, Qd, Qc, JP]
   rw [acOk, e, e2]; cases decide (a.who ≥ 1) <;> rfl
  ·intro hb
   have e2 : acOwn a.kind = false := hb
   clear hb
   refine JI ?_
   simp only [zz6, QO, ↓Qb]
   refine hK0 _ ?_; try clear hK0 K0
   refine kpA [1] ?_
   refine JA fun K0 hK0 => ?_
   refine Qz F_mixed [some 34, some 35, some 36, some 2] rfl ?_
   simp only [zzK, QR, QP, QQ, zz19, zz23, F_off48_1, zzH, QN, QS, F_ok3, F_ag3, F_sz3, zz8, zzD, zzC, QA, yyE, Qe, zz21, JM, zz34, JB, zz6, QO, ↓Qb]
   refine hK0 _ ?_; try clear hK0 K0
   refine kpA [2] ?_
   refine JJ ?_
   simp only [zz6, QO, ↓Qb]
   refine dnA ?_
   simp only [QD, QE, resA, JZ, QR, QP, JD, QQ, Qd, Qc, JP]
   rw [acOk, e, e2]; rfl
theorem acLess_ (a b : AcV) : ACalls Try.prog 55 [.agg (acC a), .agg (acC b)] [] (bv (acLt a b)) := by
 refine acalls_S (rs := [.tmp 4]) Try.func55 rfl rfl 32 [(0, .d (.agg (acC a))), (1, .d (.agg (acC b)))] rfl (by simp) rfl ?_
 refine JA fun K0 hK0 => ?_
 refine Qz F_mixed [some 2, some 3, some 4] rfl ?_
 simp only [zzK, QR, QP, QQ, zz35, JS, zz1, zzG, zzD, zzC, QA, yyE, Qe, QS, QN, zzH, JB, acC, zz6, QO, ↓Qb]
 refine hK0 _ ?_; try clear hK0 K0
 refine kpA [2, 3] ?_
 refine JA fun K0 hK0 => ?_
 refine JH ?_
 refine JA fun K1 hK1 => ?_
 refine Qz F_mixed [some 6, some 7, some 8, some 9, some 10, some 5] rfl ?_
 simp only [zzK, QR, QP, QQ, zz19, zz23, F_off48_0, zzH, QN, QS, F_ok3, F_ag3, F_sz3, zz8, zzD, zzC, QA, yyE, Qe, zz21, JM, zz28, JB, zz6, QO, ↓Qb]
 refine hK1 _ ?_; try clear hK1 K1
 refine kpA [2, 3, 5] ?_
 refine cnA ?_ ?_
 ·intro hb
  have e : acLt a b = decide (a.kind < b.kind) := by simp only [acLt, hb, Qd]
  refine JA fun K2 hK2 => ?_
  refine Qz F_mixed [some 11, some 12, some 13, some 14, some 15, some 4] rfl ?_
  simp only [zzK, QR, QP, QQ, zz19, zz23, F_off48_0, zzH, QN, QS, F_ok3, F_ag3, F_sz3, zz8, zzD, zzC, QA, yyE, Qe, zz21, JM, zz22, JB, zz6, QO, ↓Qb]
  refine hK2 _ ?_; try clear hK2 K2
  refine kpA [4] ?_
  refine JJ ?_
  simp only [zz6, QO, ↓Qb]
  refine dnA ?_
  simp only [QD, QE, resA, JZ, QR, QP, JD, QQ, Qd, Qc, JP]
  rw [e]
 ·intro hb
  skip
  refine JA fun K2 hK2 => ?_
  refine Qz F_mixed [some 17, some 18, some 19, some 20, some 21, some 16] rfl ?_
  simp only [zzK, QR, QP, QQ, zz19, zz23, F_off48_1, zzH, QN, QS, F_ok3, F_ag3, F_sz3, zz8, zzD, zzC, QA, yyE, Qe, zz21, JM, zz28, JB, zz6, QO, ↓Qb]
  refine hK2 _ ?_; try clear hK2 K2
  refine kpA [2, 3, 16] ?_
  refine cnA ?_ ?_
  ·intro hb
   rename_i hb0
   have e : acLt a b = decide (a.who < b.who) := by simp only [acLt, hb0, hb, Qd, Qc]
   refine JA fun K3 hK3 => ?_
   refine Qz F_mixed [some 22, some 23, some 24, some 25, some 26, some 4] rfl ?_
   simp only [zzK, QR, QP, QQ, zz19, zz23, F_off48_1, zzH, QN, QS, F_ok3, F_ag3, F_sz3, zz8, zzD, zzC, QA, yyE, Qe, zz21, JM, zz22, JB, zz6, QO, ↓Qb]
   refine hK3 _ ?_; try clear hK3 K3
   refine kpA [4] ?_
   refine JJ ?_
   simp only [zz6, QO, ↓Qb]
   refine dnA ?_
   simp only [QD, QE, resA, JZ, QR, QP, JD, QQ, Qd, Qc, JP]
   rw [e]
  ·intro hb
   rename_i hb0
   have e : acLt a b = decide (a.cur < b.cur) := by simp only [acLt, hb0, hb, Qc]
   refine JI ?_
   simp only [zz6, QO, ↓Qb]
   refine hK0 _ ?_; try clear hK0 K0
   refine kpA [2, 3] ?_
   refine JA fun K0 hK0 => ?_
   refine Qz F_mixed [some 27, some 28, some 29, some 30, some 31, some 4] rfl ?_
   simp only [zzK, QR, QP, QQ, zz19, zz23, F_off48_2, zzH, QN, QS, F_ok3, F_ag3, F_sz3, zz8, zzD, zzC, QA, yyE, Qe, zz21, JM, zz22, JB, zz6, QO, ↓Qb]
   refine hK0 _ ?_; try clear hK0 K0
   refine kpA [4] ?_
   refine JJ ?_
   simp only [zz6, QO, ↓Qb]
   refine dnA ?_
   simp only [QD, QE, resA, JZ, QR, QP, JD, QQ, Qd, Qc, JP]
   rw [e]
theorem legCmp_ (a b : LegV) : ACalls Try.prog 54 [.agg (legC a), .agg (legC b)] [] (.d (iv (legCmp a b))) := by
 refine acalls_S (rs := [.tmp 4]) Try.func54 rfl rfl 17 [(0, .d (.agg (legC a))), (1, .d (.agg (legC b)))] rfl (by simp) rfl ?_
 refine JA fun K0 hK0 => ?_
 refine Qz F_mixed [some 2, some 3, some 4] rfl ?_
 simp only [zzK, QR, QP, QQ, zz35, JS, zz1, zzG, zzD, zzC, QA, yyE, Qe, QS, QN, zzH, JB, legC, zz6, QO, ↓Qb]
 refine hK0 _ ?_; try clear hK0 K0
 refine kpA [2, 3] ?_
 refine JA fun K0 hK0 => ?_
 refine JH ?_
 refine JA fun K1 hK1 => ?_
 refine Qz F_mixed [some 6, some 7, some 8, some 9, some 10, some 5] rfl ?_
 simp only [zzK, QR, QP, QQ, zz19, zz23, F_off50_0, zzH, QN, QS, F_ok48, F_ag48, F_sz48, zz8, zzD, zzC, QA, yyE, Qe, JE, JF, JB, acC, QW, zz6, QO, ↓Qb]
 refine JT F_go55 (fun hG => acLess_ a.ac b.ac) (by simp [QY, QX]) (by simp) ?_
 simp only [zzK, QR, QP, QQ, zz19, zz23, F_off50_0, zzH, QN, QS, F_ok48, F_ag48, F_sz48, zz8, zzD, zzC, QA, yyE, Qe, JE, JF, JB, acC, QW, zz6, QO, ↓Qb, atsL, oksG, JV, QZ, Qa, JO, Qm, QT, QS, zz9, QB, QA, S_mem, yyF, QF, zz2]
 refine hK1 _ ?_; try clear hK1 K1
 refine kpA [2, 3, 5] ?_
 refine cnA ?_ ?_
 ·intro hb
  have e : legCmp a b = -1 := by simp only [legCmp, hb, Qd]
  refine JA fun K2 hK2 => ?_
  refine Qz F_mixed [some 4] rfl ?_
  simp only [zzK, QR, QP, QQ, JB, zz6, QO, ↓Qb]
  refine hK2 _ ?_; try clear hK2 K2
  refine kpA [4] ?_
  refine JJ ?_
  simp only [zz6, QO, ↓Qb]
  refine dnA ?_
  simp only [QD, QE, resA, JZ, QR, QP, JD, QQ, Qd, Qc, JP]
  rw [e]
 ·intro hb
  skip
  refine JA fun K2 hK2 => ?_
  refine Qz F_mixed [some 12, some 13, some 14, some 15, some 16, some 11] rfl ?_
  simp only [zzK, QR, QP, QQ, zz19, zz23, F_off50_0, zzH, QN, QS, F_ok48, F_ag48, F_sz48, zz8, zzD, zzC, QA, yyE, Qe, JE, JF, JB, acC, QW, zz6, QO, ↓Qb]
  refine JT F_go55 (fun hG => acLess_ b.ac a.ac) (by simp [QY, QX]) (by simp) ?_
  simp only [zzK, QR, QP, QQ, zz19, zz23, F_off50_0, zzH, QN, QS, F_ok48, F_ag48, F_sz48, zz8, zzD, zzC, QA, yyE, Qe, JE, JF, JB, acC, QW, zz6, QO, ↓Qb, atsL, oksG, JV, QZ, Qa, JO, Qm, QT, QS, zz9, QB, QA, S_mem, yyF, QF, zz2]
  refine hK2 _ ?_; try clear hK2 K2
  refine kpA [11] ?_
  refine cnA ?_ ?_
  ·intro hb
   rename_i hb0
   have e : legCmp a b = 1 := by simp only [legCmp, hb0, hb, Qd, Qc]
   refine JA fun K3 hK3 => ?_
   refine Qz F_mixed [some 4] rfl ?_
   simp only [zzK, QR, QP, QQ, JB, zz6, QO, ↓Qb]
   refine hK3 _ ?_; try clear hK3 K3
   refine kpA [4] ?_
   refine JJ ?_
   simp only [zz6, QO, ↓Qb]
   refine dnA ?_
   simp only [QD, QE, resA, JZ, QR, QP, JD, QQ, Qd, Qc, JP]
   rw [e]
  ·intro hb
   rename_i hb0
   have e : legCmp a b = 0 := by simp only [legCmp, hb0, hb, Qc]
   refine JI ?_
   simp only [zz6, QO, ↓Qb]
   refine hK0 _ ?_; try clear hK0 K0
   refine kpA [] ?_
   refine JA fun K0 hK0 => ?_
   refine Qz F_mixed [some 4] rfl ?_
   simp only [zzK, QR, QP, QQ, JB, zz6, QO, ↓Qb]
   refine hK0 _ ?_; try clear hK0 K0
   refine kpA [4] ?_
   refine JJ ?_
   simp only [zz6, QO, ↓Qb]
   refine dnA ?_
   simp only [QD, QE, resA, JZ, QR, QP, JD, QQ, Qd, Qc, JP]
   rw [e]
theorem eRight_ (l : List LegV) (hl : l.length ≤ 1000000) : ACalls Try.prog 52 [legs l] [] (bv (l.all legOk)) := by
 refine acalls_S (rs := [.tmp 2]) Try.func52 rfl rfl 23 [(0, .d (legs l))] rfl (by simp) rfl ?_
 refine JA fun K0 hK0 => ?_
 refine Qz F_mixed [some 2] rfl ?_
 simp only [zzK, QR, QP, QQ, JB, zz6, QO, ↓Qb]
 refine hK0 _ ?_; try clear hK0 K0
 refine kpA [0] ?_
 refine JA fun K0 hK0 => ?_
 refine JA fun K1 hK1 => ?_
 refine Qz F_mixed [some 5, some 6, some 7] rfl ?_
 simp only [zzK, QR, QP, QQ, JC, JE, zz12, F_sl39, Option.isSome_some, legs, JN, zz6, QO, ↓Qb]
 refine hK1 _ ?_; try clear hK1 K1
 refine kpA [5, 6, 7] ?_
 refine JH ?_
 refine awp_loop (fun m s => ∃ pre post : List LegV, l = pre ++ post ∧ pre.all legOk = true ∧ m = post.length ∧ s = S 23 [(5, .d (legs l)), (6, .d (iv l.length)), (7, .d (iv pre.length))] []) l.length _ (le_SK id [] rfl (l' := [(5, .d (legs l)), (6, .d (iv l.length)), (7, .d (iv ([] : List LegV).length))]) (m' := []) ?_ ?_ ?_ ?_) ⟨[], l, rfl, rfl, rfl, rfl⟩ ?_
 ·simp only [leV, JD, QQ, Qd, Qc, legs, JN]; exact ⟨Qn _, Qn _, Qn _, trivial⟩
 ·exact trivial
 ·simp [wfV, QY, QX, lookR]
 ·simp [wfR, QX, QY]
 rintro m s ⟨pre, post, rfl, hp, rfl, rfl⟩
 refine JA fun K2 hK2 => ?_
 refine Qz F_mixed [some 8] rfl ?_
 simp only [zzK, QR, QP, QQ, zz21, JM, zz22, zz6, QO, ↓Qb]
 refine hK2 _ ?_; try clear hK2 K2
 refine kpA [5, 6, 7, 8] ?_
 refine JA fun K2 hK2 => ?_
 refine cnA ?_ ?_
 ·intro hb
  obtain ⟨x, post, rfl⟩ := more_of hb; clear hb
  refine JI ?_
  simp only [zz6, QO, ↓Qb]
  refine hK2 _ ?_; try clear hK2 K2
  refine kpA [5, 6, 7] ?_
  refine JA fun K2 hK2 => ?_
  refine JH ?_
  refine JA fun K3 hK3 => ?_
  refine Qz F_mixed [some 9, some 10, some 4, none] rfl ?_
  simp only [zzK, QR, QP, QQ, JW, zz23, zz24, F_sl39, F_sz50, QA, zzC, yyE, Qe, F_ok50, F_ag50, zz8, zzD, QS, QN, zzH, zz32, JS, F_zero50, zz10, zz18, splice, QG, zz1, zzG, legs, legC, getD_mid, JN, lt_mid, ge_mid, QW, zz6, QO, ↓Qb]
  refine hK3 _ ?_; try clear hK3 K3
  refine kpA [4, 5, 6, 7] ?_
  refine JA fun K3 hK3 => ?_
  refine Qz F_mixed [some 11, some 12, some 13, some 14, some 15, some 16, some 17, some 18, some 19, some 20, some 21] rfl ?_
  simp only [zzK, QR, QP, QQ, QU, JZ, zz5, Qj, Qi, Qh, zz19, zz23, F_off50_0, zzH, QN, QS, F_ok48, F_ag48, F_sz48, zz8, zzD, zzC, QA, yyE, Qe, JE, JF, zz29, JM, zz30, JC, F_off50_1, F_ok3, F_ag3, F_sz3, F_sl57, F_zero3, zz3, JS, zz1, zzG, maxLen_le, QT, zz13, JQ, JR, acC, QW, ints, QD, D.sl.injEq, zz6, QO, ↓Qb]
  refine JT F_go34 (fun hG => acRight_ x.ac) (by simp [QY, QX]) (by simp) ?_
  simp only [zzK, QR, QP, QQ, QU, JZ, zz5, Qj, Qi, Qh, zz19, zz23, F_off50_0, zzH, QN, QS, F_ok48, F_ag48, F_sz48, zz8, zzD, zzC, QA, yyE, Qe, JE, JF, zz29, JM, zz30, JC, F_off50_1, F_ok3, F_ag3, F_sz3, F_sl57, F_zero3, zz3, JS, zz1, zzG, maxLen_le, QT, zz13, JQ, JR, acC, QW, ints, QD, zz6, QO, ↓Qb, atsL, oksG, JV, QZ, Qa, JO, Qm, QT, QS, zz9, QB, QA, S_mem, yyF, QF, zz2]
  refine JT F_go35 (fun hG => Right_ [x.amt] (by simp)) (by simp [QY, QX]) (by simp) ?_
  simp only [zzK, QR, QP, QQ, QU, JZ, zz5, Qj, Qi, Qh, zz19, zz23, F_off50_0, zzH, QN, QS, F_ok48, F_ag48, F_sz48, zz8, zzD, zzC, QA, yyE, Qe, JE, JF, zz29, JM, zz30, JC, F_off50_1, F_ok3, F_ag3, F_sz3, F_sl57, F_zero3, zz3, JS, zz1, zzG, maxLen_le, QT, zz13, JQ, JR, acC, QW, ints, QD, zz6, QO, ↓Qb, atsL, oksG, JV, QZ, Qa, JO, Qm, QT, QS, zz9, QB, QA, S_mem, yyF, QF, zz2]
  refine hK3 _ ?_; try clear hK3 K3
  refine kpA [5, 6, 7, 21] ?_
  refine cnA ?_ ?_
  ·intro hb
   have hq : legOk x = false := by
    simp only [legOk]
    cases h1 : acOk x.ac <;> cases h2 : rightN x.amt <;> simp [h1, h2] at hb ⊢
   try clear hb
   refine JA fun K4 hK4 => ?_
   refine Qz F_mixed [some 2] rfl ?_
   simp only [zzK, QR, QP, QQ, JB, zz6, QO, ↓Qb]
   refine hK4 _ ?_; try clear hK4 K4
   refine kpA [2] ?_
   refine JJ ?_
   simp only [zz6, QO, ↓Qb]
   refine dnA ?_
   simp only [QD, QE, resA, JZ, QR, QP, JD, QQ, Qd, Qc, JP]
   simp [hq]
  ·intro hb
   have hq : legOk x = true := by
    simp only [legOk]
    cases h1 : acOk x.ac <;> cases h2 : rightN x.amt <;> simp [h1, h2] at hb ⊢
   clear hb
   refine JI ?_
   simp only [zz6, QO, ↓Qb]
   refine hK2 _ ?_; try clear hK2 K2
   refine kpA [5, 6, 7] ?_
   refine Qz F_mixed [some 22, some 7] rfl ?_
   simp only [zzK, QR, QP, QQ, zz21, JM, zz26, JC, zz6, QO, ↓Qb]
   refine ⟨post.length, _, by simp, le_SK id [] rfl (l' := [(5, .d (legs (pre ++ x :: post))), (6, .d (iv (pre ++ x :: post).length)), (7, .d (iv (pre ++ [x]).length))]) (m' := []) ?_ ?_ ?_ ?_, pre ++ [x], post, by simp, by simp [hp, hq], rfl, rfl⟩
   ·simp only [leV, JD, QQ, Qd, Qc, legs, JN, wrap_len pre x (by simp at hl; omega)]; exact ⟨Qn _, Qn _, Qn _, trivial⟩
   ·exact trivial
   ·simp [wfV, QY, QX, lookR]
   ·simp [wfR, QX, QY]
 ·intro hb
  obtain rfl := none_of hb; clear hb
  refine JK ?_
  simp only [zz6, QO, ↓Qb]
  refine hK0 _ ?_; try clear hK0 K0
  refine kpA [] ?_
  refine JA fun K0 hK0 => ?_
  refine Qz F_mixed [some 2] rfl ?_
  simp only [zzK, QR, QP, QQ, JB, zz6, QO, ↓Qb]
  refine hK0 _ ?_; try clear hK0 K0
  refine kpA [2] ?_
  refine JJ ?_
  simp only [zz6, QO, ↓Qb]
  refine dnA ?_
  simp only [QD, QE, resA, JZ, QR, QP, JD, QQ, Qd, Qc, JP]
  simp [hp]
theorem legSC : SC Try.prog 54 [] legCmpD isLeg 4 where
 go := ⟨_, Try.func54, rfl, rfl⟩
 call x y hx hy := by
  obtain ⟨a, rfl⟩ := hx
  obtain ⟨b, rfl⟩ := hy
  exact legCmp_ a b
 len x hx := by obtain ⟨b, rfl⟩ := hx; rfl
 flat x hx := by obtain ⟨b, rfl⟩ := hx; simp [legC, flatDs, Jc]
 cell x hx := by obtain ⟨b, rfl⟩ := hx; simp [legC, cell1s, AV.cell1, Value.oneCell']
 swo := legCmp_swo
theorem legSortC (l : List LegV) (hl : l.length ≤ 1000000) : MCalls Try.prog 53 [.m 0, .d (.v (.func (.func 54) #[] #[]))] [⟨50, 4, l.map legC⟩] [⟨50, 4, (legSort l).map legC⟩] [] (.tp []) := by
 have e := mcalls_fn0 (sLeg_sort legSC (l.map legC) (okM_legs l) (by simpa using hl))
 rw [sort_legs] at e
 exact e

set_option maxRecDepth 100000 in
set_option maxHeartbeats 4000000 in
theorem Join_ (l : List LegV) (hl : l.length ≤ 1000000) : ACalls Try.prog 36 [legs l] [⟨50, 4, (joinV l).map legC⟩] (.tp [.ref 0 (joinV l).length, .d (iv (joinR l))]) := by
 refine acalls_S (rs := [.tmp 2, .tmp 3]) Try.func36 rfl rfl 68 [(0, .d (legs l))] rfl (by simp) rfl ?_
 refine JA fun K0 hK0 => ?_
 refine Qz F_mixed [some 2, some 3] rfl ?_
 simp only [zzK, QR, QP, QQ, JB, zz6, QO, ↓Qb]
 refine hK0 _ ?_; try clear hK0 K0
 refine kpA [0] ?_
 refine JA fun K0 hK0 => ?_
 refine JA fun K1 hK1 => ?_
 refine Qz F_mixed [some 11, some 12, some 13] rfl ?_
 simp only [zzK, QR, QP, QQ, JC, JE, JF, zz29, JM, zz30, legs, zz6, QO, ↓Qb]
 refine JT F_go52 (fun hG => eRight_ l hl) (by simp [QY, QX]) (by simp) ?_
 simp only [zzK, QR, QP, QQ, JC, JE, JF, zz29, JM, zz30, legs, zz6, QO, ↓Qb, atsL, oksG, JV, QZ, Qa, JO, Qm, QT, QS, zz9, QB, QA, zzC, yyF, zzD, zz2]
 refine hK1 _ ?_; try clear hK1 K1
 refine kpA [0, 13] ?_
 refine cnA ?_ ?_
 ·intro hb
  have hok : l.all legOk = false := by simpa using hb
  clear hb
  have hjr : joinR l = 3 := by simp only [joinR, hok, Qc]
  have hjv : joinV l = [] := by simp only [joinV, hjr]; rfl
  refine JA fun K2 hK2 => ?_
  refine Qz F_mixed [some 2, some 3] rfl ?_
  simp only [zzK, QR, QP, QQ, JB, zz6, QO, ↓Qb]
  refine hK2 _ ?_; try clear hK2 K2
  refine kpA [2, 3] ?_
  refine awp_le (le_SK id [0] rfl (l' := [(2, .ref 0 0), (3, .d (iv 3))]) (m' := [(0, (⟨True, 50, 4, true, true, 0, []⟩ : ARow))]) ?_ ?_ ?_ ?_) ?_
  ·simp only [leV, JD, QQ, Qd, Qc]; exact ⟨Qq (by decide), Qo rfl, trivial⟩
  ·exact ⟨fun h => by simp at h, fun _ => rfl, trivial⟩
  ·simp [wfV, QY, lookR]
  ·simp [wfR]
  refine JJ ?_
  simp only [zz6, QO, ↓Qb]
  rw [hjv, hjr]
  refine done1 0 (by simp only [resCs, resC]; trivial) ?_ (by simp [flatA, flatAs, Jc]) (by simp [QY, QX]) (by rfl) trivial rfl rfl ?_ (by simp [flatDs, Jc])
  ·simp only [QD, QE, resA, JZ, QR, QP, JD, QQ, Qd, Qc, JP]; rfl
  ·rfl
 ·intro hb
  have hok : l.all legOk = true := by simpa using hb
  clear hb
  refine JI ?_
  simp only [zz6, QO, ↓Qb]
  refine hK0 _ ?_; try clear hK0 K0
  refine kpA [0] ?_
  refine JA fun K0 hK0 => ?_
  refine Qz F_mixed [some 14, some 15, some 16, some 4] rfl ?_
  simp only [zzK, QR, QP, QQ, F_sl39, F_zero50, F_sz50, zz3, JS, zz1, zzG, zzD, zzC, QA, yyE, Qe, QS, QN, zzH, maxLen_le, QT, JC, JE, F_by50, zz4, zz9, QB, JB, legs, JN, List.nil_append, zz6, QO, ↓Qb]
  first | refine ⟨le_maxLen hl, by omega, ?_⟩ | refine ⟨by simp, le_maxLen hl, by omega, ?_⟩ | skip
  refine hK0 _ ?_; try clear hK0 K0
  refine kpA [4] ?_
  refine JA fun K0 hK0 => ?_
  refine awp_le (le_SK id [] rfl (l' := [(4, .ref 16 l.length)]) (m' := [(16, (⟨True, 50, 4, false, true, 14, aV ((l).map legC)⟩ : ARow))]) ?_ ?_ ?_ ?_) ?_
  ·simp only [leV, JD, QQ, Qd, Qc, JN]; exact ⟨Qn _, trivial⟩
  ·exact ⟨fun _ => ⟨_, rfl, RowLe.same (by simp [aV]) (by first | exact ids_data | (simp only [List.nil_append]; exact ids_data))⟩, fun h => by simp at h, trivial⟩
  ·simp [wfV, QY, lookR]
  ·exact ⟨fun e he r' hr' => by rw [JU _ e he] at hr'; simp at hr', trivial⟩
  refine awp_le (le_SK id [] rfl (l' := [(4, .ref 16 l.length)]) (m' := [(16, (⟨True, 50, 4, true, true, 14, aV ((l).map legC)⟩ : ARow))]) ?_ ?_ ?_ ?_) ?_
  ·simp only [leV, JD, QQ, Qd, Qc]; exact ⟨Qn _, trivial⟩
  ·exact ⟨fun _ => ⟨_, rfl, RowLe.uq_ (by rfl) rfl (JU _)⟩, fun h => by simp at h, trivial⟩
  ·simp [wfV, QY, lookR]
  ·exact ⟨fun e he r' hr' => by rw [JU _ e he] at hr'; simp at hr', trivial⟩
  refine awp_mut [some 17, some 18] rfl 1 rfl ?_
  simp only [zzK, QR, QP, QQ, JC, JE, JF, aV, JN, zzB, zz6, QO, ↓Qb]
  refine mut_go [16] F_go53 (legSortC l hl) (by simp [QY, QX]) (by decide) (by first | exact ⟨by decide, by simp⟩ | rfl) ?_
  simp only [zzK, QR, QP, QQ, JC, JE, JF, aV, JN, zzB, zz6, QO, ↓Qb, mArgs_nil, asE_cl, asF_cl, asD_ptr, asG_ptr, asD_ep, asG_ep, List.mem_singleton, forall_eq, asEc_cons, asEc_nil, mArgs_d, mArgs_m, mRows_nil, mRows_cons, mNewL, nxM, mBase, mName, oksL, List.getElem?_cons_zero, List.getElem?_cons_succ, zzF, asE_ag, asE_d, asE_ref, asEc_cons, asEc_nil, asF_d, asF_ref, asF_ag, asGs, QY, QX, QM, List.not_mem_nil, false_implies, forall_const, atsL, asD_self, asD_nil, asD_sl, asD_agg, asD_int, asD_bool, asD_func, asD_ag, asD_ref, asG_d, asG_ag, asG_ref, JV, QZ, Qa, JO, Qm, QT, QS, zz9, QB, QA, zzC, yyF, zzD, S_func, Sk_func]
  refine ⟨by simp [flatDs, Jc, legC], ?_⟩
  generalize hSS : legSort l = SS
  have hSl : SS.length = l.length := by rw [← hSS]; exact legSort_len l
  refine hK0 _ ?_; try clear hK0 K0
  refine kpA [4] ?_
  refine JA fun K0 hK0 => ?_
  refine Qz F_mixed [some 5] rfl ?_
  simp only [zzK, QR, QP, QQ, JB, zz6, QO, ↓Qb]
  refine hK0 _ ?_; try clear hK0 K0
  refine kpA [4, 5] ?_
  refine JA fun K0 hK0 => ?_
  refine JA fun K1 hK1 => ?_
  refine Qz F_mixed [some 6] rfl ?_
  simp only [zzK, QR, QP, QQ, JB, zz6, QO, ↓Qb]
  refine hK1 _ ?_; try clear hK1 K1
  refine kpA [4, 5, 6] ?_
  refine JH ?_
  refine awp_loop (fun m s => ∃ P R out : List LegV, SS = P ++ R ∧ joinE SS = joinE R ∧ joinO SS = out ++ joinO R ∧ out.length ≤ P.length ∧ m = R.length ∧ s = S 68 [(4, .ref 16 SS.length), (5, .ref 5 (out).length), (6, .d (iv P.length))] [(16, (⟨True, 50, 4, true, true, 14, aV ((SS).map legC)⟩ : ARow)), (5, grow 50 4 5 (out.map legC))]) SS.length _ (le_SK id [5] rfl (l' := [(4, .ref 16 SS.length), (5, .ref 5 (([] : List LegV)).length), (6, .d (iv ([] : List LegV).length))]) (m' := [(16, (⟨True, 50, 4, true, true, 14, aV ((SS).map legC)⟩ : ARow)), (5, grow 50 4 5 (([] : List LegV).map legC))]) ?_ ?_ ?_ ?_) ⟨[], SS, [], rfl, rfl, rfl, by simp, rfl, rfl⟩ ?_
  ·simp only [leV, JD, QQ, Qd, Qc, ← hSl]; exact ⟨VLe.ref_ (f := id) (r := 16) (by simp), Qq (by decide), Qo rfl, trivial⟩
  ·exact ⟨fun _ => ⟨_, rfl, RowLe.same rfl ids_data⟩, fun h => by simp at h, fun h => by simp at h, fun _ => rfl, trivial⟩
  ·simp [wfV, QY, lookR]
  ·exact ⟨fun e he r' hr' => by rw [JU _ e he] at hr'; simp at hr', by simp [wfR, grow, QX, QY], trivial⟩
  rintro m s ⟨P, R, out, hPR, hE, hO, hol, rfl, rfl⟩
  refine JA fun K2 hK2 => ?_
  refine JA fun K3 hK3 => ?_
  refine Qz F_mixed [some 19, some 20, some 21, some 22] rfl ?_
  simp only [zzK, QR, QP, QQ, JC, JE, zz12, F_sl39, Option.isSome_some, zz21, JM, zz22, zz6, QO, ↓Qb]
  refine hK3 _ ?_; try clear hK3 K3
  refine kpA [4, 5, 6, 22] ?_
  refine cnA ?_ ?_
  ·intro hb
   have hPl := congrArg List.length hPR
   simp only [QC] at hPl
   obtain ⟨x, R2, rfl⟩ : ∃ x t, R = x :: t := by
    cases R with
    | nil => have := of_decide_eq_true hb; simp at hPl; omega
    | cons x t => exact ⟨x, t, rfl⟩
   clear hb
   simp only [QF] at hPl
   have gx : (SS.map legC).getD P.length [] = [iv x.ac.kind, iv x.ac.who, iv x.ac.cur, iv x.amt] := by
    rw [hPR, List.map_append]; exact gd_mid' (A := P.map legC) _ _ (by simp)
   have b1 := ltI (show P.length < SS.length by omega)
   have c1 := eq_true (show P.length < SS.length by omega)
   refine JI ?_
   simp only [zz6, QO, ↓Qb]
   refine hK2 _ ?_; try clear hK2 K2
   refine kpA [4, 5, 6] ?_
   refine JH ?_
   refine JA fun K2 hK2 => ?_
   refine Qz F_mixed [some 7] rfl ?_
   simp only [zzK, QR, QP, QQ, JB, zz6, QO, ↓Qb]
   refine hK2 _ ?_; try clear hK2 K2
   refine kpA [4, 5, 6, 7] ?_
   refine JA fun K2 hK2 => ?_
   refine Qz F_mixed [some 23, some 24, some 25, some 26, some 27, some 8, none] rfl ?_
   simp only [zzK, QR, QP, QQ, JC, JW, zz23, zz24, F_sl39, F_sz50, QA, zzC, yyE, Qe, zz19, F_off50_0, zzH, QN, QS, F_ok48, F_ag48, F_sz48, zz8, zzD, zz32, JS, F_zero48, zz10, zz18, splice, QG, zz1, zzG, aV_len, aV_get, JN, gx, b1, c1, ge0, QV, Nat.le_refl, QD, zz6, QO, ↓Qb]
   refine hK2 _ ?_; try clear hK2 K2
   refine kpA [4, 5, 6, 7, 8] ?_
   refine JA fun K2 hK2 => ?_
   refine JH ?_
   refine awp_loop (fun m s => ∃ A B : List LegV, x :: R2 = A ++ B ∧ (∀ a ∈ A, acSame a.ac x.ac = true) ∧ m = B.length ∧ s = S 68 [(4, .ref 16 SS.length), (5, .ref 5 out.length), (6, .d (iv (P.length + (A).length : Nat))), (7, .ref 7 (A).length), (8, .ptr 8 0 0)] [(16, (⟨True, 50, 4, true, true, 14, aV ((SS).map legC)⟩ : ARow)), (5, grow 50 4 5 (out.map legC)), (7, grow 3 1 7 ((amts A).map fun n => [iv n])), (8, (⟨True, 48, 3, true, false, 8, [[.d (iv x.ac.kind), .d (iv x.ac.who), .d (iv x.ac.cur)]]⟩ : ARow))]) (x :: R2).length _ (le_SK id [7] rfl (l' := [(4, .ref 16 SS.length), (5, .ref 5 out.length), (6, .d (iv (P.length + (([] : List LegV)).length : Nat))), (7, .ref 7 (([] : List LegV)).length), (8, .ptr 8 0 0)]) (m' := [(16, (⟨True, 50, 4, true, true, 14, aV ((SS).map legC)⟩ : ARow)), (5, grow 50 4 5 (out.map legC)), (7, grow 3 1 7 ((amts ([] : List LegV)).map fun n => [iv n])), (8, (⟨True, 48, 3, true, false, 8, [[.d (iv x.ac.kind), .d (iv x.ac.who), .d (iv x.ac.cur)]]⟩ : ARow))]) ?_ ?_ ?_ ?_) ⟨[], x :: R2, rfl, by simp, rfl, rfl⟩ ?_
   ·simp only [leV, JD, QQ, Qd, Qc]; exact ⟨VLe.ref_ (f := id) (r := 16) (by simp), VLe.ref_ (f := id) (r := 5) (by simp), Qo rfl, Qq (by decide), VLe.ptr_ (f := id) (r := 8) (by simp), trivial⟩
   ·exact ⟨fun _ => ⟨_, rfl, Qv (JU _)⟩, fun h => by simp at h, fun _ => ⟨_, rfl, Qw rfl⟩, fun h => by simp at h, fun h => by simp at h, fun _ => rfl, fun _ => ⟨_, rfl, Qv (by simp [QX, QY])⟩, fun h => by simp at h, trivial⟩
   ·simp [wfV, QY, lookR]
   ·exact ⟨fun e he r' hr' => by rw [JU _ e he] at hr'; simp at hr', wf_data _ _, by simp [grow, amts], by simp [QX, QY], trivial⟩
   rintro m s ⟨A, B0, hAB, hA, rfl, rfl⟩
   have hABl := congrArg List.length hAB
   simp only [QF, QC] at hABl
   have hAl : (amts A).length = A.length := by simp [amts]
   have hcase : (B0 = [] ∧ (((P.length + A.length : Nat) : Int) < (SS.length : Int)) = False ∧ (P.length + A.length < SS.length) = False ∧ (SS.map legC).getD (P.length + A.length) [] = []) ∨ (∃ b B2, B0 = b :: B2 ∧ (((P.length + A.length : Nat) : Int) < (SS.length : Int)) = True ∧ (P.length + A.length < SS.length) = True ∧ (SS.map legC).getD (P.length + A.length) [] = [iv b.ac.kind, iv b.ac.who, iv b.ac.cur, iv b.amt]) := by
    cases B0 with
    | nil =>
     simp only [List.length_nil] at hABl
     refine .inl ⟨rfl, by simp only [eq_iff_iff, iff_false]; omega, by simp only [eq_iff_iff, iff_false]; omega, ?_⟩
     simp [List.getD, List.getElem?_eq_none (show SS.length ≤ P.length + A.length by omega)]
    | cons b B2 =>
     simp only [QF] at hABl
     refine .inr ⟨b, B2, rfl, by simp only [eq_iff_iff, iff_true]; omega, by simp only [eq_iff_iff, iff_true]; omega, ?_⟩
     rw [hPR, hAB, show P ++ (A ++ b :: B2) = (P ++ A) ++ b :: B2 by simp, List.map_append]
     exact gd_mid' (A := (P ++ A).map legC) _ _ (by simp)
   rcases hcase with ⟨rfl, b2, c2, gb⟩ | ⟨b, B2, rfl, b2, c2, gb⟩
   ·skip
    refine JA fun K4 hK4 => ?_
    refine JA fun K5 hK5 => ?_
    refine awp_draw F_mixed [some 28, some 29, some 30, some 31, some 32, some 33, some 34, some 35, some 36, some 37, some 38, some 39, some 40] rfl (by kernel_rfl) ?_
    simp only [zzK, QR, QP, QQ, QU, JZ, zz5, Qj, Qi, Qh, JC, JE, zz12, F_sl39, Option.isSome_some, zz21, JM, zz22, JW, zz23, zz24, F_sz50, QA, zzC, yyE, Qe, zz19, F_off50_0, zzH, QN, QS, F_ok48, F_ag48, F_sz48, zz8, zzD, gr_ag, gr_agg, grL_cons, grL_nil, grD_cons, grD_nil, b_eqla, b_neqa, F_eql48, zz13, JQ, JR, decide_true, decide_false, Bool.false_eq_true, false_implies, b2, c2, gb, List.take_nil, List.drop_nil, aV_len, aV_get, JN, ge0, QV, Nat.le_refl, zzG, veqL, veq, zz6, QO, ↓Qb]
    refine hK5 _ ?_; try clear hK5 K5
    refine kpA [4, 5, 6, 7, 8, 40] ?_
    refine cnA ?_ ?_
    ·intro hb
     first | cases hb | simp at hb
    ·intro hb
     clear hb
     have hAx : ∃ A2, A = x :: A2 := ⟨R2, by simpa using hAB.symm⟩
     have hB0 : ([] : List LegV) = [] ∨ ∃ b t, ([] : List LegV) = b :: t ∧ acSame b.ac x.ac = false := .inl rfl
     obtain ⟨A2, rfl⟩ : ∃ A2, A = x :: A2 := hAx
     have hA2 : ∀ a ∈ A2, acSame a.ac x.ac = true := fun a ha => hA a (List.mem_cons_of_mem _ ha)
     have hjs := join_step hA2 hB0
     have hRR : x :: R2 = x :: (A2 ++ ([] : List LegV)) := hAB
     rw [hRR] at hE hO hPR
     have hBl : ([] : List LegV).length < (x :: R2).length := by rw [hRR]; simp <;> omega
     have hsl : (amts (x :: A2)).length ≤ 1000000 := by simp only [QF] at hABl hAl ⊢; omega
     refine JK ?_
     simp only [zz6, QO, ↓Qb]
     refine hK2 _ ?_; try clear hK2 K2
     refine kpA [4, 5, 6, 7, 8] ?_
     refine JA fun K2 hK2 => ?_
     refine Qz F_mixed [some 52, some 53, some 51, some 54, some 55, some 9, some 10] rfl ?_
     simp only [zzK, QR, QP, QQ, JC, JE, JF, zz14, zzD, QS, QN, zzF, JB, ints, grow, D.sl.injEq, JN, zz6, QO, ↓Qb]
     refine JT F_go29 (fun hG => Sum_ (amts (x :: A2)) (by omega)) (by simp [QY, QX]) (by simp) ?_
     simp only [zzK, QR, QP, QQ, JC, JE, JF, zz14, zzD, QS, QN, zzF, JB, ints, grow, JN, zz6, QO, ↓Qb, atsL, oksG, JV, QZ, Qa, JO, Qm, QT, QS, zz9, QB, QA, zzC, yyF, QF, zz2]
     refine ⟨by simp [amts], ?_⟩
     refine hK2 _ ?_; try clear hK2 K2
     refine kpA [4, 5, 6, 8, 9, 10] ?_
     refine JA fun K2 hK2 => ?_
     refine JA fun K3 hK3 => ?_
     refine Qz F_mixed [some 56, some 57] rfl ?_
     simp only [zzK, QR, QP, QQ, JC, zz21, JM, zz28, zz6, QO, ↓Qb]
     refine hK3 _ ?_; try clear hK3 K3
     refine kpA [4, 5, 6, 8, 9, 10, 57] ?_
     refine cnA ?_ ?_
     ·intro hb
      have hse : (sumE (amts (x :: A2)) != 0) = true := hb
      clear hb
      refine JA fun K4 hK4 => ?_
      refine Qz F_mixed [some 58, some 2, some 3] rfl ?_
      simp only [zzK, QR, QP, QQ, JC, JB, zz6, QO, ↓Qb]
      refine hK4 _ ?_; try clear hK4 K4
      refine kpA [2, 3] ?_
      refine awp_le (le_SK id [0] rfl (l' := [(2, .ref 0 0), (3, .d (iv (sumE (amts (x :: A2)))))]) (m' := [(0, (⟨True, 50, 4, true, true, 0, []⟩ : ARow))]) ?_ ?_ ?_ ?_) ?_
      ·simp only [leV, JD, QQ, Qd, Qc]; exact ⟨Qq (by decide), Qo rfl, trivial⟩
      ·exact ⟨fun h => by simp at h, fun _ => rfl, trivial⟩
      ·simp [wfV, QY, lookR]
      ·simp [wfR]
      refine JJ ?_
      simp only [zz6, QO, ↓Qb]
      have hjE : joinE SS ≠ 0 := by rw [hE, hjs.1, hse]; simpa using hse
      have hjr : joinR l = joinE SS := by simp only [joinR, hok, Qd, hSS]
      have hjv : joinV l = [] := by simp only [joinV, show (joinR l == 0) = false by rw [hjr]; simpa using hjE, Qc]
      have hje : joinE SS = sumE (amts (x :: A2)) := by rw [hE, hjs.1, hse]; rfl
      rw [hjv, hjr, hje]
      refine done1 0 (by simp only [resCs, resC]; trivial) ?_ (by simp [flatA, flatAs, Jc]) (by simp [QY, QX]) (by rfl) trivial rfl rfl ?_ (by simp [flatDs, Jc])
      ·simp only [QD, QE, resA, JZ, QR, QP, JD, QQ, Qd, Qc, JP]; rfl
      ·rfl
     ·intro hb
      have hse : (sumE (amts (x :: A2)) != 0) = false := hb
      clear hb
      have hE2 := hE.trans (hjs.1.trans (by rw [hse]; try rfl))
      refine JI ?_
      simp only [zz6, QO, ↓Qb]
      refine hK2 _ ?_; try clear hK2 K2
      refine kpA [4, 5, 6, 8, 9] ?_
      refine JA fun K2 hK2 => ?_
      refine Qz F_mixed [some 59, some 60] rfl ?_
      simp only [zzK, QR, QP, QQ, JC, zz21, JM, zz28, zz6, QO, ↓Qb]
      refine hK2 _ ?_; try clear hK2 K2
      refine kpA [4, 5, 6, 8, 9, 60] ?_
      refine cnA ?_ ?_
      ·intro hb
       have hsv : (sumV (amts (x :: A2)) != 0) = true := hb
       clear hb
       have hO2 := hO.trans (by rw [hjs.2, hsv, Qd, ← List.append_assoc])
       refine Qz F_mixed [some 61, some 62, some 63, some 64, some 65, some 66, some 5] rfl ?_
       simp only [zzK, QR, QP, QQ, JC, F_ok48, F_ag48, F_sz48, zz8, zz23, zzD, QS, QN, zzH, zzC, QA, yyE, Qe, F_zero50, F_bld50, zz7, splice, Option.getD_some, QG, zz1, zzG, zz10, F_fld50_0, F_fld50_1, F_sl39, F_sz50, zz3, JS, maxLen_le, QT, JE, F_by50, zz4, zz9, QB, JB, grow, QW, unDs_map, zz6, QO, ↓Qb]
       have hm : out.length + 1 ≤ 1000000 := by omega
       first | refine ⟨le_maxLen hm, by omega, ?_⟩ | refine ⟨by simp, le_maxLen hm, by omega, ?_⟩
       clear hm
       refine ⟨([] : List LegV).length, _, hBl, le_SK (fun r => bif r == 5 then 66 else r) [] rfl (l' := [(4, .ref 16 SS.length), (5, .ref 5 ((out ++ [(⟨x.ac, sumV (amts (x :: A2))⟩ : LegV)])).length), (6, .d (iv (P ++ (x :: A2)).length))]) (m' := [(16, (⟨True, 50, 4, true, true, 14, aV ((SS).map legC)⟩ : ARow)), (5, grow 50 4 5 ((out ++ [(⟨x.ac, sumV (amts (x :: A2))⟩ : LegV)]).map legC))]) ?_ ?_ ?_ ?_, P ++ (x :: A2), ([] : List LegV), (out ++ [(⟨x.ac, sumV (amts (x :: A2))⟩ : LegV)]), by rw [hPR]; simp, hE2, hO2, by simp; omega, rfl, rfl⟩
       ·simp only [leV, JD, QQ, Qd, Qc, QC]
        refine ⟨?_, ?_, Qo rfl, trivial⟩
        ·exact VLe.ref_ (f := (fun r => bif r == 5 then 66 else r)) (r := 16) (by simp)
        ·exact VLe.ref_ (f := (fun r => bif r == 5 then 66 else r)) (r := 5) (by simp)
       ·exact ⟨fun _ => ⟨_, rfl, Qv (JU _)⟩, fun h => by simp at h, fun _ => ⟨_, rfl, Qw (by simp [legC])⟩, fun h => by simp at h, trivial⟩
       ·simp [wfV, QY, lookR, grow]
       ·exact ⟨fun e he r' hr' => by rw [JU _ e he] at hr'; simp at hr', wf_data _ _, trivial⟩
      ·intro hb
       have hsv : (sumV (amts (x :: A2)) != 0) = false := hb
       clear hb
       have hO2 := hO.trans (by rw [hjs.2, hsv, Qc, List.nil_append])
       refine JI ?_
       simp only [zz6, QO, ↓Qb]
       refine ⟨([] : List LegV).length, _, hBl, le_SK (fun r => bif r == 5 then 5 else r) [] rfl (l' := [(4, .ref 16 SS.length), (5, .ref 5 (out).length), (6, .d (iv (P ++ (x :: A2)).length))]) (m' := [(16, (⟨True, 50, 4, true, true, 14, aV ((SS).map legC)⟩ : ARow)), (5, grow 50 4 5 (out.map legC))]) ?_ ?_ ?_ ?_, P ++ (x :: A2), ([] : List LegV), out, by rw [hPR]; simp, hE2, hO2, by simp; omega, rfl, rfl⟩
       ·simp only [leV, JD, QQ, Qd, Qc, QC]
        refine ⟨?_, ?_, Qo rfl, trivial⟩
        ·exact VLe.ref_ (f := (fun r => bif r == 5 then 5 else r)) (r := 16) (by simp)
        ·exact VLe.ref_ (f := (fun r => bif r == 5 then 5 else r)) (r := 5) (by simp)
       ·exact ⟨fun _ => ⟨_, rfl, Qv (JU _)⟩, fun h => by simp at h, fun _ => ⟨_, rfl, Qw (by simp [legC])⟩, fun h => by simp at h, trivial⟩
       ·simp [wfV, QY, lookR, grow]
       ·exact ⟨fun e he r' hr' => by rw [JU _ e he] at hr'; simp at hr', wf_data _ _, trivial⟩
   ·skip
    refine JA fun K4 hK4 => ?_
    refine JA fun K5 hK5 => ?_
    refine awp_draw F_mixed [some 28, some 29, some 30, some 31, some 32, some 33, some 34, some 35, some 36, some 37, some 38, some 39, some 40] rfl (by kernel_rfl) ?_
    simp only [zzK, QR, QP, QQ, QU, JZ, zz5, Qj, Qi, Qh, JC, JE, zz12, F_sl39, Option.isSome_some, zz21, JM, zz22, JW, zz23, zz24, F_sz50, QA, zzC, yyE, Qe, zz19, F_off50_0, zzH, QN, QS, F_ok48, F_ag48, F_sz48, zz8, zzD, gr_ag, gr_agg, grL_cons, grL_nil, grD_cons, grD_nil, b_eqla, b_neqa, F_eql48, zz13, JQ, JR, decide_true, decide_false, Bool.false_eq_true, false_implies, b2, c2, gb, List.take_nil, List.drop_nil, aV_len, aV_get, JN, ge0, QV, Nat.le_refl, zzG, veqL, veq, zz6, QO, ↓Qb]
    refine hK5 _ ?_; try clear hK5 K5
    refine kpA [4, 5, 6, 7, 8, 40] ?_
    refine cnA ?_ ?_
    ·intro hb
     have hsm : acSame b.ac x.ac = true := by simpa [acSame, Bool.and_assoc] using hb
     clear hb
     have hA3 : ∀ a ∈ A ++ [b], acSame a.ac x.ac = true := fun a ha => by
      rcases List.mem_append.1 ha with ha | ha
      ·exact hA a ha
      ·obtain rfl : a = b := by simpa using ha
       exact hsm
     simp only [QF] at hABl
     have hwi : IntKind.wrap .i64 (((P.length + A.length : Nat) : Int) + 1) = ((P.length + (A.length + 1) : Nat) : Int) := by rw [wrapI (by omega) (by omega)]; omega
     refine JI ?_
     simp only [zz6, QO, ↓Qb]
     refine hK4 _ ?_; try clear hK4 K4
     refine kpA [4, 5, 6, 7, 8] ?_
     refine JA fun K4 hK4 => ?_
     refine JH ?_
     refine Qz F_mixed [some 43, some 44, some 45, some 46, some 47, some 48, some 49, some 50, some 7] rfl ?_
     simp only [zzK, QR, QP, QQ, JC, JW, zz23, zz24, F_sl39, F_sz50, QA, zzC, yyE, Qe, zz19, F_off50_1, zzH, QN, QS, F_ok3, F_ag3, F_sz3, zz8, zzD, F_sl57, F_zero3, zz3, JS, zz1, zzG, maxLen_le, QT, JE, F_by3, zz4, zz9, QB, JB, aV_len, aV_get, JN, gb, b2, c2, ge0, QV, Nat.le_refl, QD, grow, QW, unDs_map, zz6, QO, ↓Qb]
     have hm : A.length + 1 ≤ 1000000 := by omega
     first | refine ⟨le_maxLen hm, by omega, ?_⟩ | refine ⟨by simp [amts], le_maxLen hm, by omega, ?_⟩
     clear hm
     refine hK4 _ ?_; try clear hK4 K4
     refine kpA [4, 5, 6, 7, 8] ?_
     refine Qz F_mixed [some 41, some 42, some 6] rfl ?_
     simp only [zzK, QR, QP, QQ, JC, zz21, JM, zz26, JB, hwi, zz6, QO, ↓Qb]
     refine ⟨B2.length, _, by simp, le_SK (fun r => bif r == 7 then 50 else r) [] rfl (l' := [(4, .ref 16 SS.length), (5, .ref 5 out.length), (6, .d (iv (P.length + (A ++ [b]).length : Nat))), (7, .ref 7 (A ++ [b]).length), (8, .ptr 8 0 0)]) (m' := [(16, (⟨True, 50, 4, true, true, 14, aV ((SS).map legC)⟩ : ARow)), (5, grow 50 4 5 (out.map legC)), (7, grow 3 1 7 ((amts (A ++ [b])).map fun n => [iv n])), (8, (⟨True, 48, 3, true, false, 8, [[.d (iv x.ac.kind), .d (iv x.ac.who), .d (iv x.ac.cur)]]⟩ : ARow))]) ?_ ?_ ?_ ?_, A ++ [b], B2, by simp [hAB], hA3, rfl, rfl⟩
     ·simp only [leV, JD, QQ, Qd, Qc, hwi, QC, QM]
      refine ⟨?_, ?_, Qo rfl, ?_, ?_, trivial⟩
      ·exact VLe.ref_ (f := fun r => bif r == 7 then 50 else r) (r := 16) (by simp)
      ·exact VLe.ref_ (f := fun r => bif r == 7 then 50 else r) (r := 5) (by simp)
      ·exact VLe.ref_ (f := fun r => bif r == 7 then 50 else r) (r := 7) (by simp)
      ·exact VLe.ptr_ (f := fun r => bif r == 7 then 50 else r) (r := 8) (by simp)
     ·exact ⟨fun _ => ⟨_, rfl, Qv (JU _)⟩, fun h => by simp at h, fun _ => ⟨_, rfl, Qw rfl⟩, fun h => by simp at h, fun _ => ⟨_, rfl, Qw (by simp [amts])⟩, fun h => by simp at h, fun _ => ⟨_, rfl, Qv (by simp [QX, QY])⟩, fun h => by simp at h, trivial⟩
     ·simp [wfV, QY, lookR, grow]
     ·exact ⟨fun e he r' hr' => by rw [JU _ e he] at hr'; simp at hr', wf_data _ _, wf_data _ _, by simp [QX, QY], trivial⟩
    ·intro hb
     have hns : acSame b.ac x.ac = false := by
      cases h : acSame b.ac x.ac with
      | false => rfl
      | true => rw [acSame_iff] at h; rw [h] at hb; simp at hb
     clear hb
     have hAx : ∃ A2, A = x :: A2 := by
      cases A with
      | nil => simp at hAB; rw [← hAB.1, acSame_refl] at hns; cases hns
      | cons a A2 => simp at hAB; exact ⟨A2, by rw [hAB.1]⟩
     have hB0 : (b :: B2) = [] ∨ ∃ b_ t, (b :: B2) = b_ :: t ∧ acSame b_.ac x.ac = false := .inr ⟨b, B2, rfl, hns⟩
     simp only [QF] at hABl
     obtain ⟨A2, rfl⟩ : ∃ A2, A = x :: A2 := hAx
     have hA2 : ∀ a ∈ A2, acSame a.ac x.ac = true := fun a ha => hA a (List.mem_cons_of_mem _ ha)
     have hjs := join_step hA2 hB0
     have hRR : x :: R2 = x :: (A2 ++ (b :: B2)) := hAB
     rw [hRR] at hE hO hPR
     have hBl : (b :: B2).length < (x :: R2).length := by rw [hRR]; simp <;> omega
     have hsl : (amts (x :: A2)).length ≤ 1000000 := by simp only [QF] at hABl hAl ⊢; omega
     refine JK ?_
     simp only [zz6, QO, ↓Qb]
     refine hK2 _ ?_; try clear hK2 K2
     refine kpA [4, 5, 6, 7, 8] ?_
     refine JA fun K2 hK2 => ?_
     refine Qz F_mixed [some 52, some 53, some 51, some 54, some 55, some 9, some 10] rfl ?_
     simp only [zzK, QR, QP, QQ, JC, JE, JF, zz14, zzD, QS, QN, zzF, JB, ints, grow, D.sl.injEq, JN, zz6, QO, ↓Qb]
     refine JT F_go29 (fun hG => Sum_ (amts (x :: A2)) (by omega)) (by simp [QY, QX]) (by simp) ?_
     simp only [zzK, QR, QP, QQ, JC, JE, JF, zz14, zzD, QS, QN, zzF, JB, ints, grow, JN, zz6, QO, ↓Qb, atsL, oksG, JV, QZ, Qa, JO, Qm, QT, QS, zz9, QB, QA, zzC, yyF, QF, zz2]
     refine ⟨by simp [amts], ?_⟩
     refine hK2 _ ?_; try clear hK2 K2
     refine kpA [4, 5, 6, 8, 9, 10] ?_
     refine JA fun K2 hK2 => ?_
     refine JA fun K3 hK3 => ?_
     refine Qz F_mixed [some 56, some 57] rfl ?_
     simp only [zzK, QR, QP, QQ, JC, zz21, JM, zz28, zz6, QO, ↓Qb]
     refine hK3 _ ?_; try clear hK3 K3
     refine kpA [4, 5, 6, 8, 9, 10, 57] ?_
     refine cnA ?_ ?_
     ·intro hb
      have hse : (sumE (amts (x :: A2)) != 0) = true := hb
      clear hb
      refine JA fun K4 hK4 => ?_
      refine Qz F_mixed [some 58, some 2, some 3] rfl ?_
      simp only [zzK, QR, QP, QQ, JC, JB, zz6, QO, ↓Qb]
      refine hK4 _ ?_; try clear hK4 K4
      refine kpA [2, 3] ?_
      refine awp_le (le_SK id [0] rfl (l' := [(2, .ref 0 0), (3, .d (iv (sumE (amts (x :: A2)))))]) (m' := [(0, (⟨True, 50, 4, true, true, 0, []⟩ : ARow))]) ?_ ?_ ?_ ?_) ?_
      ·simp only [leV, JD, QQ, Qd, Qc]; exact ⟨Qq (by decide), Qo rfl, trivial⟩
      ·exact ⟨fun h => by simp at h, fun _ => rfl, trivial⟩
      ·simp [wfV, QY, lookR]
      ·simp [wfR]
      refine JJ ?_
      simp only [zz6, QO, ↓Qb]
      have hjE : joinE SS ≠ 0 := by rw [hE, hjs.1, hse]; simpa using hse
      have hjr : joinR l = joinE SS := by simp only [joinR, hok, Qd, hSS]
      have hjv : joinV l = [] := by simp only [joinV, show (joinR l == 0) = false by rw [hjr]; simpa using hjE, Qc]
      have hje : joinE SS = sumE (amts (x :: A2)) := by rw [hE, hjs.1, hse]; rfl
      rw [hjv, hjr, hje]
      refine done1 0 (by simp only [resCs, resC]; trivial) ?_ (by simp [flatA, flatAs, Jc]) (by simp [QY, QX]) (by rfl) trivial rfl rfl ?_ (by simp [flatDs, Jc])
      ·simp only [QD, QE, resA, JZ, QR, QP, JD, QQ, Qd, Qc, JP]; rfl
      ·rfl
     ·intro hb
      have hse : (sumE (amts (x :: A2)) != 0) = false := hb
      clear hb
      have hE2 := hE.trans (hjs.1.trans (by rw [hse]; try rfl))
      refine JI ?_
      simp only [zz6, QO, ↓Qb]
      refine hK2 _ ?_; try clear hK2 K2
      refine kpA [4, 5, 6, 8, 9] ?_
      refine JA fun K2 hK2 => ?_
      refine Qz F_mixed [some 59, some 60] rfl ?_
      simp only [zzK, QR, QP, QQ, JC, zz21, JM, zz28, zz6, QO, ↓Qb]
      refine hK2 _ ?_; try clear hK2 K2
      refine kpA [4, 5, 6, 8, 9, 60] ?_
      refine cnA ?_ ?_
      ·intro hb
       have hsv : (sumV (amts (x :: A2)) != 0) = true := hb
       clear hb
       have hO2 := hO.trans (by rw [hjs.2, hsv, Qd, ← List.append_assoc])
       refine Qz F_mixed [some 61, some 62, some 63, some 64, some 65, some 66, some 5] rfl ?_
       simp only [zzK, QR, QP, QQ, JC, F_ok48, F_ag48, F_sz48, zz8, zz23, zzD, QS, QN, zzH, zzC, QA, yyE, Qe, F_zero50, F_bld50, zz7, splice, Option.getD_some, QG, zz1, zzG, zz10, F_fld50_0, F_fld50_1, F_sl39, F_sz50, zz3, JS, maxLen_le, QT, JE, F_by50, zz4, zz9, QB, JB, grow, QW, unDs_map, zz6, QO, ↓Qb]
       have hm : out.length + 1 ≤ 1000000 := by omega
       first | refine ⟨le_maxLen hm, by omega, ?_⟩ | refine ⟨by simp, le_maxLen hm, by omega, ?_⟩
       clear hm
       refine ⟨(b :: B2).length, _, hBl, le_SK (fun r => bif r == 5 then 66 else r) [] rfl (l' := [(4, .ref 16 SS.length), (5, .ref 5 ((out ++ [(⟨x.ac, sumV (amts (x :: A2))⟩ : LegV)])).length), (6, .d (iv (P ++ (x :: A2)).length))]) (m' := [(16, (⟨True, 50, 4, true, true, 14, aV ((SS).map legC)⟩ : ARow)), (5, grow 50 4 5 ((out ++ [(⟨x.ac, sumV (amts (x :: A2))⟩ : LegV)]).map legC))]) ?_ ?_ ?_ ?_, P ++ (x :: A2), (b :: B2), (out ++ [(⟨x.ac, sumV (amts (x :: A2))⟩ : LegV)]), by rw [hPR]; simp, hE2, hO2, by simp; omega, rfl, rfl⟩
       ·simp only [leV, JD, QQ, Qd, Qc, QC]
        refine ⟨?_, ?_, Qo rfl, trivial⟩
        ·exact VLe.ref_ (f := (fun r => bif r == 5 then 66 else r)) (r := 16) (by simp)
        ·exact VLe.ref_ (f := (fun r => bif r == 5 then 66 else r)) (r := 5) (by simp)
       ·exact ⟨fun _ => ⟨_, rfl, Qv (JU _)⟩, fun h => by simp at h, fun _ => ⟨_, rfl, Qw (by simp [legC])⟩, fun h => by simp at h, trivial⟩
       ·simp [wfV, QY, lookR, grow]
       ·exact ⟨fun e he r' hr' => by rw [JU _ e he] at hr'; simp at hr', wf_data _ _, trivial⟩
      ·intro hb
       have hsv : (sumV (amts (x :: A2)) != 0) = false := hb
       clear hb
       have hO2 := hO.trans (by rw [hjs.2, hsv, Qc, List.nil_append])
       refine JI ?_
       simp only [zz6, QO, ↓Qb]
       refine ⟨(b :: B2).length, _, hBl, le_SK (fun r => bif r == 5 then 5 else r) [] rfl (l' := [(4, .ref 16 SS.length), (5, .ref 5 (out).length), (6, .d (iv (P ++ (x :: A2)).length))]) (m' := [(16, (⟨True, 50, 4, true, true, 14, aV ((SS).map legC)⟩ : ARow)), (5, grow 50 4 5 (out.map legC))]) ?_ ?_ ?_ ?_, P ++ (x :: A2), (b :: B2), out, by rw [hPR]; simp, hE2, hO2, by simp; omega, rfl, rfl⟩
       ·simp only [leV, JD, QQ, Qd, Qc, QC]
        refine ⟨?_, ?_, Qo rfl, trivial⟩
        ·exact VLe.ref_ (f := (fun r => bif r == 5 then 5 else r)) (r := 16) (by simp)
        ·exact VLe.ref_ (f := (fun r => bif r == 5 then 5 else r)) (r := 5) (by simp)
       ·exact ⟨fun _ => ⟨_, rfl, Qv (JU _)⟩, fun h => by simp at h, fun _ => ⟨_, rfl, Qw (by simp [legC])⟩, fun h => by simp at h, trivial⟩
       ·simp [wfV, QY, lookR, grow]
       ·exact ⟨fun e he r' hr' => by rw [JU _ e he] at hr'; simp at hr', wf_data _ _, trivial⟩
  ·intro hb
   have hR : R = [] := by
    have hPl := congrArg List.length hPR
    simp only [QC] at hPl
    cases R with
    | nil => rfl
    | cons x t => have := of_decide_eq_false hb; simp at hPl; omega
   clear hb
   subst hR
   have hjr : joinR l = 0 := by simp only [joinR, hok, Qd, hSS, hE, joinE]
   have hjv : joinV l = out := by simp only [joinV, hjr, hSS, hO, joinO, QG]; rfl
   refine JK ?_
   simp only [zz6, QO, ↓Qb]
   refine hK0 _ ?_; try clear hK0 K0
   refine kpA [5] ?_
   refine JA fun K0 hK0 => ?_
   refine Qz F_mixed [some 67, some 2, some 3] rfl ?_
   simp only [zzK, QR, QP, QQ, JC, JB, zz6, QO, ↓Qb]
   refine hK0 _ ?_; try clear hK0 K0
   refine kpA [2, 3] ?_
   refine JJ ?_
   simp only [zz6, QO, ↓Qb]
   rw [hjv, hjr]
   refine done1 5 (by simp only [resCs, resC]; trivial) ?_ (by simp [flatA, flatAs, Jc, legC]) (by simp [QY, QX, legC]) (by rfl) trivial rfl rfl ?_ (by simp [flatDs, Jc, legC])
   ·simp only [QD, QE, resA, JZ, QR, QP, JD, QQ, Qd, Qc, JP]; rfl
   ·rfl
end Go.Proofs.Ytcpkhnciplfmkaa
