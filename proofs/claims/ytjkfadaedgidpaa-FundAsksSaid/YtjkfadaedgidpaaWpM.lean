import Derived.Test.YtjkfadaedgidpaaWpF
import Derived.Test.YtjkfadaedgidpaaSpecFA
namespace Go.Proofs.Ytjkfadaedgidpaa
open Go.RowKit
set_option linter.unusedVariables false
set_option linter.unusedSimpArgs false
open Option renaming map_some → QA, bind_some → QB
open List renaming length_append → QC, map_cons → QD, map_nil → QE, length_cons → QF, append_nil → QG
open Nat renaming zero_add → QH
open Int renaming toNat_natCast → QI
open D.agg renaming injEq → QJ
open AV renaming idsL → QK, ids → QL
open VLe renaming refl → QM, still → QN, nild_ → QO, nil_ → QP, refE → QQ, ptrE → QR, dE → QS
open RowLe renaming still → QU
open Go.Proofs.Ytjkfadaedgidpaa renaming awp_plain → QW, awp_seq → QX, evS_assign → QY, evS_move → QZ, look_cons → Qa, evS_call → Qb, evC_value → Qc, awp_block → Qe, evS_indexAddr → Qf, S_getD → Qi, flatAs → Qk, flatD → Ql
theorem F_off51_0 : offT Try.prog 51 0 = some 0 := by kernel_rfl
theorem F_off105_0 : offT Try.prog 105 0 = some 0 := by kernel_rfl
theorem F_off110_0 : offT Try.prog 110 0 = some 0 := by kernel_rfl
theorem F_off51_1 : offT Try.prog 51 1 = some 1 := by kernel_rfl
theorem F_off51_2 : offT Try.prog 51 2 = some 2 := by kernel_rfl
theorem F_go73 : goFn Try.prog 73 := ⟨_, Try.func73, rfl, rfl⟩
theorem F_off110_1 : offT Try.prog 110 1 = some 1 := by kernel_rfl
theorem F_off110_2 : offT Try.prog 110 2 = some 2 := by kernel_rfl
theorem F_off110_3 : offT Try.prog 110 3 = some 3 := by kernel_rfl
theorem F_sl41 : sliceT Try.prog 41 = some 51 := by kernel_rfl
theorem F_sz51 : szT Try.prog 51 = 3 := by kernel_rfl
theorem F_ok51 : tyOk Try.prog 51 = true := by kernel_rfl
theorem F_ag51 : aggT Try.prog 51 = true := by kernel_rfl
theorem F_zero51 : zeroT Try.prog 51 = some [(.int .i64 0), (.int .i64 0), (.int .i64 0)] := by kernel_rfl
theorem F_go54 : goFn Try.prog 54 := ⟨_, Try.func54, rfl, rfl⟩
theorem F_go53 : goFn Try.prog 53 := ⟨_, Try.func53, rfl, rfl⟩
theorem F_off105_6 : offT Try.prog 105 6 = some 6 := by kernel_rfl
theorem F_ok103 : tyOk Try.prog 103 = true := by kernel_rfl
theorem F_ag103 : aggT Try.prog 103 = true := by kernel_rfl
theorem F_sz103 : szT Try.prog 103 = 6 := by kernel_rfl
theorem F_arr103 : arrT Try.prog 103 = some (6, 3) := by kernel_rfl
theorem F_off105_1 : offT Try.prog 105 1 = some 1 := by kernel_rfl
theorem F_off105_2 : offT Try.prog 105 2 = some 2 := by kernel_rfl
theorem F_off105_3 : offT Try.prog 105 3 = some 3 := by kernel_rfl
theorem F_off105_4 : offT Try.prog 105 4 = some 4 := by kernel_rfl
theorem F_off105_5 : offT Try.prog 105 5 = some 5 := by kernel_rfl
theorem F_sl42 : sliceT Try.prog 42 = some 105 := by kernel_rfl
theorem F_sz105 : szT Try.prog 105 = 12 := by kernel_rfl
theorem F_ok105 : tyOk Try.prog 105 = true := by kernel_rfl
theorem F_ag105 : aggT Try.prog 105 = true := by kernel_rfl
theorem F_zero105 : zeroT Try.prog 105 = some [(.int .i64 0), (.int .i64 0), (.int .i64 0), (.int .i64 0), (.int .i64 0), (.int .i64 0), (.int .i64 0), (.int .i64 0), (.int .i64 0), (.int .i64 0), (.int .i64 0), (.int .i64 0)] := by kernel_rfl
theorem F_go57 : goFn Try.prog 57 := ⟨_, Try.func57, rfl, rfl⟩
theorem F_go56 : goFn Try.prog 56 := ⟨_, Try.func56, rfl, rfl⟩
theorem F_sl43 : sliceT Try.prog 43 = some 110 := by kernel_rfl
theorem F_sz110 : szT Try.prog 110 = 4 := by kernel_rfl
theorem F_ok110 : tyOk Try.prog 110 = true := by kernel_rfl
theorem F_ag110 : aggT Try.prog 110 = true := by kernel_rfl
theorem F_zero110 : zeroT Try.prog 110 = some [(.int .i64 0), (.int .i64 0), (.int .i64 0), (.int .i64 0)] := by kernel_rfl
theorem F_go60 : goFn Try.prog 60 := ⟨_, Try.func60, rfl, rfl⟩
theorem F_go59 : goFn Try.prog 59 := ⟨_, Try.func59, rfl, rfl⟩
theorem F_off45_0 : offT Try.prog 45 0 = some 0 := by kernel_rfl
theorem F_ok41 : tyOk Try.prog 41 = true := by kernel_rfl
theorem F_ag41 : aggT Try.prog 41 = false := by kernel_rfl
theorem F_sz41 : szT Try.prog 41 = 1 := by kernel_rfl
theorem F_off45_1 : offT Try.prog 45 1 = some 1 := by kernel_rfl
theorem F_ok42 : tyOk Try.prog 42 = true := by kernel_rfl
theorem F_ag42 : aggT Try.prog 42 = false := by kernel_rfl
theorem F_sz42 : szT Try.prog 42 = 1 := by kernel_rfl
theorem F_off45_2 : offT Try.prog 45 2 = some 2 := by kernel_rfl
theorem F_ok43 : tyOk Try.prog 43 = true := by kernel_rfl
theorem F_ag43 : aggT Try.prog 43 = false := by kernel_rfl
theorem F_sz43 : szT Try.prog 43 = 1 := by kernel_rfl
theorem F_go52 : goFn Try.prog 52 := ⟨_, Try.func52, rfl, rfl⟩
theorem F_go55 : goFn Try.prog 55 := ⟨_, Try.func55, rfl, rfl⟩
theorem F_go58 : goFn Try.prog 58 := ⟨_, Try.func58, rfl, rfl⟩
theorem F_go75 : goFn Try.prog 75 := ⟨_, Try.func75, rfl, rfl⟩
theorem F_bld51 : bldT Try.prog 51 = true := by kernel_rfl
theorem F_ok45 : tyOk Try.prog 45 = true := by kernel_rfl
theorem F_ag45 : aggT Try.prog 45 = true := by kernel_rfl
theorem F_sz45 : szT Try.prog 45 = 3 := by kernel_rfl
theorem F_go64 : goFn Try.prog 64 := ⟨_, Try.func64, rfl, rfl⟩
theorem F_go29 : goFn Try.prog 29 := ⟨_, Try.func29, rfl, rfl⟩
theorem F_go34 : goFn Try.prog 34 := ⟨_, Try.func34, rfl, rfl⟩
theorem F_go33 : goFn Try.prog 33 := ⟨_, Try.func33, rfl, rfl⟩
theorem F_bld63 : bldT Try.prog 63 = true := by kernel_rfl
theorem F_fld63_0 : fldT Try.prog 63 0 = some (0, 3) := by kernel_rfl
theorem F_fld63_1 : fldT Try.prog 63 1 = some (3, 1) := by kernel_rfl
theorem F_zero24 : zeroT Try.prog 24 = some [(.int .i64 0), (.slice none 0 0)] := by kernel_rfl
theorem F_bld24 : bldT Try.prog 24 = true := by kernel_rfl
theorem F_fld24_1 : fldT Try.prog 24 1 = some (1, 1) := by kernel_rfl
theorem F_go8 : goFn Try.prog 8 := ⟨_, Try.func8, rfl, rfl⟩
theorem F_ag89 : aggT Try.prog 89 = true := by kernel_rfl
theorem F_sz89 : szT Try.prog 89 = 2 := by kernel_rfl
theorem F_ok89 : tyOk Try.prog 89 = true := by kernel_rfl
theorem F_zero89 : zeroT Try.prog 89 = some [(.int .i64 0), (.int .u64 0)] := by kernel_rfl
theorem F_bld89 : bldT Try.prog 89 = true := by kernel_rfl
theorem F_fld89_0 : fldT Try.prog 89 0 = some (0, 1) := by kernel_rfl
theorem F_fld89_1 : fldT Try.prog 89 1 = some (1, 1) := by kernel_rfl
theorem F_sl86 : sliceT Try.prog 86 = some 89 := by kernel_rfl
theorem F_off89_1 : offT Try.prog 89 1 = some 1 := by kernel_rfl
theorem F_off89_0 : offT Try.prog 89 0 = some 0 := by kernel_rfl
theorem F_eqi89 (a0 b0 : Int) (a1 b1 : Int) (w : World) : (Op.equalIn 10000 89 (.agg #[.int .i64 a0, .int .u64 a1]) (.agg #[.int .i64 b0, .int .u64 b1])).run Try.prog w = .ok (veqL [.int .i64 a0, .int .u64 a1] [.int .i64 b0, .int .u64 b1]) w := by
 have u3 := Try.underlying3
 have g3 := Try.isAgg3
 have z3 := Try.sizeOf3
 have u87 := Try.underlying87
 have g87 := Try.isAgg87
 have z87 := Try.sizeOf87
 have hS : Try.prog.underlying 89 = some (.struct (Try.prog.fieldsOf 89)) := by kernel_rfl
 have hp : Try.prog.stoodInHeld 89 = false := by kernel_rfl
 rw [show (10000 : Nat) = 9999 + 1 from rfl, run_equalIn_agg w 9999 89 _ _ hS hp]
 simp only [Program.fieldsOf, Try.underlying89]
 go_simp
 by_cases h0 : a0 = b0 <;> by_cases h1 : a1 = b1 <;> simp [veqL, veq, h0, h1]
theorem F_neq89 (a0 b0 : Int) (a1 b1 : Int) (x y : Operand) : pureBin Try.prog .neq 89 x y (.agg #[.int .i64 a0, .int .u64 a1]) (.agg #[.int .i64 b0, .int .u64 b1]) = True := by
 have hm : Try.prog.eqGuardType Try.prog.depth 89 = false := by kernel_rfl
 simp only [pureBin, Pure, eq_iff_iff, iff_true]
 intro w
 simp only [Sem.run_bind, run_eqGuard_agg w .neq 89 x y _ _ hm, Result.andThen_ok, run_neq_struct, F_eqi89, binV]
theorem F_go42 : goFn Try.prog 42 := ⟨_, Try.func42, rfl, rfl⟩
theorem F_go39 : goFn Try.prog 39 := ⟨_, Try.func39, rfl, rfl⟩
theorem F_by89 : byT Try.prog 89 = 16 := by kernel_rfl
theorem F_go43 : goFn Try.prog 43 := ⟨_, Try.func43, rfl, rfl⟩
theorem F_go44 : goFn Try.prog 44 := ⟨_, Try.func44, rfl, rfl⟩
theorem F_go38 : goFn Try.prog 38 := ⟨_, Try.func38, rfl, rfl⟩
theorem F_go35 : goFn Try.prog 35 := ⟨_, Try.func35, rfl, rfl⟩
theorem F_go23 : goFn Try.prog 23 := ⟨_, Try.func23, rfl, rfl⟩
theorem F_go13 : goFn Try.prog 13 := ⟨_, Try.func13, rfl, rfl⟩
theorem F_go15 : goFn Try.prog 15 := ⟨_, Try.func15, rfl, rfl⟩
theorem F_go9 : goFn Try.prog 9 := ⟨_, Try.func9, rfl, rfl⟩
theorem F_go16 : goFn Try.prog 16 := ⟨_, Try.func16, rfl, rfl⟩
theorem F_go17 : goFn Try.prog 17 := ⟨_, Try.func17, rfl, rfl⟩
theorem inR_ (n lo hi : Int) : ACalls Try.prog 73 [iv n, iv lo, iv hi] [] (bv (inR n lo hi)) := by
 refine acalls_S (rs := [.tmp 6]) Try.func73 rfl rfl 15 [(0, .d (iv n)), (1, .d (iv lo)), (2, .d (iv hi))] rfl (by simp) rfl ?_
 refine QX fun K0 hK0 => ?_
 refine QW F_mixed [some 6] rfl ?_
 simp only [zzK, Nat.reduceLT, Nat.reduceLeDiff, Nat.reduceBEq, QY, zz6, Nat.reduceEqDiff, ↓reduceIte]
 refine hK0 _ ?_; try clear hK0 K0
 refine kpA [0, 1, 2] ?_
 refine QX fun K0 hK0 => ?_
 refine QW F_mixed [some 7, some 8, some 9, some 10, some 11, some 12, some 13, some 14, some 6] rfl ?_
 simp only [zzK, Nat.reduceLT, Nat.reduceLeDiff, Nat.reduceBEq, Nat.reduceSub, Qi, zz5, and_imp, imp_and, imp_self, and_self, QZ, zz21, gr_v, zz31, b_leq, pure_leq, zz13, pickK_l, pickK_r, QY, zz6, Nat.reduceEqDiff, ↓reduceIte]
 refine hK0 _ ?_; try clear hK0 K0
 refine kpA [6] ?_
 refine awp_ret ?_
 simp only [zz6, Nat.reduceEqDiff, ↓reduceIte]
 refine dnA ?_
 simp only [QD, QE, resA, Qi, Nat.reduceLT, Nat.reduceLeDiff, Qa, Nat.reduceBEq, cond_true, cond_false, resAll]
 rfl
theorem noMem_ (m : MemV) : ACalls Try.prog 53 [.agg (memC m)] [] (.d (iv m.no)) := by
 refine acalls_S (rs := [.tmp 2]) Try.func53 rfl rfl 5 [(0, .d (.agg (memC m)))] rfl (by simp) rfl ?_
 refine QX fun K0 hK0 => ?_
 refine QW F_mixed [some 1, some 2] rfl ?_
 simp only [zzK, Nat.reduceLT, Nat.reduceLeDiff, Nat.reduceBEq, zz35, newRow1, zz1, zzG, zzD, zzC, QA, yyE, reduceCtorEq, Nat.reduceAdd, QH, zzH, QY, memC, zz6, Nat.reduceEqDiff, ↓reduceIte]
 refine hK0 _ ?_; try clear hK0 K0
 refine kpA [1] ?_
 refine QX fun K0 hK0 => ?_
 refine QW F_mixed [some 3, some 4, some 2] rfl ?_
 simp only [zzK, Nat.reduceLT, Nat.reduceLeDiff, Nat.reduceBEq, zz19, zz23, F_off51_0, zzH, QH, Nat.reduceAdd, F_ok3, F_ag3, F_sz3, zz8, zzD, zzC, QA, yyE, reduceCtorEq, QY, zz6, Nat.reduceEqDiff, ↓reduceIte]
 refine hK0 _ ?_; try clear hK0 K0
 refine kpA [2] ?_
 refine awp_ret ?_
 simp only [zz6, Nat.reduceEqDiff, ↓reduceIte]
 refine dnA ?_
 simp only [QD, QE, resA, Qi, Nat.reduceLT, Nat.reduceLeDiff, Qa, Nat.reduceBEq, cond_true, cond_false, resAll]
 
theorem noInst_ (m : InstV) : ACalls Try.prog 56 [.agg (instC m)] [] (.d (iv m.no)) := by
 refine acalls_S (rs := [.tmp 2]) Try.func56 rfl rfl 5 [(0, .d (.agg (instC m)))] rfl (by simp) rfl ?_
 refine QX fun K0 hK0 => ?_
 refine QW F_mixed [some 1, some 2] rfl ?_
 simp only [zzK, Nat.reduceLT, Nat.reduceLeDiff, Nat.reduceBEq, zz35, newRow1, zz1, zzG, zzD, zzC, QA, yyE, reduceCtorEq, Nat.reduceAdd, QH, zzH, QY, instC, zz6, Nat.reduceEqDiff, ↓reduceIte]
 refine hK0 _ ?_; try clear hK0 K0
 refine kpA [1] ?_
 refine QX fun K0 hK0 => ?_
 refine QW F_mixed [some 3, some 4, some 2] rfl ?_
 simp only [zzK, Nat.reduceLT, Nat.reduceLeDiff, Nat.reduceBEq, zz19, zz23, F_off105_0, zzH, QH, Nat.reduceAdd, F_ok3, F_ag3, F_sz3, zz8, zzD, zzC, QA, yyE, reduceCtorEq, QY, zz6, Nat.reduceEqDiff, ↓reduceIte]
 refine hK0 _ ?_; try clear hK0 K0
 refine kpA [2] ?_
 refine awp_ret ?_
 simp only [zz6, Nat.reduceEqDiff, ↓reduceIte]
 refine dnA ?_
 simp only [QD, QE, resA, Qi, Nat.reduceLT, Nat.reduceLeDiff, Qa, Nat.reduceBEq, cond_true, cond_false, resAll]
 
theorem noAsset_ (m : AssetV) : ACalls Try.prog 59 [.agg (assetC m)] [] (.d (iv m.no)) := by
 refine acalls_S (rs := [.tmp 2]) Try.func59 rfl rfl 5 [(0, .d (.agg (assetC m)))] rfl (by simp) rfl ?_
 refine QX fun K0 hK0 => ?_
 refine QW F_mixed [some 1, some 2] rfl ?_
 simp only [zzK, Nat.reduceLT, Nat.reduceLeDiff, Nat.reduceBEq, zz35, newRow1, zz1, zzG, zzD, zzC, QA, yyE, reduceCtorEq, Nat.reduceAdd, QH, zzH, QY, assetC, zz6, Nat.reduceEqDiff, ↓reduceIte]
 refine hK0 _ ?_; try clear hK0 K0
 refine kpA [1] ?_
 refine QX fun K0 hK0 => ?_
 refine QW F_mixed [some 3, some 4, some 2] rfl ?_
 simp only [zzK, Nat.reduceLT, Nat.reduceLeDiff, Nat.reduceBEq, zz19, zz23, F_off110_0, zzH, QH, Nat.reduceAdd, F_ok3, F_ag3, F_sz3, zz8, zzD, zzC, QA, yyE, reduceCtorEq, QY, zz6, Nat.reduceEqDiff, ↓reduceIte]
 refine hK0 _ ?_; try clear hK0 K0
 refine kpA [2] ?_
 refine awp_ret ?_
 simp only [zz6, Nat.reduceEqDiff, ↓reduceIte]
 refine dnA ?_
 simp only [QD, QE, resA, Qi, Nat.reduceLT, Nat.reduceLeDiff, Qa, Nat.reduceBEq, cond_true, cond_false, resAll]
 
theorem memOk_ (m : MemV) : ACalls Try.prog 54 [.agg (memC m)] [] (bv (memOk m)) := by
 refine acalls_S (rs := [.tmp 2]) Try.func54 rfl rfl 22 [(0, .d (.agg (memC m)))] rfl (by simp) rfl ?_
 refine QX fun K0 hK0 => ?_
 refine QW F_mixed [some 1, some 2] rfl ?_
 simp only [zzK, Nat.reduceLT, Nat.reduceLeDiff, Nat.reduceBEq, zz35, newRow1, zz1, zzG, zzD, zzC, QA, yyE, reduceCtorEq, Nat.reduceAdd, QH, zzH, QY, memC, zz6, Nat.reduceEqDiff, ↓reduceIte]
 refine hK0 _ ?_; try clear hK0 K0
 refine kpA [1] ?_
 refine QX fun K0 hK0 => ?_
 refine QW F_mixed [some 3, some 4, some 5, some 6, some 7, some 8, some 9, some 10, some 11, some 12, some 13, some 14, some 15, some 16, some 17, some 18, some 19, some 20, some 21, some 2] rfl ?_
 simp only [zzK, Nat.reduceLT, Nat.reduceLeDiff, Nat.reduceBEq, Nat.reduceSub, Qi, zz5, and_imp, imp_and, imp_self, zz19, zz23, F_off51_0, zzH, QH, Nat.reduceAdd, F_ok3, F_ag3, F_sz3, zz8, zzD, zzC, QA, yyE, reduceCtorEq, Qb, Qc, QZ, F_off51_1, zz13, pickK_l, pickK_r, F_off51_2, F_sl25, F_zero3, zz3, newRow1, zz1, zzG, maxLen_le, Nat.reduceMul, zz21, gr_v, zz31, QY, ints, QD, zz6, Nat.reduceEqDiff, ↓reduceIte]
 refine call_go F_go73 (fun hG => inR_ m.no 1 16) (by simp [QL, QK]) (by simp) ?_
 simp only [zzK, Nat.reduceLT, Nat.reduceLeDiff, Nat.reduceBEq, Nat.reduceSub, Qi, zz5, and_imp, imp_and, imp_self, zz19, zz23, F_off51_0, zzH, QH, Nat.reduceAdd, F_ok3, F_ag3, F_sz3, zz8, zzD, zzC, QA, yyE, reduceCtorEq, Qb, Qc, QZ, F_off51_1, zz13, pickK_l, pickK_r, F_off51_2, F_sl25, F_zero3, zz3, newRow1, zz1, zzG, maxLen_le, Nat.reduceMul, zz21, gr_v, zz31, QY, ints, QD, zz6, Nat.reduceEqDiff, ↓reduceIte, atsL, oksG, freeN, AV.ren, AV.renL, addRows, ORow.row, Nat.reduceMul, Nat.reduceAdd, zz9, QB, QA, S_mem, yyF, QF, zz2]
 refine call_go F_go73 (fun hG => inR_ m.state 1 3) (by simp [QL, QK]) (by simp) ?_
 simp only [zzK, Nat.reduceLT, Nat.reduceLeDiff, Nat.reduceBEq, Nat.reduceSub, Qi, zz5, and_imp, imp_and, imp_self, zz19, zz23, F_off51_0, zzH, QH, Nat.reduceAdd, F_ok3, F_ag3, F_sz3, zz8, zzD, zzC, QA, yyE, reduceCtorEq, Qb, Qc, QZ, F_off51_1, zz13, pickK_l, pickK_r, F_off51_2, F_sl25, F_zero3, zz3, newRow1, zz1, zzG, maxLen_le, Nat.reduceMul, zz21, gr_v, zz31, QY, ints, QD, zz6, Nat.reduceEqDiff, ↓reduceIte, atsL, oksG, freeN, AV.ren, AV.renL, addRows, ORow.row, Nat.reduceMul, Nat.reduceAdd, zz9, QB, QA, S_mem, yyF, QF, zz2]
 refine call_go F_go36 (fun hG => Right_ [m.need] (by simp)) (by simp [QL, QK]) (by simp) ?_
 simp only [zzK, Nat.reduceLT, Nat.reduceLeDiff, Nat.reduceBEq, Nat.reduceSub, Qi, zz5, and_imp, imp_and, imp_self, zz19, zz23, F_off51_0, zzH, QH, Nat.reduceAdd, F_ok3, F_ag3, F_sz3, zz8, zzD, zzC, QA, yyE, reduceCtorEq, Qb, Qc, QZ, F_off51_1, zz13, pickK_l, pickK_r, F_off51_2, F_sl25, F_zero3, zz3, newRow1, zz1, zzG, maxLen_le, Nat.reduceMul, zz21, gr_v, zz31, QY, ints, QD, zz6, Nat.reduceEqDiff, ↓reduceIte, atsL, oksG, freeN, AV.ren, AV.renL, addRows, ORow.row, Nat.reduceMul, Nat.reduceAdd, zz9, QB, QA, S_mem, yyF, QF, zz2]
 refine hK0 _ ?_; try clear hK0 K0
 refine kpA [2] ?_
 refine awp_ret ?_
 simp only [zz6, Nat.reduceEqDiff, ↓reduceIte]
 refine dnA ?_
 simp only [QD, QE, resA, Qi, Nat.reduceLT, Nat.reduceLeDiff, Qa, Nat.reduceBEq, cond_true, cond_false, resAll]
 rfl
theorem assetOk_ (m : AssetV) : ACalls Try.prog 60 [.agg (assetC m)] [] (bv (assetOk m)) := by
 refine acalls_S (rs := [.tmp 2]) Try.func60 rfl rfl 21 [(0, .d (.agg (assetC m)))] rfl (by simp) rfl ?_
 refine QX fun K0 hK0 => ?_
 refine QW F_mixed [some 1, some 2] rfl ?_
 simp only [zzK, Nat.reduceLT, Nat.reduceLeDiff, Nat.reduceBEq, zz35, newRow1, zz1, zzG, zzD, zzC, QA, yyE, reduceCtorEq, Nat.reduceAdd, QH, zzH, QY, assetC, zz6, Nat.reduceEqDiff, ↓reduceIte]
 refine hK0 _ ?_; try clear hK0 K0
 refine kpA [1] ?_
 refine QX fun K0 hK0 => ?_
 refine QW F_mixed [some 3, some 4, some 5, some 6, some 7, some 8, some 9, some 10, some 11, some 12, some 13, some 14, some 15, some 16, some 17, some 18, some 19, some 20, some 2] rfl ?_
 simp only [zzK, Nat.reduceLT, Nat.reduceLeDiff, Nat.reduceBEq, Nat.reduceSub, Qi, zz5, and_imp, imp_and, imp_self, zz19, zz23, F_off110_0, zzH, QH, Nat.reduceAdd, F_ok3, F_ag3, F_sz3, zz8, zzD, zzC, QA, yyE, reduceCtorEq, Qb, Qc, QZ, F_off110_1, zz13, pickK_l, pickK_r, F_off110_2, F_off110_3, QY, zz6, Nat.reduceEqDiff, ↓reduceIte]
 refine call_go F_go73 (fun hG => inR_ m.no 1 6) (by simp [QL, QK]) (by simp) ?_
 simp only [zzK, Nat.reduceLT, Nat.reduceLeDiff, Nat.reduceBEq, Nat.reduceSub, Qi, zz5, and_imp, imp_and, imp_self, zz19, zz23, F_off110_0, zzH, QH, Nat.reduceAdd, F_ok3, F_ag3, F_sz3, zz8, zzD, zzC, QA, yyE, reduceCtorEq, Qb, Qc, QZ, F_off110_1, zz13, pickK_l, pickK_r, F_off110_2, F_off110_3, QY, zz6, Nat.reduceEqDiff, ↓reduceIte, atsL, oksG, freeN, AV.ren, AV.renL, addRows, ORow.row, Nat.reduceMul, Nat.reduceAdd, zz9, QB, QA, S_mem, yyF, QF, zz2]
 refine call_go F_go73 (fun hG => inR_ m.cur 0 2) (by simp [QL, QK]) (by simp) ?_
 simp only [zzK, Nat.reduceLT, Nat.reduceLeDiff, Nat.reduceBEq, Nat.reduceSub, Qi, zz5, and_imp, imp_and, imp_self, zz19, zz23, F_off110_0, zzH, QH, Nat.reduceAdd, F_ok3, F_ag3, F_sz3, zz8, zzD, zzC, QA, yyE, reduceCtorEq, Qb, Qc, QZ, F_off110_1, zz13, pickK_l, pickK_r, F_off110_2, F_off110_3, QY, zz6, Nat.reduceEqDiff, ↓reduceIte, atsL, oksG, freeN, AV.ren, AV.renL, addRows, ORow.row, Nat.reduceMul, Nat.reduceAdd, zz9, QB, QA, S_mem, yyF, QF, zz2]
 refine call_go F_go73 (fun hG => inR_ m.price 1 1073741824) (by simp [QL, QK]) (by simp) ?_
 simp only [zzK, Nat.reduceLT, Nat.reduceLeDiff, Nat.reduceBEq, Nat.reduceSub, Qi, zz5, and_imp, imp_and, imp_self, zz19, zz23, F_off110_0, zzH, QH, Nat.reduceAdd, F_ok3, F_ag3, F_sz3, zz8, zzD, zzC, QA, yyE, reduceCtorEq, Qb, Qc, QZ, F_off110_1, zz13, pickK_l, pickK_r, F_off110_2, F_off110_3, QY, zz6, Nat.reduceEqDiff, ↓reduceIte, atsL, oksG, freeN, AV.ren, AV.renL, addRows, ORow.row, Nat.reduceMul, Nat.reduceAdd, zz9, QB, QA, S_mem, yyF, QF, zz2]
 refine call_go F_go73 (fun hG => inR_ m.cut 0 10000) (by simp [QL, QK]) (by simp) ?_
 simp only [zzK, Nat.reduceLT, Nat.reduceLeDiff, Nat.reduceBEq, Nat.reduceSub, Qi, zz5, and_imp, imp_and, imp_self, zz19, zz23, F_off110_0, zzH, QH, Nat.reduceAdd, F_ok3, F_ag3, F_sz3, zz8, zzD, zzC, QA, yyE, reduceCtorEq, Qb, Qc, QZ, F_off110_1, zz13, pickK_l, pickK_r, F_off110_2, F_off110_3, QY, zz6, Nat.reduceEqDiff, ↓reduceIte, atsL, oksG, freeN, AV.ren, AV.renL, addRows, ORow.row, Nat.reduceMul, Nat.reduceAdd, zz9, QB, QA, S_mem, yyF, QF, zz2]
 refine hK0 _ ?_; try clear hK0 K0
 refine kpA [2] ?_
 refine awp_ret ?_
 simp only [zz6, Nat.reduceEqDiff, ↓reduceIte]
 refine dnA ?_
 simp only [QD, QE, resA, Qi, Nat.reduceLT, Nat.reduceLeDiff, Qa, Nat.reduceBEq, cond_true, cond_false, resAll]
 rfl
theorem risesM_ (l : List MemV) (hl : l.length < 4611686018427387904) : ACalls Try.prog 52 [memsD l, fnD 53, fnD 54] [] (bv (chk memOk MemV.no none l)) := by
 refine acalls_S (rs := [.tmp 6]) Try.func52 rfl rfl 38 [(0, .d (memsD l)), (1, .d (fnD 53)), (2, .d (fnD 54))] rfl (by simp) rfl ?_
 refine QX fun K0 hK0 => ?_
 refine QW F_mixed [some 6] rfl ?_
 simp only [zzK, Nat.reduceLT, Nat.reduceLeDiff, Nat.reduceBEq, QY, zz6, Nat.reduceEqDiff, ↓reduceIte]
 refine hK0 _ ?_; try clear hK0 K0
 refine kpA [0, 1, 2] ?_
 refine QX fun K0 hK0 => ?_
 refine QX fun K1 hK1 => ?_
 refine QW F_mixed [some 9, some 10, some 11] rfl ?_
 simp only [zzK, Nat.reduceLT, Nat.reduceLeDiff, Nat.reduceBEq, QZ, Qb, zz12, F_sl41, Option.isSome_some, memsD, len_map, zz6, Nat.reduceEqDiff, ↓reduceIte]
 refine hK1 _ ?_; try clear hK1 K1
 refine kpA [0, 1, 2, 9, 10, 11] ?_
 refine Qe ?_
 refine awp_loop (fun m s => ∃ pre post : List MemV, l = pre ++ post ∧ chk memOk MemV.no none l = chk memOk MemV.no pre.getLast? post ∧ m = post.length ∧ s = S 38 [(0, .d (memsD l)), (1, .d (fnD 53)), (2, .d (fnD 54)), (9, .d (memsD l)), (10, .d (iv l.length)), (11, .d (iv pre.length))] []) l.length _ (le_S0 (l' := [(0, .d (memsD l)), (1, .d (fnD 53)), (2, .d (fnD 54)), (9, .d (memsD l)), (10, .d (iv l.length)), (11, .d (iv ([] : List MemV).length))]) ?_ ?_) ⟨[], l, rfl, rfl, rfl, rfl⟩ ?_
 ·simp only [leL, Qa, Nat.reduceBEq, cond_true, cond_false, memsD, len_map, List.length_nil]; trivial
 ·simp [wfV, QL]
 rintro m s ⟨pre, post, rfl, hck, rfl, rfl⟩
 refine QX fun K2 hK2 => ?_
 refine QW F_mixed [some 12] rfl ?_
 simp only [zzK, Nat.reduceLT, Nat.reduceLeDiff, Nat.reduceBEq, zz21, gr_v, zz22, zz6, Nat.reduceEqDiff, ↓reduceIte]
 refine hK2 _ ?_; try clear hK2 K2
 refine kpA [0, 1, 2, 9, 10, 11, 12] ?_
 refine QX fun K2 hK2 => ?_
 refine cnA ?_ ?_
 ·intro hb
  obtain ⟨x, post, rfl⟩ := more_of hb; clear hb
  have hp : pre.length < 4611686018427387904 := by simp at hl; omega
  have hpg := prev_get memC pre post x [] hp
  refine awp_skip ?_
  simp only [zz6, Nat.reduceEqDiff, ↓reduceIte]
  refine hK2 _ ?_; try clear hK2 K2
  refine kpA [0, 1, 2, 9, 10, 11] ?_
  refine QX fun K2 hK2 => ?_
  refine Qe ?_
  refine QX fun K3 hK3 => ?_
  refine QW F_mixed [some 13, some 14, some 15, some 8, some 7, none] rfl ?_
  simp only [zzK, Nat.reduceLT, Nat.reduceLeDiff, Nat.reduceBEq, QZ, Qf, zz23, zz24, F_sl41, F_sz51, QA, zzC, yyE, reduceCtorEq, F_ok51, F_ag51, zz8, zzD, Nat.reduceAdd, QH, zzH, zz32, newRow1, F_zero51, zz10, QY, zz18, splice, QG, zz1, zzG, memsD, memC, getD_mid, len_map, lt_mid, ge_mid, zz6, Nat.reduceEqDiff, ↓reduceIte]
  refine hK3 _ ?_; try clear hK3 K3
  refine kpA [0, 1, 2, 7, 8, 9, 10, 11] ?_
  refine QX fun K3 hK3 => ?_
  refine awp_draw F_mixed [some 16, some 17, some 18, some 19, some 20, some 21, some 22, some 23, some 24, some 25, some 26, some 27, some 28, some 29, some 30, some 31, some 32, some 33, some 34, some 35, some 36] rfl (by kernel_rfl) ?_
  simp only [zzK, Nat.reduceLT, Nat.reduceLeDiff, Nat.reduceBEq, Nat.reduceSub, Qi, zz5, and_imp, imp_and, imp_self, QZ, F_ok51, F_ag51, F_sz51, zz8, zz23, zzD, Nat.reduceAdd, QH, zzH, zzC, QA, yyE, reduceCtorEq, Qb, Qc, zz29, gr_v, zz30, zz21, zz25, zz33, Qf, zz24, F_sl41, zz31, zz13, pickK_l, pickK_r, fnD, memsD, memC, len_map, hpg, QJ, zz6, Nat.reduceEqDiff, ↓reduceIte]
  refine call_goT ?_ ?_ F_go54 (fun hG => memOk_ x) (by simp [QL, QK]) (by simp) ?_
  ·decide
  ·simp only [Qa, Nat.reduceBEq, cond_true, cond_false, bare_d, bare_wh, fnD]
  simp only [zzK, Nat.reduceLT, Nat.reduceLeDiff, Nat.reduceBEq, Nat.reduceSub, Qi, zz5, and_imp, imp_and, imp_self, QZ, F_ok51, F_ag51, F_sz51, zz8, zz23, zzD, Nat.reduceAdd, QH, zzH, zzC, QA, yyE, reduceCtorEq, Qb, Qc, zz29, gr_v, zz30, zz21, zz25, zz33, Qf, zz24, F_sl41, zz31, zz13, pickK_l, pickK_r, fnD, memsD, memC, len_map, hpg, QJ, zz6, Nat.reduceEqDiff, ↓reduceIte, Nat.reduceSub, Qi, Gp_some, and_imp, imp_and, imp_self, atsL, oksG, freeN, AV.ren, AV.renL, addRows, ORow.row, Nat.reduceMul, Nat.reduceAdd, zz9, QB, QA, S_mem, yyF, QF, zz2]
  refine ⟨⟨fun _ hp2 => prev_ok pre hp hp2, fun _ _ => prev_lt pre post x hp⟩, ?_⟩
  refine call_goT ?_ ?_ F_go53 (fun hG => noMem_ (lastOr x pre)) (by simp [QL, QK]) (by simp) ?_
  ·decide
  ·simp only [Qa, Nat.reduceBEq, cond_true, cond_false, bare_d, bare_wh, fnD]
  simp only [zzK, Nat.reduceLT, Nat.reduceLeDiff, Nat.reduceBEq, Nat.reduceSub, Qi, zz5, and_imp, imp_and, imp_self, QZ, F_ok51, F_ag51, F_sz51, zz8, zz23, zzD, Nat.reduceAdd, QH, zzH, zzC, QA, yyE, reduceCtorEq, Qb, Qc, zz29, gr_v, zz30, zz21, zz25, zz33, Qf, zz24, F_sl41, zz31, zz13, pickK_l, pickK_r, fnD, memsD, memC, len_map, hpg, QJ, zz6, Nat.reduceEqDiff, ↓reduceIte, Nat.reduceSub, Qi, Gp_some, and_imp, imp_and, imp_self, atsL, oksG, freeN, AV.ren, AV.renL, addRows, ORow.row, Nat.reduceMul, Nat.reduceAdd, zz9, QB, QA, S_mem, yyF, QF, zz2]
  refine call_goT ?_ ?_ F_go53 (fun hG => noMem_ x) (by simp [QL, QK]) (by simp) ?_
  ·decide
  ·simp only [Qa, Nat.reduceBEq, cond_true, cond_false, bare_d, bare_wh, fnD]
  simp only [zzK, Nat.reduceLT, Nat.reduceLeDiff, Nat.reduceBEq, Nat.reduceSub, Qi, zz5, and_imp, imp_and, imp_self, QZ, F_ok51, F_ag51, F_sz51, zz8, zz23, zzD, Nat.reduceAdd, QH, zzH, zzC, QA, yyE, reduceCtorEq, Qb, Qc, zz29, gr_v, zz30, zz21, zz25, zz33, Qf, zz24, F_sl41, zz31, zz13, pickK_l, pickK_r, fnD, memsD, memC, len_map, hpg, QJ, zz6, Nat.reduceEqDiff, ↓reduceIte, Nat.reduceSub, Qi, Gp_some, and_imp, imp_and, imp_self, atsL, oksG, freeN, AV.ren, AV.renL, addRows, ORow.row, Nat.reduceMul, Nat.reduceAdd, zz9, QB, QA, S_mem, yyF, QF, zz2]
  refine hK3 _ ?_; try clear hK3 K3
  refine kpA [0, 1, 2, 9, 10, 11, 36] ?_
  refine cnA ?_ ?_
  ·intro hb
   refine QX fun K4 hK4 => ?_
   refine QW F_mixed [some 6] rfl ?_
   simp only [zzK, Nat.reduceLT, Nat.reduceLeDiff, Nat.reduceBEq, QY, zz6, Nat.reduceEqDiff, ↓reduceIte]
   refine hK4 _ ?_; try clear hK4 K4
   refine kpA [6] ?_
   refine awp_ret ?_
   simp only [zz6, Nat.reduceEqDiff, ↓reduceIte]
   refine dnA ?_
   simp only [QD, QE, resA, Qi, Nat.reduceLT, Nat.reduceLeDiff, Qa, Nat.reduceBEq, cond_true, cond_false, resAll]
   rw [hck, chk_step, hb]; simp
  ·intro hb
   refine awp_skip ?_
   simp only [zz6, Nat.reduceEqDiff, ↓reduceIte]
   refine hK2 _ ?_; try clear hK2 K2
   refine kpA [0, 1, 2, 9, 10, 11] ?_
   refine QW F_mixed [some 37, some 11] rfl ?_
   simp only [zzK, Nat.reduceLT, Nat.reduceLeDiff, Nat.reduceBEq, zz21, gr_v, zz26, QZ, zz6, Nat.reduceEqDiff, ↓reduceIte]
   refine ⟨post.length, _, by simp, le_S0 (l' := [(0, .d (memsD (pre ++ x :: post))), (1, .d (fnD 53)), (2, .d (fnD 54)), (9, .d (memsD (pre ++ x :: post))), (10, .d (iv (pre ++ x :: post).length)), (11, .d (iv (pre ++ [x]).length))]) ?_ ?_, pre ++ [x], post, by simp, by rw [hck, chk_step, hb]; simp, rfl, rfl⟩
   ·simp only [leL, Qa, Nat.reduceBEq, cond_true, cond_false, wrap_len pre x (by simp at hl; omega), memsD, fnD]; trivial
   ·simp [wfV, QL]
 ·intro hb
  obtain rfl := none_of hb; clear hb
  refine awp_exit ?_
  simp only [zz6, Nat.reduceEqDiff, ↓reduceIte]
  refine hK0 _ ?_; try clear hK0 K0
  refine kpA [] ?_
  refine QX fun K0 hK0 => ?_
  refine QW F_mixed [some 6] rfl ?_
  simp only [zzK, Nat.reduceLT, Nat.reduceLeDiff, Nat.reduceBEq, QY, zz6, Nat.reduceEqDiff, ↓reduceIte]
  refine hK0 _ ?_; try clear hK0 K0
  refine kpA [6] ?_
  refine awp_ret ?_
  simp only [zz6, Nat.reduceEqDiff, ↓reduceIte]
  refine dnA ?_
  simp only [QD, QE, resA, Qi, Nat.reduceLT, Nat.reduceLeDiff, Qa, Nat.reduceBEq, cond_true, cond_false, resAll]
  rw [hck]; rfl
theorem instOk_ (i : InstV) : ACalls Try.prog 57 [.agg (instC i)] [] (bv (instOk i)) := by
 refine acalls_S (rs := [.tmp 2]) Try.func57 rfl rfl 42 [(0, .d (.agg (instC i)))] rfl (by simp) rfl ?_
 refine QX fun K0 hK0 => ?_
 refine QW F_mixed [some 1, some 2] rfl ?_
 simp only [zzK, Nat.reduceLT, Nat.reduceLeDiff, Nat.reduceBEq, zz35, newRow1, zz1, zzG, zzD, zzC, QA, yyE, reduceCtorEq, Nat.reduceAdd, QH, zzH, QY, instC, zz6, Nat.reduceEqDiff, ↓reduceIte]
 refine hK0 _ ?_; try clear hK0 K0
 refine kpA [1] ?_
 refine QX fun K0 hK0 => ?_
 refine QX fun K1 hK1 => ?_
 refine QW F_mixed [some 5, some 6, some 7] rfl ?_
 simp only [zzK, Nat.reduceLT, Nat.reduceLeDiff, Nat.reduceBEq, zz19, zz23, F_off105_6, zzH, QH, Nat.reduceAdd, F_ok103, F_ag103, F_sz103, zz8, zzD, zzC, QA, yyE, reduceCtorEq, QZ, zz6, Nat.reduceEqDiff, ↓reduceIte]
 refine hK1 _ ?_; try clear hK1 K1
 refine kpA [1, 6, 7] ?_
 refine Qe ?_
 refine awp_loop (fun m s => (m = 6 ∧ s = S 42 [(1, .ptr 1 0 0), (6, .ag [.d (iv i.s0), .d (iv i.s1), .d (iv i.s2), .d (iv i.s3), .d (iv i.s4), .d (iv i.s5)]), (7, .d (iv 0))] [(1, (⟨True, 105, 12, true, false, 1, [[.d (iv i.no), .d (iv i.cur), .d (iv i.mult), .d (iv i.add), .d (iv i.set), .d (iv i.price), .d (iv i.s0), .d (iv i.s1), .d (iv i.s2), .d (iv i.s3), .d (iv i.s4), .d (iv i.s5)]]⟩ : ARow))]) ∨ (m = 5 ∧ shOk i.s0 = true ∧ s = S 42 [(1, .ptr 1 0 0), (6, .ag [.d (iv i.s0), .d (iv i.s1), .d (iv i.s2), .d (iv i.s3), .d (iv i.s4), .d (iv i.s5)]), (7, .d (iv 1))] [(1, (⟨True, 105, 12, true, false, 1, [[.d (iv i.no), .d (iv i.cur), .d (iv i.mult), .d (iv i.add), .d (iv i.set), .d (iv i.price), .d (iv i.s0), .d (iv i.s1), .d (iv i.s2), .d (iv i.s3), .d (iv i.s4), .d (iv i.s5)]]⟩ : ARow))]) ∨ (m = 4 ∧ shOk i.s0 = true ∧ shOk i.s1 = true ∧ s = S 42 [(1, .ptr 1 0 0), (6, .ag [.d (iv i.s0), .d (iv i.s1), .d (iv i.s2), .d (iv i.s3), .d (iv i.s4), .d (iv i.s5)]), (7, .d (iv 2))] [(1, (⟨True, 105, 12, true, false, 1, [[.d (iv i.no), .d (iv i.cur), .d (iv i.mult), .d (iv i.add), .d (iv i.set), .d (iv i.price), .d (iv i.s0), .d (iv i.s1), .d (iv i.s2), .d (iv i.s3), .d (iv i.s4), .d (iv i.s5)]]⟩ : ARow))]) ∨ (m = 3 ∧ shOk i.s0 = true ∧ shOk i.s1 = true ∧ shOk i.s2 = true ∧ s = S 42 [(1, .ptr 1 0 0), (6, .ag [.d (iv i.s0), .d (iv i.s1), .d (iv i.s2), .d (iv i.s3), .d (iv i.s4), .d (iv i.s5)]), (7, .d (iv 3))] [(1, (⟨True, 105, 12, true, false, 1, [[.d (iv i.no), .d (iv i.cur), .d (iv i.mult), .d (iv i.add), .d (iv i.set), .d (iv i.price), .d (iv i.s0), .d (iv i.s1), .d (iv i.s2), .d (iv i.s3), .d (iv i.s4), .d (iv i.s5)]]⟩ : ARow))]) ∨ (m = 2 ∧ shOk i.s0 = true ∧ shOk i.s1 = true ∧ shOk i.s2 = true ∧ shOk i.s3 = true ∧ s = S 42 [(1, .ptr 1 0 0), (6, .ag [.d (iv i.s0), .d (iv i.s1), .d (iv i.s2), .d (iv i.s3), .d (iv i.s4), .d (iv i.s5)]), (7, .d (iv 4))] [(1, (⟨True, 105, 12, true, false, 1, [[.d (iv i.no), .d (iv i.cur), .d (iv i.mult), .d (iv i.add), .d (iv i.set), .d (iv i.price), .d (iv i.s0), .d (iv i.s1), .d (iv i.s2), .d (iv i.s3), .d (iv i.s4), .d (iv i.s5)]]⟩ : ARow))]) ∨ (m = 1 ∧ shOk i.s0 = true ∧ shOk i.s1 = true ∧ shOk i.s2 = true ∧ shOk i.s3 = true ∧ shOk i.s4 = true ∧ s = S 42 [(1, .ptr 1 0 0), (6, .ag [.d (iv i.s0), .d (iv i.s1), .d (iv i.s2), .d (iv i.s3), .d (iv i.s4), .d (iv i.s5)]), (7, .d (iv 5))] [(1, (⟨True, 105, 12, true, false, 1, [[.d (iv i.no), .d (iv i.cur), .d (iv i.mult), .d (iv i.add), .d (iv i.set), .d (iv i.price), .d (iv i.s0), .d (iv i.s1), .d (iv i.s2), .d (iv i.s3), .d (iv i.s4), .d (iv i.s5)]]⟩ : ARow))]) ∨ (m = 0 ∧ shOk i.s0 = true ∧ shOk i.s1 = true ∧ shOk i.s2 = true ∧ shOk i.s3 = true ∧ shOk i.s4 = true ∧ shOk i.s5 = true ∧ s = S 42 [(1, .ptr 1 0 0), (6, .ag [.d (iv i.s0), .d (iv i.s1), .d (iv i.s2), .d (iv i.s3), .d (iv i.s4), .d (iv i.s5)]), (7, .d (iv 6))] [(1, (⟨True, 105, 12, true, false, 1, [[.d (iv i.no), .d (iv i.cur), .d (iv i.mult), .d (iv i.add), .d (iv i.set), .d (iv i.price), .d (iv i.s0), .d (iv i.s1), .d (iv i.s2), .d (iv i.s3), .d (iv i.s4), .d (iv i.s5)]]⟩ : ARow))])) 6 _ (le_SK id [] rfl (l' := [(1, .ptr 1 0 0), (6, .ag [.d (iv i.s0), .d (iv i.s1), .d (iv i.s2), .d (iv i.s3), .d (iv i.s4), .d (iv i.s5)]), (7, .d (iv 0))]) (m' := [(1, (⟨True, 105, 12, true, false, 1, [[.d (iv i.no), .d (iv i.cur), .d (iv i.mult), .d (iv i.add), .d (iv i.set), .d (iv i.price), .d (iv i.s0), .d (iv i.s1), .d (iv i.s2), .d (iv i.s3), .d (iv i.s4), .d (iv i.s5)]]⟩ : ARow))]) ?_ ?_ ?_ ?_) (.inl (⟨rfl, rfl⟩)) ?_
 ·simp only [leV, Qa, Nat.reduceBEq, cond_true, cond_false]; exact ⟨QM _, QM _, QM _, trivial⟩
 ·exact ⟨fun _ => ⟨_, rfl, ⟨id, rfl, rfl, fun _ => rfl, id, .inl, VLess.refl _⟩⟩, fun h => by simp at h, trivial⟩
 ·simp [wfV, QL, QK, lookR]
 ·simp [wfR, QK, QL]
 rintro m s (⟨rfl, rfl⟩ | ⟨rfl, h0, rfl⟩ | ⟨rfl, h0, h1, rfl⟩ | ⟨rfl, h0, h1, h2, rfl⟩ | ⟨rfl, h0, h1, h2, h3, rfl⟩ | ⟨rfl, h0, h1, h2, h3, h4, rfl⟩ | ⟨rfl, h0, h1, h2, h3, h4, h5, rfl⟩)
 ·skip
  refine QX fun K2 hK2 => ?_
  refine QW F_mixed [some 8] rfl ?_
  simp only [zzK, Nat.reduceLT, Nat.reduceLeDiff, Nat.reduceBEq, zz21, gr_v, zz22, zz6, Nat.reduceEqDiff, ↓reduceIte]
  refine hK2 _ ?_; try clear hK2 K2
  refine kpA [1, 6, 7, 8] ?_
  refine QX fun K2 hK2 => ?_
  refine cnA ?_ ?_
  ·intro hb
   clear hb
   refine awp_skip ?_
   simp only [zz6, Nat.reduceEqDiff, ↓reduceIte]
   refine hK2 _ ?_; try clear hK2 K2
   refine kpA [1, 6, 7] ?_
   refine QX fun K2 hK2 => ?_
   refine Qe ?_
   refine QX fun K3 hK3 => ?_
   refine QW F_mixed [some 9, some 4] rfl ?_
   simp only [zzK, Nat.reduceLT, Nat.reduceLeDiff, Nat.reduceBEq, evS_index, evIv_int, ixB_some, ixV_ag, ixV_agg, F_arr103, F_ok3, F_ag3, F_sz3, zzG, zzD, Nat.reduceAdd, QH, zzH, QY, Int.reduceToNat, Int.reduceLT, Int.reduceLE, cast6, zz6, Nat.reduceEqDiff, ↓reduceIte]
   refine hK3 _ ?_; try clear hK3 K3
   refine kpA [1, 4, 6, 7] ?_
   refine QX fun K3 hK3 => ?_
   refine QW F_mixed [some 10, some 11, some 12] rfl ?_
   simp only [zzK, Nat.reduceLT, Nat.reduceLeDiff, Nat.reduceBEq, QZ, Qb, Qc, zz29, gr_v, zz30, zz6, Nat.reduceEqDiff, ↓reduceIte]
   refine call_go F_go73 (fun hG => inR_ i.s0 (-1073741824) 1073741824) (by simp [QL, QK]) (by simp) ?_
   simp only [zzK, Nat.reduceLT, Nat.reduceLeDiff, Nat.reduceBEq, QZ, Qb, Qc, zz29, gr_v, zz30, zz6, Nat.reduceEqDiff, ↓reduceIte, atsL, oksG, freeN, AV.ren, AV.renL, addRows, ORow.row, Nat.reduceMul, Nat.reduceAdd, zz9, QB, QA, zzC, yyF, zzD, zz2]
   refine hK3 _ ?_; try clear hK3 K3
   refine kpA [1, 6, 7, 12] ?_
   refine cnA ?_ ?_
   ·intro hb
    simp only [Bool.not_eq_true'] at hb
    refine QX fun K4 hK4 => ?_
    refine QW F_mixed [some 2] rfl ?_
    simp only [zzK, Nat.reduceLT, Nat.reduceLeDiff, Nat.reduceBEq, QY, zz6, Nat.reduceEqDiff, ↓reduceIte]
    refine hK4 _ ?_; try clear hK4 K4
    refine kpA [2] ?_
    refine awp_ret ?_
    simp only [zz6, Nat.reduceEqDiff, ↓reduceIte]
    refine dnA ?_
    simp only [QD, QE, resA, Qi, Nat.reduceLT, Nat.reduceLeDiff, Qa, Nat.reduceBEq, cond_true, cond_false, resAll]
    have e : instOk i = false := by simp [instOk, shOk, hb]
    rw [e]
   ·intro hb
    simp only [Bool.not_eq_false'] at hb
    refine awp_skip ?_
    simp only [zz6, Nat.reduceEqDiff, ↓reduceIte]
    refine hK2 _ ?_; try clear hK2 K2
    refine kpA [1, 6, 7] ?_
    refine QW F_mixed [some 13, some 7] rfl ?_
    simp only [zzK, Nat.reduceLT, Nat.reduceLeDiff, Nat.reduceBEq, zz21, gr_v, zz26, QZ, zz6, Nat.reduceEqDiff, ↓reduceIte]
    refine ⟨5, _, by decide, le_SK id [] rfl (l' := [(1, .ptr 1 0 0), (6, .ag [.d (iv i.s0), .d (iv i.s1), .d (iv i.s2), .d (iv i.s3), .d (iv i.s4), .d (iv i.s5)]), (7, .d (iv 1))]) (m' := [(1, (⟨True, 105, 12, true, false, 1, [[.d (iv i.no), .d (iv i.cur), .d (iv i.mult), .d (iv i.add), .d (iv i.set), .d (iv i.price), .d (iv i.s0), .d (iv i.s1), .d (iv i.s2), .d (iv i.s3), .d (iv i.s4), .d (iv i.s5)]]⟩ : ARow))]) ?_ ?_ ?_ ?_, .inr (.inl (⟨rfl, hb, rfl⟩))⟩
    ·simp only [leV, Qa, Nat.reduceBEq, cond_true, cond_false]; exact ⟨QM _, QM _, QM _, trivial⟩
    ·exact ⟨fun _ => ⟨_, rfl, ⟨id, rfl, rfl, fun _ => rfl, id, .inl, VLess.refl _⟩⟩, fun h => by simp at h, trivial⟩
    ·simp [wfV, QL, QK, lookR]
    ·simp [wfR, QK, QL]
  ·intro hb
   simp at hb
 ·skip
  refine QX fun K2 hK2 => ?_
  refine QW F_mixed [some 8] rfl ?_
  simp only [zzK, Nat.reduceLT, Nat.reduceLeDiff, Nat.reduceBEq, zz21, gr_v, zz22, zz6, Nat.reduceEqDiff, ↓reduceIte]
  refine hK2 _ ?_; try clear hK2 K2
  refine kpA [1, 6, 7, 8] ?_
  refine QX fun K2 hK2 => ?_
  refine cnA ?_ ?_
  ·intro hb
   clear hb
   refine awp_skip ?_
   simp only [zz6, Nat.reduceEqDiff, ↓reduceIte]
   refine hK2 _ ?_; try clear hK2 K2
   refine kpA [1, 6, 7] ?_
   refine QX fun K2 hK2 => ?_
   refine Qe ?_
   refine QX fun K3 hK3 => ?_
   refine QW F_mixed [some 9, some 4] rfl ?_
   simp only [zzK, Nat.reduceLT, Nat.reduceLeDiff, Nat.reduceBEq, evS_index, evIv_int, ixB_some, ixV_ag, ixV_agg, F_arr103, F_ok3, F_ag3, F_sz3, zzG, zzD, Nat.reduceAdd, QH, zzH, QY, Int.reduceToNat, Int.reduceLT, Int.reduceLE, cast6, zz6, Nat.reduceEqDiff, ↓reduceIte]
   refine hK3 _ ?_; try clear hK3 K3
   refine kpA [1, 4, 6, 7] ?_
   refine QX fun K3 hK3 => ?_
   refine QW F_mixed [some 10, some 11, some 12] rfl ?_
   simp only [zzK, Nat.reduceLT, Nat.reduceLeDiff, Nat.reduceBEq, QZ, Qb, Qc, zz29, gr_v, zz30, zz6, Nat.reduceEqDiff, ↓reduceIte]
   refine call_go F_go73 (fun hG => inR_ i.s1 (-1073741824) 1073741824) (by simp [QL, QK]) (by simp) ?_
   simp only [zzK, Nat.reduceLT, Nat.reduceLeDiff, Nat.reduceBEq, QZ, Qb, Qc, zz29, gr_v, zz30, zz6, Nat.reduceEqDiff, ↓reduceIte, atsL, oksG, freeN, AV.ren, AV.renL, addRows, ORow.row, Nat.reduceMul, Nat.reduceAdd, zz9, QB, QA, zzC, yyF, zzD, zz2]
   refine hK3 _ ?_; try clear hK3 K3
   refine kpA [1, 6, 7, 12] ?_
   refine cnA ?_ ?_
   ·intro hb
    simp only [Bool.not_eq_true'] at hb
    refine QX fun K4 hK4 => ?_
    refine QW F_mixed [some 2] rfl ?_
    simp only [zzK, Nat.reduceLT, Nat.reduceLeDiff, Nat.reduceBEq, QY, zz6, Nat.reduceEqDiff, ↓reduceIte]
    refine hK4 _ ?_; try clear hK4 K4
    refine kpA [2] ?_
    refine awp_ret ?_
    simp only [zz6, Nat.reduceEqDiff, ↓reduceIte]
    refine dnA ?_
    simp only [QD, QE, resA, Qi, Nat.reduceLT, Nat.reduceLeDiff, Qa, Nat.reduceBEq, cond_true, cond_false, resAll]
    have e : instOk i = false := by simp [instOk, shOk, hb]
    rw [e]
   ·intro hb
    simp only [Bool.not_eq_false'] at hb
    refine awp_skip ?_
    simp only [zz6, Nat.reduceEqDiff, ↓reduceIte]
    refine hK2 _ ?_; try clear hK2 K2
    refine kpA [1, 6, 7] ?_
    refine QW F_mixed [some 13, some 7] rfl ?_
    simp only [zzK, Nat.reduceLT, Nat.reduceLeDiff, Nat.reduceBEq, zz21, gr_v, zz26, QZ, zz6, Nat.reduceEqDiff, ↓reduceIte]
    refine ⟨4, _, by decide, le_SK id [] rfl (l' := [(1, .ptr 1 0 0), (6, .ag [.d (iv i.s0), .d (iv i.s1), .d (iv i.s2), .d (iv i.s3), .d (iv i.s4), .d (iv i.s5)]), (7, .d (iv 2))]) (m' := [(1, (⟨True, 105, 12, true, false, 1, [[.d (iv i.no), .d (iv i.cur), .d (iv i.mult), .d (iv i.add), .d (iv i.set), .d (iv i.price), .d (iv i.s0), .d (iv i.s1), .d (iv i.s2), .d (iv i.s3), .d (iv i.s4), .d (iv i.s5)]]⟩ : ARow))]) ?_ ?_ ?_ ?_, .inr (.inr (.inl (⟨rfl, h0, hb, rfl⟩)))⟩
    ·simp only [leV, Qa, Nat.reduceBEq, cond_true, cond_false]; exact ⟨QM _, QM _, QM _, trivial⟩
    ·exact ⟨fun _ => ⟨_, rfl, ⟨id, rfl, rfl, fun _ => rfl, id, .inl, VLess.refl _⟩⟩, fun h => by simp at h, trivial⟩
    ·simp [wfV, QL, QK, lookR]
    ·simp [wfR, QK, QL]
  ·intro hb
   simp at hb
 ·skip
  refine QX fun K2 hK2 => ?_
  refine QW F_mixed [some 8] rfl ?_
  simp only [zzK, Nat.reduceLT, Nat.reduceLeDiff, Nat.reduceBEq, zz21, gr_v, zz22, zz6, Nat.reduceEqDiff, ↓reduceIte]
  refine hK2 _ ?_; try clear hK2 K2
  refine kpA [1, 6, 7, 8] ?_
  refine QX fun K2 hK2 => ?_
  refine cnA ?_ ?_
  ·intro hb
   clear hb
   refine awp_skip ?_
   simp only [zz6, Nat.reduceEqDiff, ↓reduceIte]
   refine hK2 _ ?_; try clear hK2 K2
   refine kpA [1, 6, 7] ?_
   refine QX fun K2 hK2 => ?_
   refine Qe ?_
   refine QX fun K3 hK3 => ?_
   refine QW F_mixed [some 9, some 4] rfl ?_
   simp only [zzK, Nat.reduceLT, Nat.reduceLeDiff, Nat.reduceBEq, evS_index, evIv_int, ixB_some, ixV_ag, ixV_agg, F_arr103, F_ok3, F_ag3, F_sz3, zzG, zzD, Nat.reduceAdd, QH, zzH, QY, Int.reduceToNat, Int.reduceLT, Int.reduceLE, cast6, zz6, Nat.reduceEqDiff, ↓reduceIte]
   refine hK3 _ ?_; try clear hK3 K3
   refine kpA [1, 4, 6, 7] ?_
   refine QX fun K3 hK3 => ?_
   refine QW F_mixed [some 10, some 11, some 12] rfl ?_
   simp only [zzK, Nat.reduceLT, Nat.reduceLeDiff, Nat.reduceBEq, QZ, Qb, Qc, zz29, gr_v, zz30, zz6, Nat.reduceEqDiff, ↓reduceIte]
   refine call_go F_go73 (fun hG => inR_ i.s2 (-1073741824) 1073741824) (by simp [QL, QK]) (by simp) ?_
   simp only [zzK, Nat.reduceLT, Nat.reduceLeDiff, Nat.reduceBEq, QZ, Qb, Qc, zz29, gr_v, zz30, zz6, Nat.reduceEqDiff, ↓reduceIte, atsL, oksG, freeN, AV.ren, AV.renL, addRows, ORow.row, Nat.reduceMul, Nat.reduceAdd, zz9, QB, QA, zzC, yyF, zzD, zz2]
   refine hK3 _ ?_; try clear hK3 K3
   refine kpA [1, 6, 7, 12] ?_
   refine cnA ?_ ?_
   ·intro hb
    simp only [Bool.not_eq_true'] at hb
    refine QX fun K4 hK4 => ?_
    refine QW F_mixed [some 2] rfl ?_
    simp only [zzK, Nat.reduceLT, Nat.reduceLeDiff, Nat.reduceBEq, QY, zz6, Nat.reduceEqDiff, ↓reduceIte]
    refine hK4 _ ?_; try clear hK4 K4
    refine kpA [2] ?_
    refine awp_ret ?_
    simp only [zz6, Nat.reduceEqDiff, ↓reduceIte]
    refine dnA ?_
    simp only [QD, QE, resA, Qi, Nat.reduceLT, Nat.reduceLeDiff, Qa, Nat.reduceBEq, cond_true, cond_false, resAll]
    have e : instOk i = false := by simp [instOk, shOk, hb]
    rw [e]
   ·intro hb
    simp only [Bool.not_eq_false'] at hb
    refine awp_skip ?_
    simp only [zz6, Nat.reduceEqDiff, ↓reduceIte]
    refine hK2 _ ?_; try clear hK2 K2
    refine kpA [1, 6, 7] ?_
    refine QW F_mixed [some 13, some 7] rfl ?_
    simp only [zzK, Nat.reduceLT, Nat.reduceLeDiff, Nat.reduceBEq, zz21, gr_v, zz26, QZ, zz6, Nat.reduceEqDiff, ↓reduceIte]
    refine ⟨3, _, by decide, le_SK id [] rfl (l' := [(1, .ptr 1 0 0), (6, .ag [.d (iv i.s0), .d (iv i.s1), .d (iv i.s2), .d (iv i.s3), .d (iv i.s4), .d (iv i.s5)]), (7, .d (iv 3))]) (m' := [(1, (⟨True, 105, 12, true, false, 1, [[.d (iv i.no), .d (iv i.cur), .d (iv i.mult), .d (iv i.add), .d (iv i.set), .d (iv i.price), .d (iv i.s0), .d (iv i.s1), .d (iv i.s2), .d (iv i.s3), .d (iv i.s4), .d (iv i.s5)]]⟩ : ARow))]) ?_ ?_ ?_ ?_, .inr (.inr (.inr (.inl (⟨rfl, h0, h1, hb, rfl⟩))))⟩
    ·simp only [leV, Qa, Nat.reduceBEq, cond_true, cond_false]; exact ⟨QM _, QM _, QM _, trivial⟩
    ·exact ⟨fun _ => ⟨_, rfl, ⟨id, rfl, rfl, fun _ => rfl, id, .inl, VLess.refl _⟩⟩, fun h => by simp at h, trivial⟩
    ·simp [wfV, QL, QK, lookR]
    ·simp [wfR, QK, QL]
  ·intro hb
   simp at hb
 ·skip
  refine QX fun K2 hK2 => ?_
  refine QW F_mixed [some 8] rfl ?_
  simp only [zzK, Nat.reduceLT, Nat.reduceLeDiff, Nat.reduceBEq, zz21, gr_v, zz22, zz6, Nat.reduceEqDiff, ↓reduceIte]
  refine hK2 _ ?_; try clear hK2 K2
  refine kpA [1, 6, 7, 8] ?_
  refine QX fun K2 hK2 => ?_
  refine cnA ?_ ?_
  ·intro hb
   clear hb
   refine awp_skip ?_
   simp only [zz6, Nat.reduceEqDiff, ↓reduceIte]
   refine hK2 _ ?_; try clear hK2 K2
   refine kpA [1, 6, 7] ?_
   refine QX fun K2 hK2 => ?_
   refine Qe ?_
   refine QX fun K3 hK3 => ?_
   refine QW F_mixed [some 9, some 4] rfl ?_
   simp only [zzK, Nat.reduceLT, Nat.reduceLeDiff, Nat.reduceBEq, evS_index, evIv_int, ixB_some, ixV_ag, ixV_agg, F_arr103, F_ok3, F_ag3, F_sz3, zzG, zzD, Nat.reduceAdd, QH, zzH, QY, Int.reduceToNat, Int.reduceLT, Int.reduceLE, cast6, zz6, Nat.reduceEqDiff, ↓reduceIte]
   refine hK3 _ ?_; try clear hK3 K3
   refine kpA [1, 4, 6, 7] ?_
   refine QX fun K3 hK3 => ?_
   refine QW F_mixed [some 10, some 11, some 12] rfl ?_
   simp only [zzK, Nat.reduceLT, Nat.reduceLeDiff, Nat.reduceBEq, QZ, Qb, Qc, zz29, gr_v, zz30, zz6, Nat.reduceEqDiff, ↓reduceIte]
   refine call_go F_go73 (fun hG => inR_ i.s3 (-1073741824) 1073741824) (by simp [QL, QK]) (by simp) ?_
   simp only [zzK, Nat.reduceLT, Nat.reduceLeDiff, Nat.reduceBEq, QZ, Qb, Qc, zz29, gr_v, zz30, zz6, Nat.reduceEqDiff, ↓reduceIte, atsL, oksG, freeN, AV.ren, AV.renL, addRows, ORow.row, Nat.reduceMul, Nat.reduceAdd, zz9, QB, QA, zzC, yyF, zzD, zz2]
   refine hK3 _ ?_; try clear hK3 K3
   refine kpA [1, 6, 7, 12] ?_
   refine cnA ?_ ?_
   ·intro hb
    simp only [Bool.not_eq_true'] at hb
    refine QX fun K4 hK4 => ?_
    refine QW F_mixed [some 2] rfl ?_
    simp only [zzK, Nat.reduceLT, Nat.reduceLeDiff, Nat.reduceBEq, QY, zz6, Nat.reduceEqDiff, ↓reduceIte]
    refine hK4 _ ?_; try clear hK4 K4
    refine kpA [2] ?_
    refine awp_ret ?_
    simp only [zz6, Nat.reduceEqDiff, ↓reduceIte]
    refine dnA ?_
    simp only [QD, QE, resA, Qi, Nat.reduceLT, Nat.reduceLeDiff, Qa, Nat.reduceBEq, cond_true, cond_false, resAll]
    have e : instOk i = false := by simp [instOk, shOk, hb]
    rw [e]
   ·intro hb
    simp only [Bool.not_eq_false'] at hb
    refine awp_skip ?_
    simp only [zz6, Nat.reduceEqDiff, ↓reduceIte]
    refine hK2 _ ?_; try clear hK2 K2
    refine kpA [1, 6, 7] ?_
    refine QW F_mixed [some 13, some 7] rfl ?_
    simp only [zzK, Nat.reduceLT, Nat.reduceLeDiff, Nat.reduceBEq, zz21, gr_v, zz26, QZ, zz6, Nat.reduceEqDiff, ↓reduceIte]
    refine ⟨2, _, by decide, le_SK id [] rfl (l' := [(1, .ptr 1 0 0), (6, .ag [.d (iv i.s0), .d (iv i.s1), .d (iv i.s2), .d (iv i.s3), .d (iv i.s4), .d (iv i.s5)]), (7, .d (iv 4))]) (m' := [(1, (⟨True, 105, 12, true, false, 1, [[.d (iv i.no), .d (iv i.cur), .d (iv i.mult), .d (iv i.add), .d (iv i.set), .d (iv i.price), .d (iv i.s0), .d (iv i.s1), .d (iv i.s2), .d (iv i.s3), .d (iv i.s4), .d (iv i.s5)]]⟩ : ARow))]) ?_ ?_ ?_ ?_, .inr (.inr (.inr (.inr (.inl (⟨rfl, h0, h1, h2, hb, rfl⟩)))))⟩
    ·simp only [leV, Qa, Nat.reduceBEq, cond_true, cond_false]; exact ⟨QM _, QM _, QM _, trivial⟩
    ·exact ⟨fun _ => ⟨_, rfl, ⟨id, rfl, rfl, fun _ => rfl, id, .inl, VLess.refl _⟩⟩, fun h => by simp at h, trivial⟩
    ·simp [wfV, QL, QK, lookR]
    ·simp [wfR, QK, QL]
  ·intro hb
   simp at hb
 ·skip
  refine QX fun K2 hK2 => ?_
  refine QW F_mixed [some 8] rfl ?_
  simp only [zzK, Nat.reduceLT, Nat.reduceLeDiff, Nat.reduceBEq, zz21, gr_v, zz22, zz6, Nat.reduceEqDiff, ↓reduceIte]
  refine hK2 _ ?_; try clear hK2 K2
  refine kpA [1, 6, 7, 8] ?_
  refine QX fun K2 hK2 => ?_
  refine cnA ?_ ?_
  ·intro hb
   clear hb
   refine awp_skip ?_
   simp only [zz6, Nat.reduceEqDiff, ↓reduceIte]
   refine hK2 _ ?_; try clear hK2 K2
   refine kpA [1, 6, 7] ?_
   refine QX fun K2 hK2 => ?_
   refine Qe ?_
   refine QX fun K3 hK3 => ?_
   refine QW F_mixed [some 9, some 4] rfl ?_
   simp only [zzK, Nat.reduceLT, Nat.reduceLeDiff, Nat.reduceBEq, evS_index, evIv_int, ixB_some, ixV_ag, ixV_agg, F_arr103, F_ok3, F_ag3, F_sz3, zzG, zzD, Nat.reduceAdd, QH, zzH, QY, Int.reduceToNat, Int.reduceLT, Int.reduceLE, cast6, zz6, Nat.reduceEqDiff, ↓reduceIte]
   refine hK3 _ ?_; try clear hK3 K3
   refine kpA [1, 4, 6, 7] ?_
   refine QX fun K3 hK3 => ?_
   refine QW F_mixed [some 10, some 11, some 12] rfl ?_
   simp only [zzK, Nat.reduceLT, Nat.reduceLeDiff, Nat.reduceBEq, QZ, Qb, Qc, zz29, gr_v, zz30, zz6, Nat.reduceEqDiff, ↓reduceIte]
   refine call_go F_go73 (fun hG => inR_ i.s4 (-1073741824) 1073741824) (by simp [QL, QK]) (by simp) ?_
   simp only [zzK, Nat.reduceLT, Nat.reduceLeDiff, Nat.reduceBEq, QZ, Qb, Qc, zz29, gr_v, zz30, zz6, Nat.reduceEqDiff, ↓reduceIte, atsL, oksG, freeN, AV.ren, AV.renL, addRows, ORow.row, Nat.reduceMul, Nat.reduceAdd, zz9, QB, QA, zzC, yyF, zzD, zz2]
   refine hK3 _ ?_; try clear hK3 K3
   refine kpA [1, 6, 7, 12] ?_
   refine cnA ?_ ?_
   ·intro hb
    simp only [Bool.not_eq_true'] at hb
    refine QX fun K4 hK4 => ?_
    refine QW F_mixed [some 2] rfl ?_
    simp only [zzK, Nat.reduceLT, Nat.reduceLeDiff, Nat.reduceBEq, QY, zz6, Nat.reduceEqDiff, ↓reduceIte]
    refine hK4 _ ?_; try clear hK4 K4
    refine kpA [2] ?_
    refine awp_ret ?_
    simp only [zz6, Nat.reduceEqDiff, ↓reduceIte]
    refine dnA ?_
    simp only [QD, QE, resA, Qi, Nat.reduceLT, Nat.reduceLeDiff, Qa, Nat.reduceBEq, cond_true, cond_false, resAll]
    have e : instOk i = false := by simp [instOk, shOk, hb]
    rw [e]
   ·intro hb
    simp only [Bool.not_eq_false'] at hb
    refine awp_skip ?_
    simp only [zz6, Nat.reduceEqDiff, ↓reduceIte]
    refine hK2 _ ?_; try clear hK2 K2
    refine kpA [1, 6, 7] ?_
    refine QW F_mixed [some 13, some 7] rfl ?_
    simp only [zzK, Nat.reduceLT, Nat.reduceLeDiff, Nat.reduceBEq, zz21, gr_v, zz26, QZ, zz6, Nat.reduceEqDiff, ↓reduceIte]
    refine ⟨1, _, by decide, le_SK id [] rfl (l' := [(1, .ptr 1 0 0), (6, .ag [.d (iv i.s0), .d (iv i.s1), .d (iv i.s2), .d (iv i.s3), .d (iv i.s4), .d (iv i.s5)]), (7, .d (iv 5))]) (m' := [(1, (⟨True, 105, 12, true, false, 1, [[.d (iv i.no), .d (iv i.cur), .d (iv i.mult), .d (iv i.add), .d (iv i.set), .d (iv i.price), .d (iv i.s0), .d (iv i.s1), .d (iv i.s2), .d (iv i.s3), .d (iv i.s4), .d (iv i.s5)]]⟩ : ARow))]) ?_ ?_ ?_ ?_, .inr (.inr (.inr (.inr (.inr (.inl (⟨rfl, h0, h1, h2, h3, hb, rfl⟩))))))⟩
    ·simp only [leV, Qa, Nat.reduceBEq, cond_true, cond_false]; exact ⟨QM _, QM _, QM _, trivial⟩
    ·exact ⟨fun _ => ⟨_, rfl, ⟨id, rfl, rfl, fun _ => rfl, id, .inl, VLess.refl _⟩⟩, fun h => by simp at h, trivial⟩
    ·simp [wfV, QL, QK, lookR]
    ·simp [wfR, QK, QL]
  ·intro hb
   simp at hb
 ·skip
  refine QX fun K2 hK2 => ?_
  refine QW F_mixed [some 8] rfl ?_
  simp only [zzK, Nat.reduceLT, Nat.reduceLeDiff, Nat.reduceBEq, zz21, gr_v, zz22, zz6, Nat.reduceEqDiff, ↓reduceIte]
  refine hK2 _ ?_; try clear hK2 K2
  refine kpA [1, 6, 7, 8] ?_
  refine QX fun K2 hK2 => ?_
  refine cnA ?_ ?_
  ·intro hb
   clear hb
   refine awp_skip ?_
   simp only [zz6, Nat.reduceEqDiff, ↓reduceIte]
   refine hK2 _ ?_; try clear hK2 K2
   refine kpA [1, 6, 7] ?_
   refine QX fun K2 hK2 => ?_
   refine Qe ?_
   refine QX fun K3 hK3 => ?_
   refine QW F_mixed [some 9, some 4] rfl ?_
   simp only [zzK, Nat.reduceLT, Nat.reduceLeDiff, Nat.reduceBEq, evS_index, evIv_int, ixB_some, ixV_ag, ixV_agg, F_arr103, F_ok3, F_ag3, F_sz3, zzG, zzD, Nat.reduceAdd, QH, zzH, QY, Int.reduceToNat, Int.reduceLT, Int.reduceLE, cast6, zz6, Nat.reduceEqDiff, ↓reduceIte]
   refine hK3 _ ?_; try clear hK3 K3
   refine kpA [1, 4, 6, 7] ?_
   refine QX fun K3 hK3 => ?_
   refine QW F_mixed [some 10, some 11, some 12] rfl ?_
   simp only [zzK, Nat.reduceLT, Nat.reduceLeDiff, Nat.reduceBEq, QZ, Qb, Qc, zz29, gr_v, zz30, zz6, Nat.reduceEqDiff, ↓reduceIte]
   refine call_go F_go73 (fun hG => inR_ i.s5 (-1073741824) 1073741824) (by simp [QL, QK]) (by simp) ?_
   simp only [zzK, Nat.reduceLT, Nat.reduceLeDiff, Nat.reduceBEq, QZ, Qb, Qc, zz29, gr_v, zz30, zz6, Nat.reduceEqDiff, ↓reduceIte, atsL, oksG, freeN, AV.ren, AV.renL, addRows, ORow.row, Nat.reduceMul, Nat.reduceAdd, zz9, QB, QA, zzC, yyF, zzD, zz2]
   refine hK3 _ ?_; try clear hK3 K3
   refine kpA [1, 6, 7, 12] ?_
   refine cnA ?_ ?_
   ·intro hb
    simp only [Bool.not_eq_true'] at hb
    refine QX fun K4 hK4 => ?_
    refine QW F_mixed [some 2] rfl ?_
    simp only [zzK, Nat.reduceLT, Nat.reduceLeDiff, Nat.reduceBEq, QY, zz6, Nat.reduceEqDiff, ↓reduceIte]
    refine hK4 _ ?_; try clear hK4 K4
    refine kpA [2] ?_
    refine awp_ret ?_
    simp only [zz6, Nat.reduceEqDiff, ↓reduceIte]
    refine dnA ?_
    simp only [QD, QE, resA, Qi, Nat.reduceLT, Nat.reduceLeDiff, Qa, Nat.reduceBEq, cond_true, cond_false, resAll]
    have e : instOk i = false := by simp [instOk, shOk, hb]
    rw [e]
   ·intro hb
    simp only [Bool.not_eq_false'] at hb
    refine awp_skip ?_
    simp only [zz6, Nat.reduceEqDiff, ↓reduceIte]
    refine hK2 _ ?_; try clear hK2 K2
    refine kpA [1, 6, 7] ?_
    refine QW F_mixed [some 13, some 7] rfl ?_
    simp only [zzK, Nat.reduceLT, Nat.reduceLeDiff, Nat.reduceBEq, zz21, gr_v, zz26, QZ, zz6, Nat.reduceEqDiff, ↓reduceIte]
    refine ⟨0, _, by decide, le_SK id [] rfl (l' := [(1, .ptr 1 0 0), (6, .ag [.d (iv i.s0), .d (iv i.s1), .d (iv i.s2), .d (iv i.s3), .d (iv i.s4), .d (iv i.s5)]), (7, .d (iv 6))]) (m' := [(1, (⟨True, 105, 12, true, false, 1, [[.d (iv i.no), .d (iv i.cur), .d (iv i.mult), .d (iv i.add), .d (iv i.set), .d (iv i.price), .d (iv i.s0), .d (iv i.s1), .d (iv i.s2), .d (iv i.s3), .d (iv i.s4), .d (iv i.s5)]]⟩ : ARow))]) ?_ ?_ ?_ ?_, .inr (.inr (.inr (.inr (.inr (.inr (⟨rfl, h0, h1, h2, h3, h4, hb, rfl⟩))))))⟩
    ·simp only [leV, Qa, Nat.reduceBEq, cond_true, cond_false]; exact ⟨QM _, QM _, QM _, trivial⟩
    ·exact ⟨fun _ => ⟨_, rfl, ⟨id, rfl, rfl, fun _ => rfl, id, .inl, VLess.refl _⟩⟩, fun h => by simp at h, trivial⟩
    ·simp [wfV, QL, QK, lookR]
    ·simp [wfR, QK, QL]
  ·intro hb
   simp at hb
 ·skip
  refine QX fun K2 hK2 => ?_
  refine QW F_mixed [some 8] rfl ?_
  simp only [zzK, Nat.reduceLT, Nat.reduceLeDiff, Nat.reduceBEq, zz21, gr_v, zz22, zz6, Nat.reduceEqDiff, ↓reduceIte]
  refine hK2 _ ?_; try clear hK2 K2
  refine kpA [1, 6, 7, 8] ?_
  refine QX fun K2 hK2 => ?_
  refine cnA ?_ ?_
  ·intro hb
   simp at hb
  ·intro hb
   clear hb
   refine awp_exit ?_
   simp only [zz6, Nat.reduceEqDiff, ↓reduceIte]
   refine hK0 _ ?_; try clear hK0 K0
   refine kpA [1] ?_
   refine QX fun K0 hK0 => ?_
   refine QW F_mixed [some 14, some 15, some 16, some 17, some 18, some 19, some 20, some 21, some 22, some 23, some 24, some 25, some 26, some 27, some 28, some 29, some 30, some 31, some 32, some 33, some 34, some 35, some 36, some 37, some 38, some 39, some 40, some 41, some 2] rfl ?_
   simp only [zzK, Nat.reduceLT, Nat.reduceLeDiff, Nat.reduceBEq, Nat.reduceSub, Qi, zz5, and_imp, imp_and, imp_self, zz19, zz23, F_off105_0, zzH, QH, Nat.reduceAdd, F_ok3, F_ag3, F_sz3, zz8, zzD, zzC, QA, yyE, reduceCtorEq, Qb, Qc, QZ, F_off105_1, zz13, pickK_l, pickK_r, F_off105_2, F_off105_3, F_off105_4, F_off105_5, QY, zz6, Nat.reduceEqDiff, ↓reduceIte]
   refine call_go F_go73 (fun hG => inR_ i.no 1 8) (by simp [QL, QK]) (by simp) ?_
   simp only [zzK, Nat.reduceLT, Nat.reduceLeDiff, Nat.reduceBEq, Nat.reduceSub, Qi, zz5, and_imp, imp_and, imp_self, zz19, zz23, F_off105_0, zzH, QH, Nat.reduceAdd, F_ok3, F_ag3, F_sz3, zz8, zzD, zzC, QA, yyE, reduceCtorEq, Qb, Qc, QZ, F_off105_1, zz13, pickK_l, pickK_r, F_off105_2, F_off105_3, F_off105_4, F_off105_5, QY, zz6, Nat.reduceEqDiff, ↓reduceIte, atsL, oksG, freeN, AV.ren, AV.renL, addRows, ORow.row, Nat.reduceMul, Nat.reduceAdd, zz9, QB, QA, S_mem, yyF, QF, zz2]
   refine call_go F_go73 (fun hG => inR_ i.cur 0 2) (by simp [QL, QK]) (by simp) ?_
   simp only [zzK, Nat.reduceLT, Nat.reduceLeDiff, Nat.reduceBEq, Nat.reduceSub, Qi, zz5, and_imp, imp_and, imp_self, zz19, zz23, F_off105_0, zzH, QH, Nat.reduceAdd, F_ok3, F_ag3, F_sz3, zz8, zzD, zzC, QA, yyE, reduceCtorEq, Qb, Qc, QZ, F_off105_1, zz13, pickK_l, pickK_r, F_off105_2, F_off105_3, F_off105_4, F_off105_5, QY, zz6, Nat.reduceEqDiff, ↓reduceIte, atsL, oksG, freeN, AV.ren, AV.renL, addRows, ORow.row, Nat.reduceMul, Nat.reduceAdd, zz9, QB, QA, S_mem, yyF, QF, zz2]
   refine call_go F_go73 (fun hG => inR_ i.mult 1 1024) (by simp [QL, QK]) (by simp) ?_
   simp only [zzK, Nat.reduceLT, Nat.reduceLeDiff, Nat.reduceBEq, Nat.reduceSub, Qi, zz5, and_imp, imp_and, imp_self, zz19, zz23, F_off105_0, zzH, QH, Nat.reduceAdd, F_ok3, F_ag3, F_sz3, zz8, zzD, zzC, QA, yyE, reduceCtorEq, Qb, Qc, QZ, F_off105_1, zz13, pickK_l, pickK_r, F_off105_2, F_off105_3, F_off105_4, F_off105_5, QY, zz6, Nat.reduceEqDiff, ↓reduceIte, atsL, oksG, freeN, AV.ren, AV.renL, addRows, ORow.row, Nat.reduceMul, Nat.reduceAdd, zz9, QB, QA, S_mem, yyF, QF, zz2]
   refine call_go F_go73 (fun hG => inR_ i.add 0 1073741824) (by simp [QL, QK]) (by simp) ?_
   simp only [zzK, Nat.reduceLT, Nat.reduceLeDiff, Nat.reduceBEq, Nat.reduceSub, Qi, zz5, and_imp, imp_and, imp_self, zz19, zz23, F_off105_0, zzH, QH, Nat.reduceAdd, F_ok3, F_ag3, F_sz3, zz8, zzD, zzC, QA, yyE, reduceCtorEq, Qb, Qc, QZ, F_off105_1, zz13, pickK_l, pickK_r, F_off105_2, F_off105_3, F_off105_4, F_off105_5, QY, zz6, Nat.reduceEqDiff, ↓reduceIte, atsL, oksG, freeN, AV.ren, AV.renL, addRows, ORow.row, Nat.reduceMul, Nat.reduceAdd, zz9, QB, QA, S_mem, yyF, QF, zz2]
   refine call_go F_go73 (fun hG => inR_ i.set 0 1073741824) (by simp [QL, QK]) (by simp) ?_
   simp only [zzK, Nat.reduceLT, Nat.reduceLeDiff, Nat.reduceBEq, Nat.reduceSub, Qi, zz5, and_imp, imp_and, imp_self, zz19, zz23, F_off105_0, zzH, QH, Nat.reduceAdd, F_ok3, F_ag3, F_sz3, zz8, zzD, zzC, QA, yyE, reduceCtorEq, Qb, Qc, QZ, F_off105_1, zz13, pickK_l, pickK_r, F_off105_2, F_off105_3, F_off105_4, F_off105_5, QY, zz6, Nat.reduceEqDiff, ↓reduceIte, atsL, oksG, freeN, AV.ren, AV.renL, addRows, ORow.row, Nat.reduceMul, Nat.reduceAdd, zz9, QB, QA, S_mem, yyF, QF, zz2]
   refine call_go F_go73 (fun hG => inR_ i.price 0 1073741824) (by simp [QL, QK]) (by simp) ?_
   simp only [zzK, Nat.reduceLT, Nat.reduceLeDiff, Nat.reduceBEq, Nat.reduceSub, Qi, zz5, and_imp, imp_and, imp_self, zz19, zz23, F_off105_0, zzH, QH, Nat.reduceAdd, F_ok3, F_ag3, F_sz3, zz8, zzD, zzC, QA, yyE, reduceCtorEq, Qb, Qc, QZ, F_off105_1, zz13, pickK_l, pickK_r, F_off105_2, F_off105_3, F_off105_4, F_off105_5, QY, zz6, Nat.reduceEqDiff, ↓reduceIte, atsL, oksG, freeN, AV.ren, AV.renL, addRows, ORow.row, Nat.reduceMul, Nat.reduceAdd, zz9, QB, QA, S_mem, yyF, QF, zz2]
   refine hK0 _ ?_; try clear hK0 K0
   refine kpA [2] ?_
   refine awp_ret ?_
   simp only [zz6, Nat.reduceEqDiff, ↓reduceIte]
   refine dnA ?_
   simp only [QD, QE, resA, Qi, Nat.reduceLT, Nat.reduceLeDiff, Qa, Nat.reduceBEq, cond_true, cond_false, resAll]
   simp only [instOk, h0, h1, h2, h3, h4, h5, Bool.true_and]
theorem risesI_ (l : List InstV) (hl : l.length < 4611686018427387904) : ACalls Try.prog 55 [instsD l, fnD 56, fnD 57] [] (bv (chk instOk InstV.no none l)) := by
 refine acalls_S (rs := [.tmp 6]) Try.func55 rfl rfl 38 [(0, .d (instsD l)), (1, .d (fnD 56)), (2, .d (fnD 57))] rfl (by simp) rfl ?_
 refine QX fun K0 hK0 => ?_
 refine QW F_mixed [some 6] rfl ?_
 simp only [zzK, Nat.reduceLT, Nat.reduceLeDiff, Nat.reduceBEq, QY, zz6, Nat.reduceEqDiff, ↓reduceIte]
 refine hK0 _ ?_; try clear hK0 K0
 refine kpA [0, 1, 2] ?_
 refine QX fun K0 hK0 => ?_
 refine QX fun K1 hK1 => ?_
 refine QW F_mixed [some 9, some 10, some 11] rfl ?_
 simp only [zzK, Nat.reduceLT, Nat.reduceLeDiff, Nat.reduceBEq, QZ, Qb, zz12, F_sl42, Option.isSome_some, instsD, len_map, zz6, Nat.reduceEqDiff, ↓reduceIte]
 refine hK1 _ ?_; try clear hK1 K1
 refine kpA [0, 1, 2, 9, 10, 11] ?_
 refine Qe ?_
 refine awp_loop (fun m s => ∃ pre post : List InstV, l = pre ++ post ∧ chk instOk InstV.no none l = chk instOk InstV.no pre.getLast? post ∧ m = post.length ∧ s = S 38 [(0, .d (instsD l)), (1, .d (fnD 56)), (2, .d (fnD 57)), (9, .d (instsD l)), (10, .d (iv l.length)), (11, .d (iv pre.length))] []) l.length _ (le_S0 (l' := [(0, .d (instsD l)), (1, .d (fnD 56)), (2, .d (fnD 57)), (9, .d (instsD l)), (10, .d (iv l.length)), (11, .d (iv ([] : List InstV).length))]) ?_ ?_) ⟨[], l, rfl, rfl, rfl, rfl⟩ ?_
 ·simp only [leL, Qa, Nat.reduceBEq, cond_true, cond_false, instsD, len_map, List.length_nil]; trivial
 ·simp [wfV, QL]
 rintro m s ⟨pre, post, rfl, hck, rfl, rfl⟩
 refine QX fun K2 hK2 => ?_
 refine QW F_mixed [some 12] rfl ?_
 simp only [zzK, Nat.reduceLT, Nat.reduceLeDiff, Nat.reduceBEq, zz21, gr_v, zz22, zz6, Nat.reduceEqDiff, ↓reduceIte]
 refine hK2 _ ?_; try clear hK2 K2
 refine kpA [0, 1, 2, 9, 10, 11, 12] ?_
 refine QX fun K2 hK2 => ?_
 refine cnA ?_ ?_
 ·intro hb
  obtain ⟨x, post, rfl⟩ := more_of hb; clear hb
  have hp : pre.length < 4611686018427387904 := by simp at hl; omega
  have hpg := prev_get instC pre post x [] hp
  refine awp_skip ?_
  simp only [zz6, Nat.reduceEqDiff, ↓reduceIte]
  refine hK2 _ ?_; try clear hK2 K2
  refine kpA [0, 1, 2, 9, 10, 11] ?_
  refine QX fun K2 hK2 => ?_
  refine Qe ?_
  refine QX fun K3 hK3 => ?_
  refine QW F_mixed [some 13, some 14, some 15, some 8, some 7, none] rfl ?_
  simp only [zzK, Nat.reduceLT, Nat.reduceLeDiff, Nat.reduceBEq, QZ, Qf, zz23, zz24, F_sl42, F_sz105, QA, zzC, yyE, reduceCtorEq, F_ok105, F_ag105, zz8, zzD, Nat.reduceAdd, QH, zzH, zz32, newRow1, F_zero105, zz10, QY, zz18, splice, QG, zz1, zzG, instsD, instC, getD_mid, len_map, lt_mid, ge_mid, zz6, Nat.reduceEqDiff, ↓reduceIte]
  refine hK3 _ ?_; try clear hK3 K3
  refine kpA [0, 1, 2, 7, 8, 9, 10, 11] ?_
  refine QX fun K3 hK3 => ?_
  refine awp_draw F_mixed [some 16, some 17, some 18, some 19, some 20, some 21, some 22, some 23, some 24, some 25, some 26, some 27, some 28, some 29, some 30, some 31, some 32, some 33, some 34, some 35, some 36] rfl (by kernel_rfl) ?_
  simp only [zzK, Nat.reduceLT, Nat.reduceLeDiff, Nat.reduceBEq, Nat.reduceSub, Qi, zz5, and_imp, imp_and, imp_self, QZ, F_ok105, F_ag105, F_sz105, zz8, zz23, zzD, Nat.reduceAdd, QH, zzH, zzC, QA, yyE, reduceCtorEq, Qb, Qc, zz29, gr_v, zz30, zz21, zz25, zz33, Qf, zz24, F_sl42, zz31, zz13, pickK_l, pickK_r, fnD, instsD, instC, len_map, hpg, QJ, zz6, Nat.reduceEqDiff, ↓reduceIte]
  refine call_goT ?_ ?_ F_go57 (fun hG => instOk_ x) (by simp [QL, QK]) (by simp) ?_
  ·decide
  ·simp only [Qa, Nat.reduceBEq, cond_true, cond_false, bare_d, bare_wh, fnD]
  simp only [zzK, Nat.reduceLT, Nat.reduceLeDiff, Nat.reduceBEq, Nat.reduceSub, Qi, zz5, and_imp, imp_and, imp_self, QZ, F_ok105, F_ag105, F_sz105, zz8, zz23, zzD, Nat.reduceAdd, QH, zzH, zzC, QA, yyE, reduceCtorEq, Qb, Qc, zz29, gr_v, zz30, zz21, zz25, zz33, Qf, zz24, F_sl42, zz31, zz13, pickK_l, pickK_r, fnD, instsD, instC, len_map, hpg, QJ, zz6, Nat.reduceEqDiff, ↓reduceIte, Nat.reduceSub, Qi, Gp_some, and_imp, imp_and, imp_self, atsL, oksG, freeN, AV.ren, AV.renL, addRows, ORow.row, Nat.reduceMul, Nat.reduceAdd, zz9, QB, QA, S_mem, yyF, QF, zz2]
  refine ⟨⟨fun _ hp2 => prev_ok pre hp hp2, fun _ _ => prev_lt pre post x hp⟩, ?_⟩
  refine call_goT ?_ ?_ F_go56 (fun hG => noInst_ (lastOr x pre)) (by simp [QL, QK]) (by simp) ?_
  ·decide
  ·simp only [Qa, Nat.reduceBEq, cond_true, cond_false, bare_d, bare_wh, fnD]
  simp only [zzK, Nat.reduceLT, Nat.reduceLeDiff, Nat.reduceBEq, Nat.reduceSub, Qi, zz5, and_imp, imp_and, imp_self, QZ, F_ok105, F_ag105, F_sz105, zz8, zz23, zzD, Nat.reduceAdd, QH, zzH, zzC, QA, yyE, reduceCtorEq, Qb, Qc, zz29, gr_v, zz30, zz21, zz25, zz33, Qf, zz24, F_sl42, zz31, zz13, pickK_l, pickK_r, fnD, instsD, instC, len_map, hpg, QJ, zz6, Nat.reduceEqDiff, ↓reduceIte, Nat.reduceSub, Qi, Gp_some, and_imp, imp_and, imp_self, atsL, oksG, freeN, AV.ren, AV.renL, addRows, ORow.row, Nat.reduceMul, Nat.reduceAdd, zz9, QB, QA, S_mem, yyF, QF, zz2]
  refine call_goT ?_ ?_ F_go56 (fun hG => noInst_ x) (by simp [QL, QK]) (by simp) ?_
  ·decide
  ·simp only [Qa, Nat.reduceBEq, cond_true, cond_false, bare_d, bare_wh, fnD]
  simp only [zzK, Nat.reduceLT, Nat.reduceLeDiff, Nat.reduceBEq, Nat.reduceSub, Qi, zz5, and_imp, imp_and, imp_self, QZ, F_ok105, F_ag105, F_sz105, zz8, zz23, zzD, Nat.reduceAdd, QH, zzH, zzC, QA, yyE, reduceCtorEq, Qb, Qc, zz29, gr_v, zz30, zz21, zz25, zz33, Qf, zz24, F_sl42, zz31, zz13, pickK_l, pickK_r, fnD, instsD, instC, len_map, hpg, QJ, zz6, Nat.reduceEqDiff, ↓reduceIte, Nat.reduceSub, Qi, Gp_some, and_imp, imp_and, imp_self, atsL, oksG, freeN, AV.ren, AV.renL, addRows, ORow.row, Nat.reduceMul, Nat.reduceAdd, zz9, QB, QA, S_mem, yyF, QF, zz2]
  refine hK3 _ ?_; try clear hK3 K3
  refine kpA [0, 1, 2, 9, 10, 11, 36] ?_
  refine cnA ?_ ?_
  ·intro hb
   refine QX fun K4 hK4 => ?_
   refine QW F_mixed [some 6] rfl ?_
   simp only [zzK, Nat.reduceLT, Nat.reduceLeDiff, Nat.reduceBEq, QY, zz6, Nat.reduceEqDiff, ↓reduceIte]
   refine hK4 _ ?_; try clear hK4 K4
   refine kpA [6] ?_
   refine awp_ret ?_
   simp only [zz6, Nat.reduceEqDiff, ↓reduceIte]
   refine dnA ?_
   simp only [QD, QE, resA, Qi, Nat.reduceLT, Nat.reduceLeDiff, Qa, Nat.reduceBEq, cond_true, cond_false, resAll]
   rw [hck, chk_step, hb]; simp
  ·intro hb
   refine awp_skip ?_
   simp only [zz6, Nat.reduceEqDiff, ↓reduceIte]
   refine hK2 _ ?_; try clear hK2 K2
   refine kpA [0, 1, 2, 9, 10, 11] ?_
   refine QW F_mixed [some 37, some 11] rfl ?_
   simp only [zzK, Nat.reduceLT, Nat.reduceLeDiff, Nat.reduceBEq, zz21, gr_v, zz26, QZ, zz6, Nat.reduceEqDiff, ↓reduceIte]
   refine ⟨post.length, _, by simp, le_S0 (l' := [(0, .d (instsD (pre ++ x :: post))), (1, .d (fnD 56)), (2, .d (fnD 57)), (9, .d (instsD (pre ++ x :: post))), (10, .d (iv (pre ++ x :: post).length)), (11, .d (iv (pre ++ [x]).length))]) ?_ ?_, pre ++ [x], post, by simp, by rw [hck, chk_step, hb]; simp, rfl, rfl⟩
   ·simp only [leL, Qa, Nat.reduceBEq, cond_true, cond_false, wrap_len pre x (by simp at hl; omega), instsD, fnD]; trivial
   ·simp [wfV, QL]
 ·intro hb
  obtain rfl := none_of hb; clear hb
  refine awp_exit ?_
  simp only [zz6, Nat.reduceEqDiff, ↓reduceIte]
  refine hK0 _ ?_; try clear hK0 K0
  refine kpA [] ?_
  refine QX fun K0 hK0 => ?_
  refine QW F_mixed [some 6] rfl ?_
  simp only [zzK, Nat.reduceLT, Nat.reduceLeDiff, Nat.reduceBEq, QY, zz6, Nat.reduceEqDiff, ↓reduceIte]
  refine hK0 _ ?_; try clear hK0 K0
  refine kpA [6] ?_
  refine awp_ret ?_
  simp only [zz6, Nat.reduceEqDiff, ↓reduceIte]
  refine dnA ?_
  simp only [QD, QE, resA, Qi, Nat.reduceLT, Nat.reduceLeDiff, Qa, Nat.reduceBEq, cond_true, cond_false, resAll]
  rw [hck]; rfl
theorem risesA_ (l : List AssetV) (hl : l.length < 4611686018427387904) : ACalls Try.prog 58 [assetsD l, fnD 59, fnD 60] [] (bv (chk assetOk AssetV.no none l)) := by
 refine acalls_S (rs := [.tmp 6]) Try.func58 rfl rfl 38 [(0, .d (assetsD l)), (1, .d (fnD 59)), (2, .d (fnD 60))] rfl (by simp) rfl ?_
 refine QX fun K0 hK0 => ?_
 refine QW F_mixed [some 6] rfl ?_
 simp only [zzK, Nat.reduceLT, Nat.reduceLeDiff, Nat.reduceBEq, QY, zz6, Nat.reduceEqDiff, ↓reduceIte]
 refine hK0 _ ?_; try clear hK0 K0
 refine kpA [0, 1, 2] ?_
 refine QX fun K0 hK0 => ?_
 refine QX fun K1 hK1 => ?_
 refine QW F_mixed [some 9, some 10, some 11] rfl ?_
 simp only [zzK, Nat.reduceLT, Nat.reduceLeDiff, Nat.reduceBEq, QZ, Qb, zz12, F_sl43, Option.isSome_some, assetsD, len_map, zz6, Nat.reduceEqDiff, ↓reduceIte]
 refine hK1 _ ?_; try clear hK1 K1
 refine kpA [0, 1, 2, 9, 10, 11] ?_
 refine Qe ?_
 refine awp_loop (fun m s => ∃ pre post : List AssetV, l = pre ++ post ∧ chk assetOk AssetV.no none l = chk assetOk AssetV.no pre.getLast? post ∧ m = post.length ∧ s = S 38 [(0, .d (assetsD l)), (1, .d (fnD 59)), (2, .d (fnD 60)), (9, .d (assetsD l)), (10, .d (iv l.length)), (11, .d (iv pre.length))] []) l.length _ (le_S0 (l' := [(0, .d (assetsD l)), (1, .d (fnD 59)), (2, .d (fnD 60)), (9, .d (assetsD l)), (10, .d (iv l.length)), (11, .d (iv ([] : List AssetV).length))]) ?_ ?_) ⟨[], l, rfl, rfl, rfl, rfl⟩ ?_
 ·simp only [leL, Qa, Nat.reduceBEq, cond_true, cond_false, assetsD, len_map, List.length_nil]; trivial
 ·simp [wfV, QL]
 rintro m s ⟨pre, post, rfl, hck, rfl, rfl⟩
 refine QX fun K2 hK2 => ?_
 refine QW F_mixed [some 12] rfl ?_
 simp only [zzK, Nat.reduceLT, Nat.reduceLeDiff, Nat.reduceBEq, zz21, gr_v, zz22, zz6, Nat.reduceEqDiff, ↓reduceIte]
 refine hK2 _ ?_; try clear hK2 K2
 refine kpA [0, 1, 2, 9, 10, 11, 12] ?_
 refine QX fun K2 hK2 => ?_
 refine cnA ?_ ?_
 ·intro hb
  obtain ⟨x, post, rfl⟩ := more_of hb; clear hb
  have hp : pre.length < 4611686018427387904 := by simp at hl; omega
  have hpg := prev_get assetC pre post x [] hp
  refine awp_skip ?_
  simp only [zz6, Nat.reduceEqDiff, ↓reduceIte]
  refine hK2 _ ?_; try clear hK2 K2
  refine kpA [0, 1, 2, 9, 10, 11] ?_
  refine QX fun K2 hK2 => ?_
  refine Qe ?_
  refine QX fun K3 hK3 => ?_
  refine QW F_mixed [some 13, some 14, some 15, some 8, some 7, none] rfl ?_
  simp only [zzK, Nat.reduceLT, Nat.reduceLeDiff, Nat.reduceBEq, QZ, Qf, zz23, zz24, F_sl43, F_sz110, QA, zzC, yyE, reduceCtorEq, F_ok110, F_ag110, zz8, zzD, Nat.reduceAdd, QH, zzH, zz32, newRow1, F_zero110, zz10, QY, zz18, splice, QG, zz1, zzG, assetsD, assetC, getD_mid, len_map, lt_mid, ge_mid, zz6, Nat.reduceEqDiff, ↓reduceIte]
  refine hK3 _ ?_; try clear hK3 K3
  refine kpA [0, 1, 2, 7, 8, 9, 10, 11] ?_
  refine QX fun K3 hK3 => ?_
  refine awp_draw F_mixed [some 16, some 17, some 18, some 19, some 20, some 21, some 22, some 23, some 24, some 25, some 26, some 27, some 28, some 29, some 30, some 31, some 32, some 33, some 34, some 35, some 36] rfl (by kernel_rfl) ?_
  simp only [zzK, Nat.reduceLT, Nat.reduceLeDiff, Nat.reduceBEq, Nat.reduceSub, Qi, zz5, and_imp, imp_and, imp_self, QZ, F_ok110, F_ag110, F_sz110, zz8, zz23, zzD, Nat.reduceAdd, QH, zzH, zzC, QA, yyE, reduceCtorEq, Qb, Qc, zz29, gr_v, zz30, zz21, zz25, zz33, Qf, zz24, F_sl43, zz31, zz13, pickK_l, pickK_r, fnD, assetsD, assetC, len_map, hpg, QJ, zz6, Nat.reduceEqDiff, ↓reduceIte]
  refine call_goT ?_ ?_ F_go60 (fun hG => assetOk_ x) (by simp [QL, QK]) (by simp) ?_
  ·decide
  ·simp only [Qa, Nat.reduceBEq, cond_true, cond_false, bare_d, bare_wh, fnD]
  simp only [zzK, Nat.reduceLT, Nat.reduceLeDiff, Nat.reduceBEq, Nat.reduceSub, Qi, zz5, and_imp, imp_and, imp_self, QZ, F_ok110, F_ag110, F_sz110, zz8, zz23, zzD, Nat.reduceAdd, QH, zzH, zzC, QA, yyE, reduceCtorEq, Qb, Qc, zz29, gr_v, zz30, zz21, zz25, zz33, Qf, zz24, F_sl43, zz31, zz13, pickK_l, pickK_r, fnD, assetsD, assetC, len_map, hpg, QJ, zz6, Nat.reduceEqDiff, ↓reduceIte, Nat.reduceSub, Qi, Gp_some, and_imp, imp_and, imp_self, atsL, oksG, freeN, AV.ren, AV.renL, addRows, ORow.row, Nat.reduceMul, Nat.reduceAdd, zz9, QB, QA, S_mem, yyF, QF, zz2]
  refine ⟨⟨fun _ hp2 => prev_ok pre hp hp2, fun _ _ => prev_lt pre post x hp⟩, ?_⟩
  refine call_goT ?_ ?_ F_go59 (fun hG => noAsset_ (lastOr x pre)) (by simp [QL, QK]) (by simp) ?_
  ·decide
  ·simp only [Qa, Nat.reduceBEq, cond_true, cond_false, bare_d, bare_wh, fnD]
  simp only [zzK, Nat.reduceLT, Nat.reduceLeDiff, Nat.reduceBEq, Nat.reduceSub, Qi, zz5, and_imp, imp_and, imp_self, QZ, F_ok110, F_ag110, F_sz110, zz8, zz23, zzD, Nat.reduceAdd, QH, zzH, zzC, QA, yyE, reduceCtorEq, Qb, Qc, zz29, gr_v, zz30, zz21, zz25, zz33, Qf, zz24, F_sl43, zz31, zz13, pickK_l, pickK_r, fnD, assetsD, assetC, len_map, hpg, QJ, zz6, Nat.reduceEqDiff, ↓reduceIte, Nat.reduceSub, Qi, Gp_some, and_imp, imp_and, imp_self, atsL, oksG, freeN, AV.ren, AV.renL, addRows, ORow.row, Nat.reduceMul, Nat.reduceAdd, zz9, QB, QA, S_mem, yyF, QF, zz2]
  refine call_goT ?_ ?_ F_go59 (fun hG => noAsset_ x) (by simp [QL, QK]) (by simp) ?_
  ·decide
  ·simp only [Qa, Nat.reduceBEq, cond_true, cond_false, bare_d, bare_wh, fnD]
  simp only [zzK, Nat.reduceLT, Nat.reduceLeDiff, Nat.reduceBEq, Nat.reduceSub, Qi, zz5, and_imp, imp_and, imp_self, QZ, F_ok110, F_ag110, F_sz110, zz8, zz23, zzD, Nat.reduceAdd, QH, zzH, zzC, QA, yyE, reduceCtorEq, Qb, Qc, zz29, gr_v, zz30, zz21, zz25, zz33, Qf, zz24, F_sl43, zz31, zz13, pickK_l, pickK_r, fnD, assetsD, assetC, len_map, hpg, QJ, zz6, Nat.reduceEqDiff, ↓reduceIte, Nat.reduceSub, Qi, Gp_some, and_imp, imp_and, imp_self, atsL, oksG, freeN, AV.ren, AV.renL, addRows, ORow.row, Nat.reduceMul, Nat.reduceAdd, zz9, QB, QA, S_mem, yyF, QF, zz2]
  refine hK3 _ ?_; try clear hK3 K3
  refine kpA [0, 1, 2, 9, 10, 11, 36] ?_
  refine cnA ?_ ?_
  ·intro hb
   refine QX fun K4 hK4 => ?_
   refine QW F_mixed [some 6] rfl ?_
   simp only [zzK, Nat.reduceLT, Nat.reduceLeDiff, Nat.reduceBEq, QY, zz6, Nat.reduceEqDiff, ↓reduceIte]
   refine hK4 _ ?_; try clear hK4 K4
   refine kpA [6] ?_
   refine awp_ret ?_
   simp only [zz6, Nat.reduceEqDiff, ↓reduceIte]
   refine dnA ?_
   simp only [QD, QE, resA, Qi, Nat.reduceLT, Nat.reduceLeDiff, Qa, Nat.reduceBEq, cond_true, cond_false, resAll]
   rw [hck, chk_step, hb]; simp
  ·intro hb
   refine awp_skip ?_
   simp only [zz6, Nat.reduceEqDiff, ↓reduceIte]
   refine hK2 _ ?_; try clear hK2 K2
   refine kpA [0, 1, 2, 9, 10, 11] ?_
   refine QW F_mixed [some 37, some 11] rfl ?_
   simp only [zzK, Nat.reduceLT, Nat.reduceLeDiff, Nat.reduceBEq, zz21, gr_v, zz26, QZ, zz6, Nat.reduceEqDiff, ↓reduceIte]
   refine ⟨post.length, _, by simp, le_S0 (l' := [(0, .d (assetsD (pre ++ x :: post))), (1, .d (fnD 59)), (2, .d (fnD 60)), (9, .d (assetsD (pre ++ x :: post))), (10, .d (iv (pre ++ x :: post).length)), (11, .d (iv (pre ++ [x]).length))]) ?_ ?_, pre ++ [x], post, by simp, by rw [hck, chk_step, hb]; simp, rfl, rfl⟩
   ·simp only [leL, Qa, Nat.reduceBEq, cond_true, cond_false, wrap_len pre x (by simp at hl; omega), assetsD, fnD]; trivial
   ·simp [wfV, QL]
 ·intro hb
  obtain rfl := none_of hb; clear hb
  refine awp_exit ?_
  simp only [zz6, Nat.reduceEqDiff, ↓reduceIte]
  refine hK0 _ ?_; try clear hK0 K0
  refine kpA [] ?_
  refine QX fun K0 hK0 => ?_
  refine QW F_mixed [some 6] rfl ?_
  simp only [zzK, Nat.reduceLT, Nat.reduceLeDiff, Nat.reduceBEq, QY, zz6, Nat.reduceEqDiff, ↓reduceIte]
  refine hK0 _ ?_; try clear hK0 K0
  refine kpA [6] ?_
  refine awp_ret ?_
  simp only [zz6, Nat.reduceEqDiff, ↓reduceIte]
  refine dnA ?_
  simp only [QD, QE, resA, Qi, Nat.reduceLT, Nat.reduceLeDiff, Qa, Nat.reduceBEq, cond_true, cond_false, resAll]
  rw [hck]; rfl
theorem check_ (r : RollV) (h : r.Small) : ACalls Try.prog 29 [.agg (rollC r)] [] (.d (iv (rollE r))) := by
 refine acalls_S (rs := [.tmp 2]) Try.func29 rfl rfl 19 [(0, .d (.agg (rollC r)))] rfl (by simp) rfl ?_
 refine QX fun K0 hK0 => ?_
 refine QW F_mixed [some 1, some 2] rfl ?_
 simp only [zzK, Nat.reduceLT, Nat.reduceLeDiff, Nat.reduceBEq, zz35, newRow1, zz1, zzG, zzD, zzC, QA, yyE, reduceCtorEq, Nat.reduceAdd, QH, zzH, QY, rollC, memsD, instsD, assetsD, zz6, Nat.reduceEqDiff, ↓reduceIte]
 refine hK0 _ ?_; try clear hK0 K0
 refine kpA [1] ?_
 refine QX fun K0 hK0 => ?_
 refine QX fun K1 hK1 => ?_
 refine QW F_mixed [some 3, some 4, some 5, some 6, some 7, some 8, some 9, some 10, some 11, some 12, some 13, some 14, some 15, some 16, some 17, some 18] rfl ?_
 simp only [zzK, Nat.reduceLT, Nat.reduceLeDiff, Nat.reduceBEq, Nat.reduceSub, Qi, zz5, and_imp, imp_and, imp_self, zz19, zz23, F_off45_0, zzH, QH, Nat.reduceAdd, F_ok41, F_ag41, F_sz41, zz8, zzD, zzC, QA, yyE, reduceCtorEq, Qb, Qc, zz29, gr_v, zz30, QZ, F_off45_1, F_ok42, F_ag42, F_sz42, zz13, pickK_l, pickK_r, F_off45_2, F_ok43, F_ag43, F_sz43, memsD, instsD, assetsD, fnD, zz6, Nat.reduceEqDiff, ↓reduceIte]
 refine call_go F_go52 (fun hG => risesM_ r.mems (by have := h.mems; omega)) (by simp [QL, QK]) (by simp) ?_
 simp only [zzK, Nat.reduceLT, Nat.reduceLeDiff, Nat.reduceBEq, Nat.reduceSub, Qi, zz5, and_imp, imp_and, imp_self, zz19, zz23, F_off45_0, zzH, QH, Nat.reduceAdd, F_ok41, F_ag41, F_sz41, zz8, zzD, zzC, QA, yyE, reduceCtorEq, Qb, Qc, zz29, gr_v, zz30, QZ, F_off45_1, F_ok42, F_ag42, F_sz42, zz13, pickK_l, pickK_r, F_off45_2, F_ok43, F_ag43, F_sz43, memsD, instsD, assetsD, fnD, zz6, Nat.reduceEqDiff, ↓reduceIte, atsL, oksG, freeN, AV.ren, AV.renL, addRows, ORow.row, Nat.reduceMul, Nat.reduceAdd, zz9, QB, QA, S_mem, yyF, QF, zz2]
 refine call_go F_go55 (fun hG => risesI_ r.insts (by have := h.insts; omega)) (by simp [QL, QK]) (by simp) ?_
 simp only [zzK, Nat.reduceLT, Nat.reduceLeDiff, Nat.reduceBEq, Nat.reduceSub, Qi, zz5, and_imp, imp_and, imp_self, zz19, zz23, F_off45_0, zzH, QH, Nat.reduceAdd, F_ok41, F_ag41, F_sz41, zz8, zzD, zzC, QA, yyE, reduceCtorEq, Qb, Qc, zz29, gr_v, zz30, QZ, F_off45_1, F_ok42, F_ag42, F_sz42, zz13, pickK_l, pickK_r, F_off45_2, F_ok43, F_ag43, F_sz43, memsD, instsD, assetsD, fnD, zz6, Nat.reduceEqDiff, ↓reduceIte, atsL, oksG, freeN, AV.ren, AV.renL, addRows, ORow.row, Nat.reduceMul, Nat.reduceAdd, zz9, QB, QA, S_mem, yyF, QF, zz2]
 refine call_go F_go58 (fun hG => risesA_ r.assets (by have := h.assets; omega)) (by simp [QL, QK]) (by simp) ?_
 simp only [zzK, Nat.reduceLT, Nat.reduceLeDiff, Nat.reduceBEq, Nat.reduceSub, Qi, zz5, and_imp, imp_and, imp_self, zz19, zz23, F_off45_0, zzH, QH, Nat.reduceAdd, F_ok41, F_ag41, F_sz41, zz8, zzD, zzC, QA, yyE, reduceCtorEq, Qb, Qc, zz29, gr_v, zz30, QZ, F_off45_1, F_ok42, F_ag42, F_sz42, zz13, pickK_l, pickK_r, F_off45_2, F_ok43, F_ag43, F_sz43, memsD, instsD, assetsD, fnD, zz6, Nat.reduceEqDiff, ↓reduceIte, atsL, oksG, freeN, AV.ren, AV.renL, addRows, ORow.row, Nat.reduceMul, Nat.reduceAdd, zz9, QB, QA, S_mem, yyF, QF, zz2]
 refine hK1 _ ?_; try clear hK1 K1
 refine kpA [18] ?_
 refine cnA ?_ ?_
 ·intro hb
  refine QX fun K2 hK2 => ?_
  refine QW F_mixed [some 2] rfl ?_
  simp only [zzK, Nat.reduceLT, Nat.reduceLeDiff, Nat.reduceBEq, QY, zz6, Nat.reduceEqDiff, ↓reduceIte]
  refine hK2 _ ?_; try clear hK2 K2
  refine kpA [2] ?_
  refine awp_ret ?_
  simp only [zz6, Nat.reduceEqDiff, ↓reduceIte]
  refine dnA ?_
  simp only [QD, QE, resA, Qi, Nat.reduceLT, Nat.reduceLeDiff, Qa, Nat.reduceBEq, cond_true, cond_false, resAll]
  have e : rollOk r = false := by
   cases hk : rollOk r
   ·rfl
   ·simp [rollOk] at hk; simp [hk] at hb
  simp only [rollE, e, cond_false]
 ·intro hb
  refine awp_skip ?_
  simp only [zz6, Nat.reduceEqDiff, ↓reduceIte]
  refine hK0 _ ?_; try clear hK0 K0
  refine kpA [] ?_
  refine QX fun K0 hK0 => ?_
  refine QW F_mixed [some 2] rfl ?_
  simp only [zzK, Nat.reduceLT, Nat.reduceLeDiff, Nat.reduceBEq, QY, zz6, Nat.reduceEqDiff, ↓reduceIte]
  refine hK0 _ ?_; try clear hK0 K0
  refine kpA [2] ?_
  refine awp_ret ?_
  simp only [zz6, Nat.reduceEqDiff, ↓reduceIte]
  refine dnA ?_
  simp only [QD, QE, resA, Qi, Nat.reduceLT, Nat.reduceLeDiff, Qa, Nat.reduceBEq, cond_true, cond_false, resAll]
  have e : rollOk r = true := by simp only [Bool.or_eq_false_iff, Bool.not_eq_false'] at hb; simp [rollOk, hb]
  simp only [rollE, e, cond_true]
theorem heavy_ (r : RollV) : ACalls Try.prog 13 [.agg (rollC r)] [] (bv (heavy r)) := by
 refine acalls_S (rs := [.tmp 2]) Try.func13 rfl rfl 19 [(0, .d (.agg (rollC r)))] rfl (by simp) rfl ?_
 refine QX fun K0 hK0 => ?_
 refine QW F_mixed [some 1, some 2] rfl ?_
 simp only [zzK, Nat.reduceLT, Nat.reduceLeDiff, Nat.reduceBEq, zz35, newRow1, zz1, zzG, zzD, zzC, QA, yyE, reduceCtorEq, Nat.reduceAdd, QH, zzH, QY, rollC, memsD, instsD, assetsD, zz6, Nat.reduceEqDiff, ↓reduceIte]
 refine hK0 _ ?_; try clear hK0 K0
 refine kpA [1] ?_
 refine QX fun K0 hK0 => ?_
 refine QW F_mixed [some 3, some 4, some 5, some 6, some 7, some 8, some 9, some 10, some 11, some 12, some 13, some 14, some 15, some 16, some 17, some 18, some 2] rfl ?_
 simp only [zzK, Nat.reduceLT, Nat.reduceLeDiff, Nat.reduceBEq, Nat.reduceSub, Qi, zz5, and_imp, imp_and, imp_self, zz19, zz23, F_off45_0, zzH, QH, Nat.reduceAdd, F_ok41, F_ag41, F_sz41, zz8, zzD, zzC, QA, yyE, reduceCtorEq, Qb, zz12, F_sl41, Option.isSome_some, zz21, gr_v, zz25, QZ, F_off45_1, F_ok42, F_ag42, F_sz42, F_sl42, zz13, pickK_l, pickK_r, F_off45_2, F_ok43, F_ag43, F_sz43, F_sl43, QY, memsD, instsD, assetsD, len_map, zz6, Nat.reduceEqDiff, ↓reduceIte]
 refine hK0 _ ?_; try clear hK0 K0
 refine kpA [2] ?_
 refine awp_ret ?_
 simp only [zz6, Nat.reduceEqDiff, ↓reduceIte]
 refine dnA ?_
 simp only [QD, QE, resA, Qi, Nat.reduceLT, Nat.reduceLeDiff, Qa, Nat.reduceBEq, cond_true, cond_false, resAll]
 rfl
theorem findM_ (l : List MemV) (n : Int) (hl : l.length ≤ 1000000) : ACalls Try.prog 75 [memsD l, fnD 53, iv n] [] (.tp [memA (findX MemV.no n zMem l), .d (iv (findI MemV.no n 0 l))]) := by
 refine acalls_S (rs := [.cell 6 51, .tmp 7]) Try.func75 rfl rfl 27 [(0, .d (memsD l)), (1, .d (fnD 53)), (2, .d (iv n))] rfl (by simp) rfl ?_
 refine QX fun K0 hK0 => ?_
 refine QW F_mixed [some 6, some 7] rfl ?_
 simp only [zzK, Nat.reduceLT, Nat.reduceLeDiff, Nat.reduceBEq, zz32, newRow1, F_zero51, zzC, QA, yyE, reduceCtorEq, zzD, Nat.reduceAdd, QH, zzH, zz10, QY, zz6, Nat.reduceEqDiff, ↓reduceIte]
 refine hK0 _ ?_; try clear hK0 K0
 refine kpA [0, 1, 2, 6] ?_
 refine QX fun K0 hK0 => ?_
 refine QX fun K1 hK1 => ?_
 refine QW F_mixed [some 11, some 12, some 13] rfl ?_
 simp only [zzK, Nat.reduceLT, Nat.reduceLeDiff, Nat.reduceBEq, QZ, Qb, zz12, F_sl41, Option.isSome_some, memsD, len_map, zz6, Nat.reduceEqDiff, ↓reduceIte]
 refine hK1 _ ?_; try clear hK1 K1
 refine kpA [1, 2, 6, 11, 12, 13] ?_
 refine Qe ?_
 refine awp_loop (fun m s => ∃ pre post : List MemV, l = pre ++ post ∧ findX MemV.no n zMem l = findX MemV.no n zMem post ∧ findI MemV.no n 0 l = findI MemV.no n pre.length post ∧ m = post.length ∧ s = S 27 [(1, .d (fnD 53)), (2, .d (iv n)), (6, .ptr 6 0 0), (11, .d (memsD l)), (12, .d (iv l.length)), (13, .d (iv pre.length))] [(6, (⟨True, 51, 3, true, false, 6, [[.d (.v (.int .i64 0)), .d (.v (.int .i64 0)), .d (.v (.int .i64 0))]]⟩ : ARow))]) l.length _ (le_SK id [] rfl (l' := [(1, .d (fnD 53)), (2, .d (iv n)), (6, .ptr 6 0 0), (11, .d (memsD l)), (12, .d (iv l.length)), (13, .d (iv ([] : List MemV).length))]) (m' := [(6, (⟨True, 51, 3, true, false, 6, [[.d (.v (.int .i64 0)), .d (.v (.int .i64 0)), .d (.v (.int .i64 0))]]⟩ : ARow))]) ?_ ?_ ?_ ?_) ⟨[], l, rfl, rfl, rfl, rfl, rfl⟩ ?_
 ·simp only [leV, Qa, Nat.reduceBEq, cond_true, cond_false, memsD, len_map]; exact ⟨QM _, QM _, QM _, QM _, QM _, QM _, trivial⟩
 ·exact ⟨fun _ => ⟨_, rfl, ⟨id, rfl, rfl, fun _ => rfl, id, .inl, VLess.refl _⟩⟩, fun h => by simp at h, trivial⟩
 ·simp [wfV, QL, lookR]
 ·simp [wfR, QK, QL]
 rintro m s ⟨pre, post, rfl, hfx, hfi, rfl, rfl⟩
 refine QX fun K2 hK2 => ?_
 refine QW F_mixed [some 14] rfl ?_
 simp only [zzK, Nat.reduceLT, Nat.reduceLeDiff, Nat.reduceBEq, zz21, gr_v, zz22, zz6, Nat.reduceEqDiff, ↓reduceIte]
 refine hK2 _ ?_; try clear hK2 K2
 refine kpA [1, 2, 6, 11, 12, 13, 14] ?_
 refine QX fun K2 hK2 => ?_
 refine cnA ?_ ?_
 ·intro hb
  obtain ⟨x, post, rfl⟩ := more_of hb; clear hb
  refine awp_skip ?_
  simp only [zz6, Nat.reduceEqDiff, ↓reduceIte]
  refine hK2 _ ?_; try clear hK2 K2
  refine kpA [1, 2, 6, 11, 12, 13] ?_
  refine QX fun K2 hK2 => ?_
  refine Qe ?_
  refine QX fun K3 hK3 => ?_
  refine QW F_mixed [some 15, some 16, some 17, some 9, some 8, none] rfl ?_
  simp only [zzK, Nat.reduceLT, Nat.reduceLeDiff, Nat.reduceBEq, QZ, Qf, zz23, zz24, F_sl41, F_sz51, QA, zzC, yyE, reduceCtorEq, F_ok51, F_ag51, zz8, zzD, Nat.reduceAdd, QH, zzH, zz32, newRow1, F_zero51, zz10, QY, zz18, splice, QG, zz1, zzG, memsD, memC, getD_mid, len_map, lt_mid, ge_mid, zz6, Nat.reduceEqDiff, ↓reduceIte]
  refine hK3 _ ?_; try clear hK3 K3
  refine kpA [1, 2, 6, 8, 9, 11, 12, 13] ?_
  refine QX fun K3 hK3 => ?_
  refine QW F_mixed [some 18, some 19, some 20, some 21, some 22] rfl ?_
  simp only [zzK, Nat.reduceLT, Nat.reduceLeDiff, Nat.reduceBEq, QZ, F_ok51, F_ag51, F_sz51, zz8, zz23, zzD, Nat.reduceAdd, QH, zzH, zzC, QA, yyE, reduceCtorEq, Qb, Qc, zz21, gr_v, zz34, fnD, memC, QJ, zz6, Nat.reduceEqDiff, ↓reduceIte]
  refine call_goT ?_ ?_ F_go53 (fun hG => noMem_ x) (by simp [QL, QK]) (by simp) ?_
  ·decide
  ·simp only [Qa, Nat.reduceBEq, cond_true, cond_false, bare_d, bare_wh, fnD]
  simp only [zzK, Nat.reduceLT, Nat.reduceLeDiff, Nat.reduceBEq, QZ, F_ok51, F_ag51, F_sz51, zz8, zz23, zzD, Nat.reduceAdd, QH, zzH, zzC, QA, yyE, reduceCtorEq, Qb, Qc, zz21, gr_v, zz34, fnD, memC, QJ, zz6, Nat.reduceEqDiff, ↓reduceIte, Nat.reduceSub, Qi, zz5, and_imp, imp_and, imp_self, atsL, oksG, freeN, AV.ren, AV.renL, addRows, ORow.row, Nat.reduceMul, Nat.reduceAdd, zz9, QB, QA, S_mem, yyF, QF, zz2]
  refine hK3 _ ?_; try clear hK3 K3
  refine kpA [1, 2, 6, 8, 9, 11, 12, 13, 22] ?_
  refine cnA ?_ ?_
  ·intro hb
   refine QX fun K4 hK4 => ?_
   refine QW F_mixed [some 23, some 24, none, some 7] rfl ?_
   simp only [zzK, Nat.reduceLT, Nat.reduceLeDiff, Nat.reduceBEq, F_ok51, F_ag51, F_sz51, zz8, zz23, zzD, Nat.reduceAdd, QH, zzH, zzC, QA, yyE, reduceCtorEq, QZ, zz18, splice, QG, zz1, zzG, QY, zz6, Nat.reduceEqDiff, ↓reduceIte]
   refine hK4 _ ?_; try clear hK4 K4
   refine kpA [6, 7] ?_
   refine awp_ret ?_
   simp only [zz6, Nat.reduceEqDiff, ↓reduceIte]
   refine done0 (by simp [resCs, resC, S, List.getD, Qa, lookR, F_ag51, F_sz51, F_ok51]) ?_ (by simp [flatA, Qk, Ql, memA, memC]) (by simp [QL, QK, memA, memC])
   simp only [QD, QE, resA, Qi, S_mem, lookR_cons, lookR_nil, Nat.reduceLT, Nat.reduceLeDiff, Qa, Nat.reduceBEq, cond_true, cond_false, resAll, List.getD_cons_zero, List.getD_cons_succ, List.drop_zero, List.drop_succ_cons, List.take_succ_cons, List.take_zero, F_ag51, F_sz51, F_ok51]
   rw [hfx, hfi, findX, findI, hb]; rfl
  ·intro hb
   refine awp_skip ?_
   simp only [zz6, Nat.reduceEqDiff, ↓reduceIte]
   refine hK2 _ ?_; try clear hK2 K2
   refine kpA [1, 2, 6, 11, 12, 13] ?_
   refine QW F_mixed [some 25, some 13] rfl ?_
   simp only [zzK, Nat.reduceLT, Nat.reduceLeDiff, Nat.reduceBEq, zz21, gr_v, zz26, QZ, zz6, Nat.reduceEqDiff, ↓reduceIte]
   refine ⟨post.length, _, by simp, le_SK id [] rfl (l' := [(1, .d (fnD 53)), (2, .d (iv n)), (6, .ptr 6 0 0), (11, .d (memsD (pre ++ x :: post))), (12, .d (iv (pre ++ x :: post).length)), (13, .d (iv (pre ++ [x]).length))]) (m' := [(6, (⟨True, 51, 3, true, false, 6, [[.d (.v (.int .i64 0)), .d (.v (.int .i64 0)), .d (.v (.int .i64 0))]]⟩ : ARow))]) ?_ ?_ ?_ ?_, pre ++ [x], post, by simp, by rw [hfx, findX, hb]; rfl, by rw [hfi, findI, hb]; simp, rfl, rfl⟩
   ·simp only [leV, Qa, Nat.reduceBEq, cond_true, cond_false, memsD, fnD, len_map, wrap_len pre x (by simp at hl; omega)]; exact ⟨QM _, QM _, QM _, QM _, QM _, QM _, trivial⟩
   ·exact ⟨fun _ => ⟨_, rfl, ⟨id, rfl, rfl, fun _ => rfl, id, .inl, VLess.refl _⟩⟩, fun h => by simp at h, trivial⟩
   ·simp [wfV, QL, lookR]
   ·simp [wfR, QK, QL]
 ·intro hb
  obtain rfl := none_of hb; clear hb
  refine awp_exit ?_
  simp only [zz6, Nat.reduceEqDiff, ↓reduceIte]
  refine hK0 _ ?_; try clear hK0 K0
  refine kpA [6] ?_
  refine QX fun K0 hK0 => ?_
  refine QW F_mixed [some 10] rfl ?_
  simp only [zzK, Nat.reduceLT, Nat.reduceLeDiff, Nat.reduceBEq, zz32, newRow1, F_zero51, zzC, QA, yyE, reduceCtorEq, zzD, Nat.reduceAdd, QH, zzH, zz10, zz6, Nat.reduceEqDiff, ↓reduceIte]
  refine hK0 _ ?_; try clear hK0 K0
  refine kpA [6, 10] ?_
  refine QX fun K0 hK0 => ?_
  refine QW F_mixed [some 26, none, some 7] rfl ?_
  simp only [zzK, Nat.reduceLT, Nat.reduceLeDiff, Nat.reduceBEq, F_ok51, F_ag51, F_sz51, zz8, zz23, zzD, Nat.reduceAdd, QH, zzH, zzC, QA, yyE, reduceCtorEq, zz18, splice, QG, zz1, zzG, QY, zz6, Nat.reduceEqDiff, ↓reduceIte]
  refine hK0 _ ?_; try clear hK0 K0
  refine kpA [6, 7] ?_
  refine awp_ret ?_
  simp only [zz6, Nat.reduceEqDiff, ↓reduceIte]
  refine done0 (by simp [resCs, resC, S, List.getD, Qa, lookR, F_ag51, F_sz51, F_ok51]) ?_ (by simp [flatA, Qk, Ql, memA, memC]) (by simp [QL, QK, memA, memC])
  simp only [QD, QE, resA, Qi, S_mem, lookR_cons, lookR_nil, Nat.reduceLT, Nat.reduceLeDiff, Qa, Nat.reduceBEq, cond_true, cond_false, resAll, List.getD_cons_zero, List.getD_cons_succ, List.drop_zero, List.drop_succ_cons, List.take_succ_cons, List.take_zero, F_ag51, F_sz51, F_ok51]
  rw [hfx, hfi]; rfl
theorem tMember_ (r : RollV) (n : Int) (h : r.Small) : ACalls Try.prog 64 [.agg (rollC r), iv n] [] (.tp [memA (findX MemV.no n zMem r.mems), bv (hasX MemV.no n r.mems)]) := by
 refine acalls_S (rs := [.cell 4 51, .tmp 5]) Try.func64 rfl rfl 18 [(0, .d (.agg (rollC r))), (1, .d (iv n))] rfl (by simp) rfl ?_
 refine QX fun K0 hK0 => ?_
 refine QW F_mixed [some 2, some 4, some 5] rfl ?_
 simp only [zzK, Nat.reduceLT, Nat.reduceLeDiff, Nat.reduceBEq, zz35, newRow1, zz1, zzG, zzD, zzC, QA, yyE, reduceCtorEq, Nat.reduceAdd, QH, zzH, zz32, F_zero51, zz10, QY, rollC, memsD, instsD, assetsD, zz6, Nat.reduceEqDiff, ↓reduceIte]
 refine hK0 _ ?_; try clear hK0 K0
 refine kpA [1, 2, 4] ?_
 refine QX fun K0 hK0 => ?_
 refine QW F_mixed [some 9, some 10, some 11, some 12, some 8, some 13, some 14, some 6, none, some 7] rfl ?_
 simp only [zzK, Nat.reduceLT, Nat.reduceLeDiff, Nat.reduceBEq, zz19, zz23, F_off45_0, zzH, QH, Nat.reduceAdd, F_ok41, F_ag41, F_sz41, zz8, zzD, zzC, QA, yyE, reduceCtorEq, QZ, Qb, Qc, zz14, zz32, newRow1, F_zero51, zz10, zz18, F_ok51, F_sz51, splice, QG, zz1, zzG, QY, memsD, instsD, assetsD, fnD, memA, memC, QD, zz6, Nat.reduceEqDiff, ↓reduceIte]
 refine call_go F_go75 (fun hG => findM_ r.mems n h.mems) (by simp [QL, QK, memA, memC]) (by simp) ?_
 simp only [zzK, Nat.reduceLT, Nat.reduceLeDiff, Nat.reduceBEq, zz19, zz23, F_off45_0, zzH, QH, Nat.reduceAdd, F_ok41, F_ag41, F_sz41, zz8, zzD, zzC, QA, yyE, reduceCtorEq, QZ, Qb, Qc, zz14, zz32, newRow1, F_zero51, zz10, zz18, F_ok51, F_sz51, splice, QG, zz1, zzG, QY, memsD, instsD, assetsD, fnD, memA, memC, QD, zz6, Nat.reduceEqDiff, ↓reduceIte, atsL, oksG, freeN, AV.ren, AV.renL, addRows, ORow.row, Nat.reduceMul, Nat.reduceAdd, zz9, QB, QA, S_mem, yyF, QF, zz2]
 refine hK0 _ ?_; try clear hK0 K0
 refine kpA [4, 6, 7] ?_
 refine QX fun K0 hK0 => ?_
 refine QW F_mixed [some 15, some 16, some 17, none, some 5] rfl ?_
 simp only [zzK, Nat.reduceLT, Nat.reduceLeDiff, Nat.reduceBEq, F_ok51, F_ag51, F_sz51, zz8, zz23, zzD, Nat.reduceAdd, QH, zzH, zzC, QA, yyE, reduceCtorEq, QZ, zz21, gr_v, zz31, zz18, splice, QG, zz1, zzG, QY, zz6, Nat.reduceEqDiff, ↓reduceIte]
 refine hK0 _ ?_; try clear hK0 K0
 refine kpA [4, 5] ?_
 refine awp_ret ?_
 simp only [zz6, Nat.reduceEqDiff, ↓reduceIte]
 refine done0 (by simp [resCs, resC, S, List.getD, Qa, lookR, F_ag51, F_sz51, F_ok51]) ?_ (by simp [flatA, Qk, Ql, memA, memC]) (by simp [QL, QK, memA, memC])
 simp only [QD, QE, resA, Qi, S_mem, lookR_cons, lookR_nil, Nat.reduceLT, Nat.reduceLeDiff, Qa, Nat.reduceBEq, cond_true, cond_false, resAll, List.getD_cons_zero, List.getD_cons_succ, List.drop_zero, List.drop_succ_cons, List.take_succ_cons, List.take_zero, F_ag51, F_sz51, F_ok51]
 rw [findI_has]; rfl
theorem rMember_ (ms : List MemV) (is : List InstV) (zs : List AssetV) (n : Int) (hl : ms.length ≤ 1000000) : ACalls Try.prog 16 [.agg (rollC ⟨ms, is, zs⟩), iv n] [] (.tp [memA (findX MemV.no n zMem ms), bv (hasX MemV.no n ms)]) := by
 refine acalls_S (rs := [.cell 4 51, .tmp 5]) Try.func16 rfl rfl 28 [(0, .d (.agg (rollC ⟨ms, is, zs⟩))), (1, .d (iv n))] rfl (by simp) rfl ?_
 refine QX fun K0 hK0 => ?_
 refine QW F_mixed [some 2, some 4, some 5] rfl ?_
 simp only [zzK, Nat.reduceLT, Nat.reduceLeDiff, Nat.reduceBEq, zz35, newRow1, zz1, zzG, zzD, zzC, QA, yyE, reduceCtorEq, Nat.reduceAdd, QH, zzH, zz32, F_zero51, zz10, QY, rollC, memsD, instsD, assetsD, zz6, Nat.reduceEqDiff, ↓reduceIte]
 refine hK0 _ ?_; try clear hK0 K0
 refine kpA [1, 2, 4] ?_
 refine QX fun K0 hK0 => ?_
 refine QX fun K1 hK1 => ?_
 refine QW F_mixed [some 6] rfl ?_
 simp only [zzK, Nat.reduceLT, Nat.reduceLeDiff, Nat.reduceBEq, QY, zz6, Nat.reduceEqDiff, ↓reduceIte]
 refine hK1 _ ?_; try clear hK1 K1
 refine kpA [1, 2, 4, 6] ?_
 refine Qe ?_
 refine awp_loop (fun m s => ∃ pre post : List MemV, ms = pre ++ post ∧ findX MemV.no n zMem ms = findX MemV.no n zMem post ∧ hasX MemV.no n ms = hasX MemV.no n post ∧ m = post.length ∧ s = S 28 [(1, .d (iv n)), (2, .ptr 2 0 0), (4, .ptr 4 0 0), (6, .d (iv pre.length))] [(2, (⟨True, 45, 3, true, false, 2, [[.d (.sl 3 (ms.map memC)), .d (.sl 12 (is.map instC)), .d (.sl 4 (zs.map assetC))]]⟩ : ARow)), (4, (⟨True, 51, 3, true, false, 4, [[.d (.v (.int .i64 0)), .d (.v (.int .i64 0)), .d (.v (.int .i64 0))]]⟩ : ARow))]) ms.length _ (le_SK id [] rfl (l' := [(1, .d (iv n)), (2, .ptr 2 0 0), (4, .ptr 4 0 0), (6, .d (iv ([] : List MemV).length))]) (m' := [(2, (⟨True, 45, 3, true, false, 2, [[.d (.sl 3 (ms.map memC)), .d (.sl 12 (is.map instC)), .d (.sl 4 (zs.map assetC))]]⟩ : ARow)), (4, (⟨True, 51, 3, true, false, 4, [[.d (.v (.int .i64 0)), .d (.v (.int .i64 0)), .d (.v (.int .i64 0))]]⟩ : ARow))]) ?_ ?_ ?_ ?_) ⟨[], ms, rfl, rfl, rfl, rfl, rfl⟩ ?_
 ·simp only [leV, Qa, Nat.reduceBEq, cond_true, cond_false]; exact ⟨QM _, QM _, QM _, QM _, trivial⟩
 ·exact ⟨fun _ => ⟨_, rfl, ⟨id, rfl, rfl, fun _ => rfl, id, .inl, VLess.refl _⟩⟩, fun h => by simp at h, fun _ => ⟨_, rfl, ⟨id, rfl, rfl, fun _ => rfl, id, .inl, VLess.refl _⟩⟩, fun h => by simp at h, trivial⟩
 ·simp [wfV, QL, lookR]
 ·simp [wfR, QK, QL]
 rintro m s ⟨pre, post, rfl, hfx, hfi, rfl, rfl⟩
 refine QX fun K2 hK2 => ?_
 refine QX fun K3 hK3 => ?_
 refine QW F_mixed [some 7, some 8, some 9, some 10, some 11] rfl ?_
 simp only [zzK, Nat.reduceLT, Nat.reduceLeDiff, Nat.reduceBEq, QZ, zz19, zz23, F_off45_0, zzH, QH, Nat.reduceAdd, F_ok41, F_ag41, F_sz41, zz8, zzD, zzC, QA, yyE, reduceCtorEq, Qb, zz12, F_sl41, Option.isSome_some, zz21, gr_v, zz22, len_map, zz6, Nat.reduceEqDiff, ↓reduceIte]
 refine hK3 _ ?_; try clear hK3 K3
 refine kpA [1, 2, 4, 6, 11] ?_
 refine cnA ?_ ?_
 ·intro hb
  obtain ⟨x, post, rfl⟩ := more_of hb; clear hb
  refine awp_skip ?_
  simp only [zz6, Nat.reduceEqDiff, ↓reduceIte]
  refine hK2 _ ?_; try clear hK2 K2
  refine kpA [1, 2, 4, 6] ?_
  refine QX fun K2 hK2 => ?_
  refine Qe ?_
  refine QX fun K3 hK3 => ?_
  refine QW F_mixed [some 14, some 15, some 16, some 17, some 18, some 19, some 20, some 21] rfl ?_
  simp only [zzK, Nat.reduceLT, Nat.reduceLeDiff, Nat.reduceBEq, zz19, zz23, F_off45_0, zzH, QH, Nat.reduceAdd, F_ok41, F_ag41, F_sz41, zz8, zzD, zzC, QA, yyE, reduceCtorEq, QZ, Qf, zz24, F_sl41, F_sz51, F_off51_0, F_ok3, F_ag3, F_sz3, zz21, gr_v, zz34, memC, getD_mid, len_map, lt_mid, ge_mid, zz6, Nat.reduceEqDiff, ↓reduceIte]
  refine hK3 _ ?_; try clear hK3 K3
  refine kpA [1, 2, 4, 6, 21] ?_
  refine cnA ?_ ?_
  ·intro hb
   refine QX fun K4 hK4 => ?_
   refine QW F_mixed [some 22, some 23, some 24, some 25, some 26, none, some 5] rfl ?_
   simp only [zzK, Nat.reduceLT, Nat.reduceLeDiff, Nat.reduceBEq, zz19, zz23, F_off45_0, zzH, QH, Nat.reduceAdd, F_ok41, F_ag41, F_sz41, zz8, zzD, zzC, QA, yyE, reduceCtorEq, QZ, Qf, zz24, F_sl41, F_sz51, F_ok51, F_ag51, zz18, splice, QG, zz1, zzG, QY, memC, getD_mid, len_map, lt_mid, ge_mid, zz6, Nat.reduceEqDiff, ↓reduceIte]
   refine hK4 _ ?_; try clear hK4 K4
   refine kpA [4, 5] ?_
   refine awp_ret ?_
   simp only [zz6, Nat.reduceEqDiff, ↓reduceIte]
   refine done0 (by simp [resCs, resC, S, List.getD, Qa, lookR, F_ag51, F_sz51, F_ok51]) ?_ (by simp [flatA, Qk, Ql, memA, memC]) (by simp [QL, QK, memA, memC])
   simp only [QD, QE, resA, Qi, S_mem, lookR_cons, lookR_nil, Nat.reduceLT, Nat.reduceLeDiff, Qa, Nat.reduceBEq, cond_true, cond_false, resAll, List.getD_cons_zero, List.getD_cons_succ, List.drop_zero, List.drop_succ_cons, List.take_succ_cons, List.take_zero, F_ag51, F_sz51, F_ok51]
   rw [hfx, hfi, findX, hasX, hb]; rfl
  ·intro hb
   refine awp_skip ?_
   simp only [zz6, Nat.reduceEqDiff, ↓reduceIte]
   refine hK2 _ ?_; try clear hK2 K2
   refine kpA [1, 2, 4, 6] ?_
   refine QW F_mixed [some 12, some 13, some 6] rfl ?_
   simp only [zzK, Nat.reduceLT, Nat.reduceLeDiff, Nat.reduceBEq, QZ, zz21, gr_v, zz26, QY, zz6, Nat.reduceEqDiff, ↓reduceIte]
   refine ⟨post.length, _, by simp, le_SK id [] rfl (l' := [(1, .d (iv n)), (2, .ptr 2 0 0), (4, .ptr 4 0 0), (6, .d (iv (pre ++ [x]).length))]) (m' := [(2, (⟨True, 45, 3, true, false, 2, [[.d (.sl 3 ((pre ++ x :: post).map memC)), .d (.sl 12 (is.map instC)), .d (.sl 4 (zs.map assetC))]]⟩ : ARow)), (4, (⟨True, 51, 3, true, false, 4, [[.d (.v (.int .i64 0)), .d (.v (.int .i64 0)), .d (.v (.int .i64 0))]]⟩ : ARow))]) ?_ ?_ ?_ ?_, pre ++ [x], post, by simp, by rw [hfx, findX, hb]; rfl, by rw [hfi, hasX, hb]; rfl, rfl, rfl⟩
   ·simp only [leV, Qa, Nat.reduceBEq, cond_true, cond_false, wrap_len pre x (by simp at hl; omega)]; exact ⟨QM _, QM _, QM _, QM _, trivial⟩
   ·exact ⟨fun _ => ⟨_, rfl, ⟨id, rfl, rfl, fun _ => rfl, id, .inl, VLess.refl _⟩⟩, fun h => by simp at h, fun _ => ⟨_, rfl, ⟨id, rfl, rfl, fun _ => rfl, id, .inl, VLess.refl _⟩⟩, fun h => by simp at h, trivial⟩
   ·simp [wfV, QL, lookR]
   ·simp [wfR, QK, QL]
 ·intro hb
  obtain rfl := none_of hb; clear hb
  refine awp_exit ?_
  simp only [zz6, Nat.reduceEqDiff, ↓reduceIte]
  refine hK0 _ ?_; try clear hK0 K0
  refine kpA [4] ?_
  refine QX fun K0 hK0 => ?_
  refine QW F_mixed [some 27, none, some 5] rfl ?_
  simp only [zzK, Nat.reduceLT, Nat.reduceLeDiff, Nat.reduceBEq, F_zero51, F_bld51, zz7, splice, Option.getD_some, QG, zz1, zzG, zzD, zzC, QA, yyE, reduceCtorEq, Nat.reduceAdd, QH, zzH, zz10, zz18, F_ok51, F_sz51, QY, zz6, Nat.reduceEqDiff, ↓reduceIte]
  refine hK0 _ ?_; try clear hK0 K0
  refine kpA [4, 5] ?_
  refine awp_ret ?_
  simp only [zz6, Nat.reduceEqDiff, ↓reduceIte]
  refine done0 (by simp [resCs, resC, S, List.getD, Qa, lookR, F_ag51, F_sz51, F_ok51]) ?_ (by simp [flatA, Qk, Ql, memA, memC]) (by simp [QL, QK, memA, memC])
  simp only [QD, QE, resA, Qi, S_mem, lookR_cons, lookR_nil, Nat.reduceLT, Nat.reduceLeDiff, Qa, Nat.reduceBEq, cond_true, cond_false, resAll, List.getD_cons_zero, List.getD_cons_succ, List.drop_zero, List.drop_succ_cons, List.take_succ_cons, List.take_zero, F_ag51, F_sz51, F_ok51]
  rw [hfx, hfi]; rfl
theorem needs_ (r : RollV) (ws : List Int) (h : r.Small) (hw : ws.length ≤ 400000) : ACalls Try.prog 34 [.agg (rollC r), ints ws] [⟨3, 1, (ndV r ws).map fun n => [iv n]⟩] (.ref 0 (ndV r ws).length) := by
 refine acalls_S (rs := [.tmp 4]) Try.func34 rfl rfl 29 [(0, .d (.agg (rollC r))), (1, .d (ints ws))] rfl (by simp) rfl ?_
 refine QX fun K0 hK0 => ?_
 refine QW F_mixed [some 2, some 4] rfl ?_
 simp only [zzK, Nat.reduceLT, Nat.reduceLeDiff, Nat.reduceBEq, zz35, newRow1, zz1, zzG, zzD, zzC, QA, yyE, reduceCtorEq, Nat.reduceAdd, QH, zzH, QY, rollC, memsD, instsD, assetsD, zz6, Nat.reduceEqDiff, ↓reduceIte]
 refine hK0 _ ?_; try clear hK0 K0
 refine kpA [1, 2] ?_
 refine QX fun K0 hK0 => ?_
 refine QW F_mixed [some 5] rfl ?_
 simp only [zzK, Nat.reduceLT, Nat.reduceLeDiff, Nat.reduceBEq, QY, zz6, Nat.reduceEqDiff, ↓reduceIte]
 refine hK0 _ ?_; try clear hK0 K0
 refine kpA [1, 2, 5] ?_
 refine QX fun K0 hK0 => ?_
 refine QX fun K1 hK1 => ?_
 refine QW F_mixed [some 10, some 11, some 12] rfl ?_
 simp only [zzK, Nat.reduceLT, Nat.reduceLeDiff, Nat.reduceBEq, QZ, Qb, zz12, F_sl25, Option.isSome_some, ints, len_map, zz6, Nat.reduceEqDiff, ↓reduceIte]
 refine hK1 _ ?_; try clear hK1 K1
 refine kpA [2, 5, 10, 11, 12] ?_
 refine Qe ?_
 refine awp_loop (fun m s => ∃ (pre : List Int) (post : List Int), (ws = pre ++ post) ∧ m = post.length ∧ s = S 29 [(2, .ptr 2 0 0), (5, .ref 5 (ndV r pre).length), (10, .d (ints ws)), (11, .d (iv ws.length)), (12, .d (iv pre.length))] [(2, (⟨True, 45, 3, true, false, 2, [[.d (.sl 3 (r.mems.map memC)), .d (.sl 12 (r.insts.map instC)), .d (.sl 4 (r.assets.map assetC))]]⟩ : ARow)), (5, grow 3 1 5 ((ndV r pre).map fun n => [iv n]))]) (ws.length) _ (le_SK id [5] rfl (l' := [(2, .ptr 2 0 0), (5, .ref 5 (ndV r []).length), (10, .d (ints ws)), (11, .d (iv ws.length)), (12, .d (iv [].length))]) (m' := [(2, (⟨True, 45, 3, true, false, 2, [[.d (.sl 3 (r.mems.map memC)), .d (.sl 12 (r.insts.map instC)), .d (.sl 4 (r.assets.map assetC))]]⟩ : ARow)), (5, grow 3 1 5 ((ndV r []).map fun n => [iv n]))]) ?_ ?_ ?_ ?_) ⟨[], ws, rfl, rfl, rfl⟩ ?_
 ·simp only [leV, Qa, Nat.reduceBEq, cond_true, cond_false]; exact ⟨(by first | exact QN rfl | exact QP (by decide) | exact QO | exact QM _ | exact QR (by simp) (by rfl) | exact QQ (by simp) (by rfl) (by first | rfl | (simp; done) | (simp; omega)) | exact QS (by first | rfl | simp)), (by first | exact QN rfl | exact QP (by decide) | exact QO | exact QM _ | exact QR (by simp) (by rfl) | exact QQ (by simp) (by rfl) (by first | rfl | (simp; done) | (simp; omega)) | exact QS (by first | rfl | simp)), (by first | exact QN rfl | exact QP (by decide) | exact QO | exact QM _ | exact QR (by simp) (by rfl) | exact QQ (by simp) (by rfl) (by first | rfl | (simp; done) | (simp; omega)) | exact QS (by first | rfl | simp)), (by first | exact QN rfl | exact QP (by decide) | exact QO | exact QM _ | exact QR (by simp) (by rfl) | exact QQ (by simp) (by rfl) (by first | rfl | (simp; done) | (simp; omega)) | exact QS (by first | rfl | simp)), (by first | exact QN rfl | exact QP (by decide) | exact QO | exact QM _ | exact QR (by simp) (by rfl) | exact QQ (by simp) (by rfl) (by first | rfl | (simp; done) | (simp; omega)) | exact QS (by first | rfl | simp)), trivial⟩
 ·exact ⟨fun _ => ⟨_, rfl, (by first | exact RowLe.data_ (by first | rfl | simp) | exact RowLe.uq2 (by first | rfl | simp) (by simp) ids_data | exact QU (by simp [QK, QL]) | exact RowLe.same (by simp) (by simp [QK, QL]))⟩, fun h => by simp at h, fun h => by simp at h, fun _ => rfl, trivial⟩
 ·simp [wfV, QL, QK, lookR, grow]
 ·exact ⟨by simp [QK, QL, lookR], wf_data _ _, trivial⟩
 rintro m s ⟨pre, post, hsp, rfl, rfl⟩
 have hspl := congrArg List.length hsp
 simp only [QC] at hspl
 have hvl := ndV_len r pre
 refine QX fun K2 hK2 => ?_
 refine QW F_mixed [some 13] rfl ?_
 simp only [zzK, Nat.reduceLT, Nat.reduceLeDiff, Nat.reduceBEq, zz21, gr_v, zz22, zz6, Nat.reduceEqDiff, ↓reduceIte]
 refine hK2 _ ?_; try clear hK2 K2
 refine kpA [2, 5, 10, 11, 12, 13] ?_
 refine QX fun K2 hK2 => ?_
 refine cnA ?_ ?_
 ·intro hb
  obtain ⟨x, post2, rfl⟩ : ∃ x t, post = x :: t := by
   cases post with
   | nil => have := of_decide_eq_true hb; simp at hspl; omega
   | cons x t => exact ⟨x, t, rfl⟩
  clear hb
  simp only [QF] at hspl
  have gx : (ws.map (fun n => [iv n])).getD pre.length [] = [iv x] := by
   rw [hsp, List.map_append]; exact gd_mid' (A := pre.map (fun n => [iv n])) _ _ (by simp)
  have bx := ltI (show pre.length < ws.length by omega)
  have hwx : IntKind.wrap .i64 ((pre.length : Int) + 1) = ((pre ++ [x]).length : Int) := by rw [wrapI (by omega) (by omega)]; simp
  refine awp_skip ?_
  simp only [zz6, Nat.reduceEqDiff, ↓reduceIte]
  refine hK2 _ ?_; try clear hK2 K2
  refine kpA [2, 5, 10, 11, 12] ?_
  refine QX fun K2 hK2 => ?_
  refine Qe ?_
  refine QX fun K3 hK3 => ?_
  refine QW F_mixed [some 14, some 15, some 7] rfl ?_
  simp only [zzK, Nat.reduceLT, Nat.reduceLeDiff, Nat.reduceBEq, Qf, zz23, zz24, F_sl25, F_sz3, QA, zzC, yyE, reduceCtorEq, F_ok3, F_ag3, zz8, zzD, Nat.reduceAdd, QH, zzH, QY, ints, gx, bx, hwx, len_map, ge0, QI, QJ, zz6, Nat.reduceEqDiff, ↓reduceIte]
  refine hK3 _ ?_; try clear hK3 K3
  refine kpA [2, 5, 7, 10, 11, 12] ?_
  refine QX fun K3 hK3 => ?_
  refine QW F_mixed [some 17, some 18, some 19, some 16, some 20, some 21, some 8, none, some 9] rfl ?_
  simp only [zzK, Nat.reduceLT, Nat.reduceLeDiff, Nat.reduceBEq, F_ok45, F_ag45, F_sz45, zz8, zz23, zzD, Nat.reduceAdd, QH, zzH, zzC, QA, yyE, reduceCtorEq, QZ, Qb, Qc, zz14, zz32, newRow1, F_zero51, zz10, zz18, F_ok51, F_sz51, splice, QG, zz1, zzG, QY, memsD, instsD, assetsD, rollC, QJ, memA, memC, instA, instC, QD, zz6, Nat.reduceEqDiff, ↓reduceIte]
  refine call_go F_go64 (fun hG => tMember_ r x h) (by simp [QL, QK, memA, memC, instA, instC]) (by simp) ?_
  simp only [zzK, Nat.reduceLT, Nat.reduceLeDiff, Nat.reduceBEq, F_ok45, F_ag45, F_sz45, zz8, zz23, zzD, Nat.reduceAdd, QH, zzH, zzC, QA, yyE, reduceCtorEq, QZ, Qb, Qc, zz14, zz32, newRow1, F_zero51, zz10, zz18, F_ok51, F_sz51, splice, QG, zz1, zzG, QY, memsD, instsD, assetsD, rollC, QJ, memA, memC, instA, instC, QD, zz6, Nat.reduceEqDiff, ↓reduceIte, atsL, oksG, freeN, AV.ren, AV.renL, addRows, ORow.row, Nat.reduceMul, Nat.reduceAdd, zz9, QB, QA, S_mem, yyF, QF, zz2]
  refine hK3 _ ?_; try clear hK3 K3
  refine kpA [2, 5, 8, 10, 11, 12] ?_
  refine QW F_mixed [some 22, some 23, some 24, some 25, some 26, some 5] rfl ?_
  simp only [zzK, Nat.reduceLT, Nat.reduceLeDiff, Nat.reduceBEq, QZ, zz19, zz23, F_off51_2, zzH, QH, Nat.reduceAdd, F_ok3, F_ag3, F_sz3, zz8, zzD, zzC, QA, yyE, reduceCtorEq, F_sl25, F_zero3, zz3, newRow1, zz1, zzG, maxLen_le, Nat.reduceMul, Qb, F_by3, zz4, zz9, QB, QY, memsD, instsD, assetsD, rollC, QJ, memA, memC, instA, instC, QD, grow, unDs_map, zz6, Nat.reduceEqDiff, ↓reduceIte]
  have hm : (ndV r pre).length + 1 ≤ 1000000 := by first | omega | (simp; omega)
  first | refine ⟨le_maxLen hm, by omega, ?_⟩ | refine ⟨by simp, le_maxLen hm, by omega, ?_⟩
  clear hm
  refine hK2 _ ?_; try clear hK2 K2
  refine kpA [2, 5, 10, 11, 12] ?_
  refine QW F_mixed [some 27, some 12] rfl ?_
  simp only [zzK, Nat.reduceLT, Nat.reduceLeDiff, Nat.reduceBEq, zz21, gr_v, zz26, QZ, hwx, zz6, Nat.reduceEqDiff, ↓reduceIte]
  refine ⟨post2.length, _, by simp, le_SK (fun r => bif r == 5 then 26 else r) [] rfl (l' := [(2, .ptr 2 0 0), (5, .ref 5 (ndV r (pre ++ [x])).length), (10, .d (ints ws)), (11, .d (iv ws.length)), (12, .d (iv (pre ++ [x]).length))]) (m' := [(2, (⟨True, 45, 3, true, false, 2, [[.d (.sl 3 (r.mems.map memC)), .d (.sl 12 (r.insts.map instC)), .d (.sl 4 (r.assets.map assetC))]]⟩ : ARow)), (5, grow 3 1 5 ((ndV r (pre ++ [x])).map fun n => [iv n]))]) ?_ ?_ ?_ ?_, (pre ++ [x]), post2, by simp [hsp], rfl, rfl⟩
  ·simp only [leV, Qa, Nat.reduceBEq, cond_true, cond_false, hwx]; exact ⟨(by first | exact QN rfl | exact QP (by decide) | exact QO | exact QM _ | exact QR (by simp) (by rfl) | exact QQ (by simp) (by rfl) (by first | rfl | (simp; done) | (simp; omega)) | exact QS (by first | rfl | simp)), (QQ (by simp) (by rfl) (by rw [ndV_snoc]; simp)), (by first | exact QN rfl | exact QP (by decide) | exact QO | exact QM _ | exact QR (by simp) (by rfl) | exact QQ (by simp) (by rfl) (by first | rfl | (simp; done) | (simp; omega)) | exact QS (by first | rfl | simp)), (by first | exact QN rfl | exact QP (by decide) | exact QO | exact QM _ | exact QR (by simp) (by rfl) | exact QQ (by simp) (by rfl) (by first | rfl | (simp; done) | (simp; omega)) | exact QS (by first | rfl | simp)), (by first | exact QN rfl | exact QP (by decide) | exact QO | exact QM _ | exact QR (by simp) (by rfl) | exact QQ (by simp) (by rfl) (by first | rfl | (simp; done) | (simp; omega)) | exact QS (by first | rfl | simp)), trivial⟩
  ·exact ⟨fun _ => ⟨_, rfl, (by first | exact RowLe.data_ (by first | rfl | simp) | exact RowLe.uq2 (by first | rfl | simp) (by simp) ids_data | exact QU (by simp [QK, QL]) | exact RowLe.same (by simp) (by simp [QK, QL]))⟩, fun h => by simp at h, fun _ => ⟨_, rfl, RowLe.data_ (by rw [ndV_snoc]; simp)⟩, fun h => by simp at h, trivial⟩
  ·simp [wfV, QL, QK, lookR, grow]
  ·exact ⟨by simp [QK, QL, lookR], wf_data _ _, trivial⟩
 ·intro hb
  obtain rfl : post = [] := by
   cases post with
   | nil => rfl
   | cons x t => have := of_decide_eq_false hb; simp at hspl; omega
  clear hb
  simp only [QG] at hsp
  subst hsp
  refine awp_exit ?_
  simp only [zz6, Nat.reduceEqDiff, ↓reduceIte]
  refine hK0 _ ?_; try clear hK0 K0
  refine kpA [5] ?_
  refine QX fun K0 hK0 => ?_
  refine QW F_mixed [some 28, some 4] rfl ?_
  simp only [zzK, Nat.reduceLT, Nat.reduceLeDiff, Nat.reduceBEq, QZ, QY, grow, zz6, Nat.reduceEqDiff, ↓reduceIte]
  refine hK0 _ ?_; try clear hK0 K0
  refine kpA [4] ?_
  refine awp_ret ?_
  simp only [zz6, Nat.reduceEqDiff, ↓reduceIte]
  refine done1 5 (by simp only [resCs, resC]; trivial) ?_ (by simp [flatA, Qk, Ql]) (by simp [QL, QK]) (by rfl) trivial rfl rfl ?_ (by simp [flatDs, Ql])
  ·simp only [QD, QE, resA, Qi, Nat.reduceLT, Nat.reduceLeDiff, Qa, Nat.reduceBEq, cond_true, cond_false, resAll]; rfl
  ·rfl
theorem needsF (r : RollV) (ws : List Int) (h : r.Small) (hw : ws.length ≤ 400000) : ACalls Try.prog 34 [.agg (rollC r), ints ws] [] (.d (ints (ndV r ws))) := (needs_ r ws h hw).freeze (by simp [frzOk])
theorem Needs_ (r : RollV) (ws : List Int) (h : r.Small) (hw : ws.length ≤ 400000) : ACalls Try.prog 33 [.agg (rollC r), ints ws] [] (.tp [.d (iv (nsN r ws)), .d (iv (nsE r ws))]) := by
 refine acalls_S (rs := [.tmp 4, .tmp 5]) Try.func33 rfl rfl 23 [(0, .d (.agg (rollC r))), (1, .d (ints ws))] rfl (by simp) rfl ?_
 refine QX fun K0 hK0 => ?_
 refine QW F_mixed [some 2, some 4, some 5] rfl ?_
 simp only [zzK, Nat.reduceLT, Nat.reduceLeDiff, Nat.reduceBEq, zz35, newRow1, zz1, zzG, zzD, zzC, QA, yyE, reduceCtorEq, Nat.reduceAdd, QH, zzH, QY, rollC, memsD, instsD, assetsD, zz6, Nat.reduceEqDiff, ↓reduceIte]
 refine hK0 _ ?_; try clear hK0 K0
 refine kpA [1, 2] ?_
 refine QX fun K0 hK0 => ?_
 refine QW F_mixed [some 7, some 8, some 6] rfl ?_
 simp only [zzK, Nat.reduceLT, Nat.reduceLeDiff, Nat.reduceBEq, F_ok45, F_ag45, F_sz45, zz8, zz23, zzD, Nat.reduceAdd, QH, zzH, zzC, QA, yyE, reduceCtorEq, Qb, Qc, QY, memsD, instsD, assetsD, rollC, QJ, memA, memC, instA, instC, zzG, zz6, Nat.reduceEqDiff, ↓reduceIte]
 refine call_go F_go29 (fun hG => check_ r h) (by simp [QL, QK]) (by simp) ?_
 simp only [zzK, Nat.reduceLT, Nat.reduceLeDiff, Nat.reduceBEq, F_ok45, F_ag45, F_sz45, zz8, zz23, zzD, Nat.reduceAdd, QH, zzH, zzC, QA, yyE, reduceCtorEq, Qb, Qc, QY, memsD, instsD, assetsD, rollC, QJ, memA, memC, instA, instC, zzG, zz6, Nat.reduceEqDiff, ↓reduceIte, atsL, oksG, freeN, AV.ren, AV.renL, addRows, ORow.row, Nat.reduceMul, Nat.reduceAdd, zz9, QB, QA, S_mem, yyF, QF, zz2]
 refine hK0 _ ?_; try clear hK0 K0
 refine kpA [1, 2, 6] ?_
 refine QX fun K0 hK0 => ?_
 refine Qe ?_
 refine QX fun K1 hK1 => ?_
 refine QW F_mixed [some 10, some 11, some 9] rfl ?_
 simp only [zzK, Nat.reduceLT, Nat.reduceLeDiff, Nat.reduceBEq, QZ, zz21, gr_v, zz28, QY, zz6, Nat.reduceEqDiff, ↓reduceIte]
 refine hK1 _ ?_; try clear hK1 K1
 refine kpA [1, 2, 6, 9] ?_
 refine cnA ?_ ?_
 ·intro hb
  have he : (rollE r != 0) = true := hb
  clear hb
  refine QX fun K2 hK2 => ?_
  refine QW F_mixed [some 12, some 4, some 5] rfl ?_
  simp only [zzK, Nat.reduceLT, Nat.reduceLeDiff, Nat.reduceBEq, QZ, QY, zz6, Nat.reduceEqDiff, ↓reduceIte]
  refine hK2 _ ?_; try clear hK2 K2
  refine kpA [4, 5] ?_
  refine awp_ret ?_
  simp only [zz6, Nat.reduceEqDiff, ↓reduceIte]
  refine dnA ?_
  simp only [QD, QE, resA, Qi, Nat.reduceLT, Nat.reduceLeDiff, Qa, Nat.reduceBEq, cond_true, cond_false, resAll]
  rw [show nsN r ws = 0 by simp only [nsN, he, cond_true, cond_false], show nsE r ws = rollE r by simp only [nsE, he, cond_true, cond_false]]
 ·intro hb
  have he : (rollE r != 0) = false := hb
  clear hb
  refine QX fun K2 hK2 => ?_
  refine QW F_mixed [some 14, some 15, some 16, some 13] rfl ?_
  simp only [zzK, Nat.reduceLT, Nat.reduceLeDiff, Nat.reduceBEq, QZ, Qb, Qc, zz29, gr_v, zz30, QY, ints, zz6, Nat.reduceEqDiff, ↓reduceIte]
  refine call_go F_go27 (fun hG => rightWhos_ ws hw) (by simp [QL, QK]) (by simp) ?_
  simp only [zzK, Nat.reduceLT, Nat.reduceLeDiff, Nat.reduceBEq, QZ, Qb, Qc, zz29, gr_v, zz30, QY, ints, zz6, Nat.reduceEqDiff, ↓reduceIte, atsL, oksG, freeN, AV.ren, AV.renL, addRows, ORow.row, Nat.reduceMul, Nat.reduceAdd, zz9, QB, QA, zzC, yyF, zzD, zz2]
  refine hK2 _ ?_; try clear hK2 K2
  refine kpA [1, 2, 13] ?_
  refine cnA ?_ ?_
  ·intro hb
   have hs : (!whosOk ws) = true := hb
   clear hb
   refine QX fun K3 hK3 => ?_
   refine QW F_mixed [some 4, some 5] rfl ?_
   simp only [zzK, Nat.reduceLT, Nat.reduceLeDiff, Nat.reduceBEq, QY, zz6, Nat.reduceEqDiff, ↓reduceIte]
   refine hK3 _ ?_; try clear hK3 K3
   refine kpA [4, 5] ?_
   refine awp_ret ?_
   simp only [zz6, Nat.reduceEqDiff, ↓reduceIte]
   refine dnA ?_
   simp only [QD, QE, resA, Qi, Nat.reduceLT, Nat.reduceLeDiff, Qa, Nat.reduceBEq, cond_true, cond_false, resAll]
   rw [show nsN r ws = 0 by simp only [nsN, he, hs, cond_true, cond_false], show nsE r ws = 3 by simp only [nsE, he, hs, cond_true, cond_false]]
  ·intro hb
   have hs : (!whosOk ws) = false := hb
   clear hb
   refine awp_skip ?_
   simp only [zz6, Nat.reduceEqDiff, ↓reduceIte]
   refine hK0 _ ?_; try clear hK0 K0
   refine kpA [1, 2] ?_
   refine QX fun K0 hK0 => ?_
   refine QW F_mixed [some 17, some 18, some 19, some 20, some 21, some 22, some 4, some 5] rfl ?_
   simp only [zzK, Nat.reduceLT, Nat.reduceLeDiff, Nat.reduceBEq, F_ok45, F_ag45, F_sz45, zz8, zz23, zzD, Nat.reduceAdd, QH, zzH, zzC, QA, yyE, reduceCtorEq, QZ, Qb, Qc, zz14, QY, memsD, instsD, assetsD, rollC, QJ, memA, memC, instA, instC, zzG, ints, zz6, Nat.reduceEqDiff, ↓reduceIte]
   refine call_go F_go34 (fun hG => needsF r ws h hw) (by simp [QL, QK]) (by simp) ?_
   simp only [zzK, Nat.reduceLT, Nat.reduceLeDiff, Nat.reduceBEq, F_ok45, F_ag45, F_sz45, zz8, zz23, zzD, Nat.reduceAdd, QH, zzH, zzC, QA, yyE, reduceCtorEq, QZ, Qb, Qc, zz14, QY, memsD, instsD, assetsD, rollC, QJ, memA, memC, instA, instC, zzG, ints, zz6, Nat.reduceEqDiff, ↓reduceIte, atsL, oksG, freeN, AV.ren, AV.renL, addRows, ORow.row, Nat.reduceMul, Nat.reduceAdd, zz9, QB, QA, S_mem, yyF, QF, zz2]
   refine call_go F_go28 (fun hG => Sum_ (ndV r ws) (by rw [ndV_len]; omega)) (by simp [QL, QK]) (by simp) ?_
   simp only [zzK, Nat.reduceLT, Nat.reduceLeDiff, Nat.reduceBEq, F_ok45, F_ag45, F_sz45, zz8, zz23, zzD, Nat.reduceAdd, QH, zzH, zzC, QA, yyE, reduceCtorEq, QZ, Qb, Qc, zz14, QY, memsD, instsD, assetsD, rollC, QJ, memA, memC, instA, instC, zzG, ints, zz6, Nat.reduceEqDiff, ↓reduceIte, atsL, oksG, freeN, AV.ren, AV.renL, addRows, ORow.row, Nat.reduceMul, Nat.reduceAdd, zz9, QB, QA, S_mem, yyF, QF, zz2]
   refine hK0 _ ?_; try clear hK0 K0
   refine kpA [4, 5] ?_
   refine awp_ret ?_
   simp only [zz6, Nat.reduceEqDiff, ↓reduceIte]
   refine dnA ?_
   simp only [QD, QE, resA, Qi, Nat.reduceLT, Nat.reduceLeDiff, Qa, Nat.reduceBEq, cond_true, cond_false, resAll]
   rw [show nsN r ws = sumV (ndV r ws) by simp only [nsN, he, hs, cond_true, cond_false], show nsE r ws = sumE (ndV r ws) by simp only [nsE, he, hs, cond_true, cond_false]]
theorem assess_ (r : RollV) (c amt : Int) (ws : List Int) (h : r.Small) (hw : ws.length ≤ 400000) : ACalls Try.prog 15 [.agg (rollC r), iv c, iv amt, ints ws] [⟨34, 4, (aqV r c amt ws).map legC⟩] (.tp [.ref 0 (aqV r c amt ws).length, .d (iv (aqE r c amt ws))]) := by
 refine acalls_S (rs := [.tmp 8, .tmp 9]) Try.func15 rfl rfl 34 [(0, .d (.agg (rollC r))), (1, .d (iv c)), (2, .d (iv amt)), (3, .d (ints ws))] rfl (by simp) rfl ?_
 refine QX fun K0 hK0 => ?_
 refine QW F_mixed [some 4, some 8, some 9] rfl ?_
 simp only [zzK, Nat.reduceLT, Nat.reduceLeDiff, Nat.reduceBEq, zz35, newRow1, zz1, zzG, zzD, zzC, QA, yyE, reduceCtorEq, Nat.reduceAdd, QH, zzH, QY, rollC, memsD, instsD, assetsD, zz6, Nat.reduceEqDiff, ↓reduceIte]
 refine hK0 _ ?_; try clear hK0 K0
 refine kpA [1, 2, 3, 4] ?_
 refine QX fun K0 hK0 => ?_
 refine QW F_mixed [some 13, some 14, some 15, some 12, some 16, some 17, some 10, some 11] rfl ?_
 simp only [zzK, Nat.reduceLT, Nat.reduceLeDiff, Nat.reduceBEq, F_ok45, F_ag45, F_sz45, zz8, zz23, zzD, Nat.reduceAdd, QH, zzH, zzC, QA, yyE, reduceCtorEq, QZ, Qb, Qc, zz14, QY, memsD, instsD, assetsD, rollC, QJ, memA, memC, instA, instC, zzG, ints, zz6, Nat.reduceEqDiff, ↓reduceIte]
 refine call_go F_go33 (fun hG => Needs_ r ws h hw) (by simp [QL, QK]) (by simp) ?_
 simp only [zzK, Nat.reduceLT, Nat.reduceLeDiff, Nat.reduceBEq, F_ok45, F_ag45, F_sz45, zz8, zz23, zzD, Nat.reduceAdd, QH, zzH, zzC, QA, yyE, reduceCtorEq, QZ, Qb, Qc, zz14, QY, memsD, instsD, assetsD, rollC, QJ, memA, memC, instA, instC, zzG, ints, zz6, Nat.reduceEqDiff, ↓reduceIte, atsL, oksG, freeN, AV.ren, AV.renL, addRows, ORow.row, Nat.reduceMul, Nat.reduceAdd, zz9, QB, QA, S_mem, yyF, QF, zz2]
 refine hK0 _ ?_; try clear hK0 K0
 refine kpA [1, 2, 3, 4, 10, 11] ?_
 refine QX fun K0 hK0 => ?_
 refine QX fun K1 hK1 => ?_
 refine QW F_mixed [some 18, some 19] rfl ?_
 simp only [zzK, Nat.reduceLT, Nat.reduceLeDiff, Nat.reduceBEq, QZ, zz21, gr_v, zz28, zz6, Nat.reduceEqDiff, ↓reduceIte]
 refine hK1 _ ?_; try clear hK1 K1
 refine kpA [1, 2, 3, 4, 10, 11, 19] ?_
 refine cnA ?_ ?_
 ·intro hb
  have he : (nsE r ws != 0) = true := hb
  clear hb
  refine QX fun K2 hK2 => ?_
  refine QW F_mixed [some 20, some 8, some 9] rfl ?_
  simp only [zzK, Nat.reduceLT, Nat.reduceLeDiff, Nat.reduceBEq, QZ, QY, zz6, Nat.reduceEqDiff, ↓reduceIte]
  refine hK2 _ ?_; try clear hK2 K2
  refine kpA [8, 9] ?_
  refine awp_le (le_SK id [0] rfl (l' := [(8, .ref 0 0), (9, .d (iv (nsE r ws)))]) (m' := [(0, (⟨True, 34, 4, true, true, 0, []⟩ : ARow))]) ?_ ?_ ?_ ?_) ?_
  ·simp only [leV, Qa, Nat.reduceBEq, cond_true, cond_false]; exact ⟨QP (by decide), QN rfl, trivial⟩
  ·exact ⟨fun h => by simp at h, fun _ => rfl, trivial⟩
  ·simp [wfV, QL, lookR]
  ·simp [wfR]
  refine awp_ret ?_
  simp only [zz6, Nat.reduceEqDiff, ↓reduceIte]
  rw [show aqV r c amt ws = [] by simp only [aqV, he, cond_true, cond_false], show aqE r c amt ws = nsE r ws by simp only [aqE, he, cond_true, cond_false]]
  refine done1 0 (by simp only [resCs, resC]; trivial) ?_ (by simp [flatA, Qk, Ql, legC]) (by simp [QL, QK, legC]) (by rfl) trivial rfl rfl ?_ (by simp [flatDs, Ql, legC])
  ·simp only [QD, QE, resA, Qi, Nat.reduceLT, Nat.reduceLeDiff, Qa, Nat.reduceBEq, cond_true, cond_false, resAll]; rfl
  ·rfl
 ·intro hb
  have he : (nsE r ws != 0) = false := hb
  clear hb
  refine awp_skip ?_
  simp only [zz6, Nat.reduceEqDiff, ↓reduceIte]
  refine hK0 _ ?_; try clear hK0 K0
  refine kpA [1, 2, 3, 4, 10] ?_
  refine QX fun K0 hK0 => ?_
  refine QX fun K1 hK1 => ?_
  refine QW F_mixed [some 21, some 22, some 23] rfl ?_
  simp only [zzK, Nat.reduceLT, Nat.reduceLeDiff, Nat.reduceBEq, QZ, Qb, Qc, zz29, gr_v, zz30, zz6, Nat.reduceEqDiff, ↓reduceIte]
  refine call_go F_go26 (fun hG => rightCur_ c) (by simp [QL, QK]) (by simp) ?_
  simp only [zzK, Nat.reduceLT, Nat.reduceLeDiff, Nat.reduceBEq, QZ, Qb, Qc, zz29, gr_v, zz30, zz6, Nat.reduceEqDiff, ↓reduceIte, atsL, oksG, freeN, AV.ren, AV.renL, addRows, ORow.row, Nat.reduceMul, Nat.reduceAdd, zz9, QB, QA, zzC, yyF, zzD, zz2]
  refine hK1 _ ?_; try clear hK1 K1
  refine kpA [1, 2, 3, 4, 10, 23] ?_
  refine cnA ?_ ?_
  ·intro hb
   have hc : (!curOk c) = true := hb
   clear hb
   refine QX fun K2 hK2 => ?_
   refine QW F_mixed [some 8, some 9] rfl ?_
   simp only [zzK, Nat.reduceLT, Nat.reduceLeDiff, Nat.reduceBEq, QY, zz6, Nat.reduceEqDiff, ↓reduceIte]
   refine hK2 _ ?_; try clear hK2 K2
   refine kpA [8, 9] ?_
   refine awp_le (le_SK id [0] rfl (l' := [(8, .ref 0 0), (9, .d (iv 3))]) (m' := [(0, (⟨True, 34, 4, true, true, 0, []⟩ : ARow))]) ?_ ?_ ?_ ?_) ?_
   ·simp only [leV, Qa, Nat.reduceBEq, cond_true, cond_false]; exact ⟨QP (by decide), QN rfl, trivial⟩
   ·exact ⟨fun h => by simp at h, fun _ => rfl, trivial⟩
   ·simp [wfV, QL, lookR]
   ·simp [wfR]
   refine awp_ret ?_
   simp only [zz6, Nat.reduceEqDiff, ↓reduceIte]
   rw [show aqV r c amt ws = [] by simp only [aqV, he, hc, cond_true, cond_false], show aqE r c amt ws = 3 by simp only [aqE, he, hc, cond_true, cond_false]]
   refine done1 0 (by simp only [resCs, resC]; trivial) ?_ (by simp [flatA, Qk, Ql, legC]) (by simp [QL, QK, legC]) (by rfl) trivial rfl rfl ?_ (by simp [flatDs, Ql, legC])
   ·simp only [QD, QE, resA, Qi, Nat.reduceLT, Nat.reduceLeDiff, Qa, Nat.reduceBEq, cond_true, cond_false, resAll]; rfl
   ·rfl
  ·intro hb
   have hc : (!curOk c) = false := hb
   clear hb
   have e1 : aqV r c amt ws = boV 2 c amt (nsN r ws) ws (ndV r ws) := by simp only [aqV, he, hc, cond_false]
   have e2 : aqE r c amt ws = boE 2 c amt (nsN r ws) ws (ndV r ws) := by simp only [aqE, he, hc, cond_false]
   refine awp_skip ?_
   simp only [zz6, Nat.reduceEqDiff, ↓reduceIte]
   refine hK0 _ ?_; try clear hK0 K0
   refine kpA [1, 2, 3, 4, 10] ?_
   refine QX fun K0 hK0 => ?_
   refine QW F_mixed [some 24, some 25, some 26, some 27, some 28, some 29, some 30, some 31, some 32, some 33, some 8, some 9] rfl ?_
   simp only [zzK, Nat.reduceLT, Nat.reduceLeDiff, Nat.reduceBEq, QZ, F_ok45, F_ag45, F_sz45, zz8, zz23, zzD, Nat.reduceAdd, QH, zzH, zzC, QA, yyE, reduceCtorEq, Qb, Qc, zz14, QY, memsD, instsD, assetsD, rollC, QJ, memA, memC, instA, instC, zzG, ints, zz6, Nat.reduceEqDiff, ↓reduceIte]
   refine call_go F_go34 (fun hG => needsF r ws h hw) (by simp [QL, QK]) (by simp) ?_
   simp only [zzK, Nat.reduceLT, Nat.reduceLeDiff, Nat.reduceBEq, QZ, F_ok45, F_ag45, F_sz45, zz8, zz23, zzD, Nat.reduceAdd, QH, zzH, zzC, QA, yyE, reduceCtorEq, Qb, Qc, zz14, QY, memsD, instsD, assetsD, rollC, QJ, memA, memC, instA, instC, zzG, ints, zz6, Nat.reduceEqDiff, ↓reduceIte, atsL, oksG, freeN, AV.ren, AV.renL, addRows, ORow.row, Nat.reduceMul, Nat.reduceAdd, zz9, QB, QA, S_mem, yyF, QF, zz2]
   refine call_go F_go18 (fun hG => borne_ 2 c amt (nsN r ws) ws (ndV r ws) hw (by rw [ndV_len])) (by simp [QL, QK]) (by simp) ?_
   simp only [zzK, Nat.reduceLT, Nat.reduceLeDiff, Nat.reduceBEq, QZ, F_ok45, F_ag45, F_sz45, zz8, zz23, zzD, Nat.reduceAdd, QH, zzH, zzC, QA, yyE, reduceCtorEq, Qb, Qc, zz14, QY, memsD, instsD, assetsD, rollC, QJ, memA, memC, instA, instC, zzG, ints, zz6, Nat.reduceEqDiff, ↓reduceIte, atsL, oksG, freeN, AV.ren, AV.renL, addRows, ORow.row, Nat.reduceMul, Nat.reduceAdd, zz9, QB, QA, S_mem, yyF, QF, zz2]
   refine hK0 _ ?_; try clear hK0 K0
   refine kpA [8, 9] ?_
   refine awp_ret ?_
   simp only [zz6, Nat.reduceEqDiff, ↓reduceIte]
   rw [e1, e2]
   refine done1 32000 (by simp only [resCs, resC]; trivial) ?_ (by simp [flatA, Qk, Ql, legC]) (by simp [QL, QK, legC]) (by rfl) trivial rfl rfl ?_ (by simp [flatDs, Ql, legC])
   ·simp only [QD, QE, resA, Qi, Nat.reduceLT, Nat.reduceLeDiff, Qa, Nat.reduceBEq, cond_true, cond_false, resAll]; rfl
   ·rfl
theorem assessF (r : RollV) (c amt : Int) (ws : List Int) (h : r.Small) (hw : ws.length ≤ 400000) : ACalls Try.prog 15 [.agg (rollC r), iv c, iv amt, ints ws] [] (.tp [.d (legs (aqV r c amt ws)), .d (iv (aqE r c amt ws))]) :=
 (assess_ r c amt ws h hw).freezeT (by simp [frzOk, frzOkL])
theorem wakes21_ : ACalls Try.prog 9 [] [] (bv true) := by
 refine acalls_S (rs := [.tmp 0]) Try.func9 rfl rfl 46 [] rfl (by simp) rfl ?_
 have w1 := wk21
 have w2 := wk21e
 refine QX fun K0 hK0 => ?_
 refine QW F_mixed [some 0] rfl ?_
 simp only [zzK, Nat.reduceLT, Nat.reduceLeDiff, Nat.reduceBEq, QY, zz6, Nat.reduceEqDiff, ↓reduceIte]
 refine hK0 _ ?_; try clear hK0 K0
 refine kpA [] ?_
 refine QX fun K0 hK0 => ?_
 refine QW F_mixed [some 4, some 5, some 6, some 7, some 8, some 9, some 10, some 11, some 1, none] rfl ?_
 simp only [zzK, Nat.reduceLT, Nat.reduceLeDiff, Nat.reduceBEq, F_zero32, F_bld32, zz7, splice, Option.getD_some, QG, zz1, zzG, zzD, zzC, QA, yyE, reduceCtorEq, Nat.reduceAdd, QH, zzH, zz10, F_fld32_0, F_zero63, F_bld63, F_fld63_0, F_fld63_1, F_fld32_1, F_sl22, F_sz63, zz3, newRow1, maxLen_le, Nat.reduceMul, F_zero24, F_bld24, F_fld24_1, zz32, zz18, F_ok24, F_sz24, QD, QJ, zz6, Nat.reduceEqDiff, ↓reduceIte]
 refine hK0 _ ?_; try clear hK0 K0
 refine kpA [1] ?_
 refine QX fun K0 hK0 => ?_
 refine QW F_mixed [some 13, some 14, some 15, some 12, some 16, some 17, some 2, some 3] rfl ?_
 simp only [zzK, Nat.reduceLT, Nat.reduceLeDiff, Nat.reduceBEq, F_ok24, F_ag24, F_sz24, zz8, zz23, zzD, Nat.reduceAdd, QH, zzH, zzC, QA, yyE, reduceCtorEq, F_sl25, F_zero3, F_sz3, zz3, newRow1, zz1, zzG, maxLen_le, Nat.reduceMul, Qb, Qc, QZ, zz14, QY, ledC, legs, legC, ints, w1, w2, QD, QJ, zz6, Nat.reduceEqDiff, ↓reduceIte]
 refine call_goE F_go8 (fun hG => levyF 0 [⟨⟨1, 0, 0⟩, -40⟩, ⟨⟨3, 1, 0⟩, 30⟩, ⟨⟨3, 2, 0⟩, 10⟩] 0 10 [1, 2, 3] (by decide) (by decide)) (by simp [QL, QK]) (by simp) ?_
 simp only [zzK, Nat.reduceLT, Nat.reduceLeDiff, Nat.reduceBEq, F_ok24, F_ag24, F_sz24, zz8, zz23, zzD, Nat.reduceAdd, QH, zzH, zzC, QA, yyE, reduceCtorEq, F_sl25, F_zero3, F_sz3, zz3, newRow1, zz1, zzG, maxLen_le, Nat.reduceMul, Qb, Qc, QZ, zz14, QY, ledC, legs, legC, ints, w1, w2, QD, QJ, zz6, Nat.reduceEqDiff, ↓reduceIte, asEs_cons, asEs_nil, asE_ag, asE_d, asE_ref, asEc_cons, asEc_nil, asF_d, asF_ref, asF_ag, asGs, oksF, atsL, oksG, freeN, AV.ren, AV.renL, addRows, ORow.row, Nat.reduceMul, Nat.reduceAdd, zz9, QB, QA, S_mem, yyF, QF, zz2]
 refine hK0 _ ?_; try clear hK0 K0
 refine kpA [2, 3] ?_
 refine QX fun K0 hK0 => ?_
 refine QW F_mixed [some 18, some 19, some 20, some 21, some 22, some 23, some 24, some 25, some 26, some 27, some 28, some 29, some 30, some 31, some 32, some 33, some 34, some 35, some 36, some 37, some 38, some 39, some 40, some 41, some 42, some 43, some 44, some 45, some 0] rfl ?_
 simp only [zzK, Nat.reduceLT, Nat.reduceLeDiff, Nat.reduceBEq, Nat.reduceSub, Qi, zz5, and_imp, imp_and, imp_self, QZ, zz21, gr_v, zz34, Qb, zz12, F_sl26, Option.isSome_some, zz13, pickK_l, pickK_r, Qf, zz23, zz24, F_sz34, QA, zzC, yyE, reduceCtorEq, zz19, F_off34_1, zzH, QH, Nat.reduceAdd, F_ok3, F_ag3, F_sz3, zz8, zzD, QY, w1, w2, legs, legC, zzG, QF, List.getD_cons_zero, Int.reduceLT, Int.reduceLE, Int.reduceToNat, Int.toNat_zero, Int.toNat_one, Nat.reduceLT, Nat.reduceAdd, QH, Int.le_refl, QJ, zz6, Nat.reduceEqDiff, ↓reduceIte]
 refine ⟨fun _ => by decide, fun _ => by decide, fun _ => by decide, ?_⟩
 refine hK0 _ ?_; try clear hK0 K0
 refine kpA [0] ?_
 refine awp_ret ?_
 simp only [zz6, Nat.reduceEqDiff, ↓reduceIte]
 refine dnA ?_
 simp only [QD, QE, resA, Qi, Nat.reduceLT, Nat.reduceLeDiff, Qa, Nat.reduceBEq, cond_true, cond_false, resAll]
 try simp
theorem rRight_ (n : Int) : ACalls Try.prog 39 [iv n] [] (bv (rightN n)) := by
 refine acalls_S (rs := [.tmp 2]) Try.func39 rfl rfl 9 [(0, .d (iv n))] rfl (by simp) rfl ?_
 refine QX fun K0 hK0 => ?_
 refine QW F_mixed [some 2] rfl ?_
 simp only [zzK, Nat.reduceLT, Nat.reduceLeDiff, Nat.reduceBEq, QY, zz6, Nat.reduceEqDiff, ↓reduceIte]
 refine hK0 _ ?_; try clear hK0 K0
 refine kpA [0] ?_
 refine QX fun K0 hK0 => ?_
 refine QW F_mixed [some 3, some 4, some 5, some 6, some 7, some 8, some 2] rfl ?_
 simp only [zzK, Nat.reduceLT, Nat.reduceLeDiff, Nat.reduceBEq, Nat.reduceSub, Qi, zz5, and_imp, imp_and, imp_self, and_self, QZ, zz21, gr_v, zz31, b_leq, pure_leq, zz13, pickK_l, pickK_r, QY, zz6, Nat.reduceEqDiff, ↓reduceIte]
 refine hK0 _ ?_; try clear hK0 K0
 refine kpA [2] ?_
 refine awp_ret ?_
 simp only [zz6, Nat.reduceEqDiff, ↓reduceIte]
 refine dnA ?_
 simp only [QD, QE, resA, Qi, Nat.reduceLT, Nat.reduceLeDiff, Qa, Nat.reduceBEq, cond_true, cond_false, resAll]
 have h : (decide (n ≥ -4611686018427387904) && decide (n ≤ 4611686018427387904)) = rightN n := by
  rw [Bool.eq_iff_iff]; simp [rightN]
 rw [h]
theorem rAcRight_ (a : AcV) : ACalls Try.prog 38 [.agg (acC a)] [] (bv (acOk a)) := by
 refine acalls_S (rs := [.tmp 2]) Try.func38 rfl rfl 40 [(0, .d (.agg (acC a)))] rfl (by simp) rfl ?_
 refine QX fun K0 hK0 => ?_
 refine QW F_mixed [some 1, some 2] rfl ?_
 simp only [zzK, Nat.reduceLT, Nat.reduceLeDiff, Nat.reduceBEq, zz35, newRow1, zz1, zzG, zzD, zzC, QA, yyE, reduceCtorEq, Nat.reduceAdd, QH, zzH, QY, acC, zz6, Nat.reduceEqDiff, ↓reduceIte]
 refine hK0 _ ?_; try clear hK0 K0
 refine kpA [1] ?_
 refine QX fun K0 hK0 => ?_
 refine QX fun K1 hK1 => ?_
 refine QW F_mixed [some 3, some 4, some 5, some 6, some 7, some 8, some 9, some 10, some 11, some 12, some 13, some 14, some 15, some 16, some 17, some 18, some 19, some 20] rfl ?_
 simp only [zzK, Nat.reduceLT, Nat.reduceLeDiff, Nat.reduceBEq, Nat.reduceSub, Qi, zz5, and_imp, imp_and, imp_self, zz19, zz23, F_off32_2, zzH, QH, Nat.reduceAdd, F_ok3, F_ag3, F_sz3, zz8, zzD, zzC, QA, yyE, reduceCtorEq, zz21, gr_v, zz22, QZ, zz31, zz13, pickK_l, pickK_r, F_off32_0, zz25, zz6, Nat.reduceEqDiff, ↓reduceIte]
 refine hK1 _ ?_; try clear hK1 K1
 refine kpA [1, 20] ?_
 refine cnA ?_ ?_
 ·intro hb
  have e : acBad a = true := by rw [acBad_ref]; exact hb
  clear hb
  refine QX fun K2 hK2 => ?_
  refine QW F_mixed [some 2] rfl ?_
  simp only [zzK, Nat.reduceLT, Nat.reduceLeDiff, Nat.reduceBEq, QY, zz6, Nat.reduceEqDiff, ↓reduceIte]
  refine hK2 _ ?_; try clear hK2 K2
  refine kpA [2] ?_
  refine awp_ret ?_
  simp only [zz6, Nat.reduceEqDiff, ↓reduceIte]
  refine dnA ?_
  simp only [QD, QE, resA, Qi, Nat.reduceLT, Nat.reduceLeDiff, Qa, Nat.reduceBEq, cond_true, cond_false, resAll]
  rw [acOk, e]; rfl
 ·intro hb
  have e : acBad a = false := by rw [acBad_ref]; exact hb
  clear hb
  refine awp_skip ?_
  simp only [zz6, Nat.reduceEqDiff, ↓reduceIte]
  refine hK0 _ ?_; try clear hK0 K0
  refine kpA [1] ?_
  refine QX fun K0 hK0 => ?_
  refine QX fun K1 hK1 => ?_
  refine QW F_mixed [some 21, some 22, some 23, some 24, some 25, some 26, some 27, some 28] rfl ?_
  simp only [zzK, Nat.reduceLT, Nat.reduceLeDiff, Nat.reduceBEq, Nat.reduceSub, Qi, zz5, and_imp, imp_and, imp_self, zz19, zz23, F_off32_0, zzH, QH, Nat.reduceAdd, F_ok3, F_ag3, F_sz3, zz8, zzD, zzC, QA, yyE, reduceCtorEq, zz21, gr_v, zz34, QZ, zz13, pickK_l, pickK_r, zz6, Nat.reduceEqDiff, ↓reduceIte]
  refine hK1 _ ?_; try clear hK1 K1
  refine kpA [1, 28] ?_
  refine cnA ?_ ?_
  ·intro hb
   have e2 : acOwn a.kind = true := hb
   clear hb
   refine QX fun K2 hK2 => ?_
   refine QW F_mixed [some 29, some 30, some 31, some 32, some 33, some 34, some 35, some 36, some 2] rfl ?_
   simp only [zzK, Nat.reduceLT, Nat.reduceLeDiff, Nat.reduceBEq, Nat.reduceSub, Qi, zz5, and_imp, imp_and, imp_self, zz19, zz23, F_off32_1, zzH, QH, Nat.reduceAdd, F_ok3, F_ag3, F_sz3, zz8, zzD, zzC, QA, yyE, reduceCtorEq, zz21, gr_v, zz31, QZ, b_leq, pure_leq, zz13, pickK_l, pickK_r, QY, zz6, Nat.reduceEqDiff, ↓reduceIte]
   refine hK2 _ ?_; try clear hK2 K2
   refine kpA [2] ?_
   refine awp_ret ?_
   simp only [zz6, Nat.reduceEqDiff, ↓reduceIte]
   refine dnA ?_
   simp only [QD, QE, resA, Qi, Nat.reduceLT, Nat.reduceLeDiff, Qa, Nat.reduceBEq, cond_true, cond_false, resAll]
   rw [acOk, e, e2]; cases decide (a.who ≥ 1) <;> rfl
  ·intro hb
   have e2 : acOwn a.kind = false := hb
   clear hb
   refine awp_skip ?_
   simp only [zz6, Nat.reduceEqDiff, ↓reduceIte]
   refine hK0 _ ?_; try clear hK0 K0
   refine kpA [1] ?_
   refine QX fun K0 hK0 => ?_
   refine QW F_mixed [some 37, some 38, some 39, some 2] rfl ?_
   simp only [zzK, Nat.reduceLT, Nat.reduceLeDiff, Nat.reduceBEq, zz19, zz23, F_off32_1, zzH, QH, Nat.reduceAdd, F_ok3, F_ag3, F_sz3, zz8, zzD, zzC, QA, yyE, reduceCtorEq, zz21, gr_v, zz34, QY, zz6, Nat.reduceEqDiff, ↓reduceIte]
   refine hK0 _ ?_; try clear hK0 K0
   refine kpA [2] ?_
   refine awp_ret ?_
   simp only [zz6, Nat.reduceEqDiff, ↓reduceIte]
   refine dnA ?_
   simp only [QD, QE, resA, Qi, Nat.reduceLT, Nat.reduceLeDiff, Qa, Nat.reduceBEq, cond_true, cond_false, resAll]
   rw [acOk, e, e2]; rfl
theorem Of_ (n : Int) (h0 : -9223372036854775808 ≤ n) (h1 : n < 9223372036854775808) : ACalls Try.prog 42 [iv n] [] (wideA n) := by
 refine acalls_S (rs := [.cell 2 89]) Try.func42 rfl rfl 11 [(0, .d (iv n))] rfl (by simp) rfl ?_
 refine QX fun K0 hK0 => ?_
 refine QW F_mixed [some 2] rfl ?_
 simp only [zzK, Nat.reduceLT, Nat.reduceLeDiff, Nat.reduceBEq, zz32, newRow1, F_zero89, zzC, QA, yyE, reduceCtorEq, zzD, Nat.reduceAdd, QH, zzH, zz10, zz6, Nat.reduceEqDiff, ↓reduceIte]
 refine hK0 _ ?_; try clear hK0 K0
 refine kpA [0, 2] ?_
 refine QX fun K0 hK0 => ?_
 refine QX fun K1 hK1 => ?_
 refine QW F_mixed [some 3, some 4] rfl ?_
 simp only [zzK, Nat.reduceLT, Nat.reduceLeDiff, Nat.reduceBEq, QZ, zz21, gr_v, zz22, zz6, Nat.reduceEqDiff, ↓reduceIte]
 refine hK1 _ ?_; try clear hK1 K1
 refine kpA [0, 2, 4] ?_
 refine cnA ?_ ?_
 ·intro hb
  simp only [decide_eq_true_eq] at hb
  refine QX fun K2 hK2 => ?_
  refine QW F_mixed [some 5, some 6, some 7, none] rfl ?_
  simp only [zzK, Nat.reduceLT, Nat.reduceLeDiff, Nat.reduceBEq, QZ, zz27, gr_v, F_cv3_87, F_cvV87, F_zero89, F_bld89, zz7, splice, Option.getD_some, QG, zz1, zzG, zzD, zzC, QA, yyE, reduceCtorEq, Nat.reduceAdd, QH, zzH, zz10, F_fld89_0, F_fld89_1, zz18, F_ok89, F_sz89, zz6, Nat.reduceEqDiff, ↓reduceIte]
  refine hK2 _ ?_; try clear hK2 K2
  refine kpA [2] ?_
  refine awp_ret ?_
  simp only [zz6, Nat.reduceEqDiff, ↓reduceIte]
  refine done0 (by simp [resCs, resC, S, List.getD, Qa, lookR, F_ag89, F_sz89, F_ok89]) ?_ (by simp [flatA, Qk, Ql, wideA]) (by simp [QL, QK, wideA])
  simp only [QD, QE, resA, Qi, S_mem, lookR_cons, lookR_nil, Nat.reduceLT, Nat.reduceLeDiff, Qa, Nat.reduceBEq, cond_true, cond_false, resAll, List.getD_cons_zero, List.getD_cons_succ, List.drop_zero, List.drop_succ_cons, List.take_succ_cons, List.take_zero, F_ag89, F_sz89, F_ok89]
  rw [wide_neg h0 hb]
 ·intro hb
  simp only [decide_eq_false_iff_not, Int.not_lt] at hb
  refine awp_skip ?_
  simp only [zz6, Nat.reduceEqDiff, ↓reduceIte]
  refine hK0 _ ?_; try clear hK0 K0
  refine kpA [0, 2] ?_
  refine QX fun K0 hK0 => ?_
  refine QW F_mixed [some 8, some 9, some 10, none] rfl ?_
  simp only [zzK, Nat.reduceLT, Nat.reduceLeDiff, Nat.reduceBEq, QZ, zz27, gr_v, F_cv3_87, F_cvV87, F_zero89, F_bld89, zz7, splice, Option.getD_some, QG, zz1, zzG, zzD, zzC, QA, yyE, reduceCtorEq, Nat.reduceAdd, QH, zzH, zz10, F_fld89_1, zz18, F_ok89, F_sz89, zz6, Nat.reduceEqDiff, ↓reduceIte]
  refine hK0 _ ?_; try clear hK0 K0
  refine kpA [2] ?_
  refine awp_ret ?_
  simp only [zz6, Nat.reduceEqDiff, ↓reduceIte]
  refine done0 (by simp [resCs, resC, S, List.getD, Qa, lookR, F_ag89, F_sz89, F_ok89]) ?_ (by simp [flatA, Qk, Ql, wideA]) (by simp [QL, QK, wideA])
  simp only [QD, QE, resA, Qi, S_mem, lookR_cons, lookR_nil, Nat.reduceLT, Nat.reduceLeDiff, Qa, Nat.reduceBEq, cond_true, cond_false, resAll, List.getD_cons_zero, List.getD_cons_succ, List.drop_zero, List.drop_succ_cons, List.take_succ_cons, List.take_zero, F_ag89, F_sz89, F_ok89]
  rw [wide_pos h1 hb]
set_option maxRecDepth 100000 in
set_option maxHeartbeats 4000000 in
theorem WSum_ (l : List Int) (hl : l.length ≤ 1000000) (hall : ∀ x ∈ l, -170141183460469231731687303715884105728 ≤ x ∧ x < 170141183460469231731687303715884105728) : ACalls Try.prog 43 [wides l] [] (.tp [wideA (bif fitsW l.sum then l.sum else 0), bv (fitsW l.sum)]) := by
 refine acalls_S (rs := [.cell 2 89, .tmp 3]) Try.func43 rfl rfl 75 [(0, .d (wides l))] rfl (by simp) rfl ?_
 refine QX fun K0 hK0 => ?_
 refine QW F_mixed [some 2, some 3] rfl ?_
 simp only [zzK, Nat.reduceLT, Nat.reduceLeDiff, Nat.reduceBEq, zz32, newRow1, F_zero89, zzC, QA, yyE, reduceCtorEq, zzD, Nat.reduceAdd, QH, zzH, zz10, QY, zz6, Nat.reduceEqDiff, ↓reduceIte]
 refine hK0 _ ?_; try clear hK0 K0
 refine kpA [0, 2] ?_
 refine QX fun K0 hK0 => ?_
 refine QW F_mixed [some 4] rfl ?_
 simp only [zzK, Nat.reduceLT, Nat.reduceLeDiff, Nat.reduceBEq, QY, zz6, Nat.reduceEqDiff, ↓reduceIte]
 refine hK0 _ ?_; try clear hK0 K0
 refine kpA [0, 2, 4] ?_
 refine QX fun K0 hK0 => ?_
 refine QW F_mixed [some 5, some 6] rfl ?_
 simp only [zzK, Nat.reduceLT, Nat.reduceLeDiff, Nat.reduceBEq, QY, zz6, Nat.reduceEqDiff, ↓reduceIte]
 refine hK0 _ ?_; try clear hK0 K0
 refine kpA [0, 2, 4, 5, 6] ?_
 refine QX fun K0 hK0 => ?_
 refine QX fun K1 hK1 => ?_
 refine QW F_mixed [some 7] rfl ?_
 simp only [zzK, Nat.reduceLT, Nat.reduceLeDiff, Nat.reduceBEq, QY, zz6, Nat.reduceEqDiff, ↓reduceIte]
 refine hK1 _ ?_; try clear hK1 K1
 refine kpA [0, 2, 4, 5, 6, 7] ?_
 refine Qe ?_
 refine awp_loop (fun m s => ∃ pre post : List Int, l = pre ++ post ∧ m = post.length ∧ s = S 75 [(0, .d (wides l)), (2, .ptr 2 0 0), (4, .d (iv (topN pre.sum))), (5, .d (.v (.int .u64 (hiN pre.sum)))), (6, .d (.v (.int .u64 (loN pre.sum)))), (7, .d (iv pre.length))] [(2, (⟨True, 89, 2, true, false, 2, [[.d (.v (.int .i64 0)), .d (.v (.int .u64 0))]]⟩ : ARow))]) l.length _ (le_SK id [] rfl (l' := [(0, .d (wides l)), (2, .ptr 2 0 0), (4, .d (iv (topN ([] : List Int).sum))), (5, .d (.v (.int .u64 (hiN ([] : List Int).sum)))), (6, .d (.v (.int .u64 (loN ([] : List Int).sum)))), (7, .d (iv ([] : List Int).length))]) (m' := [(2, (⟨True, 89, 2, true, false, 2, [[.d (.v (.int .i64 0)), .d (.v (.int .u64 0))]]⟩ : ARow))]) ?_ ?_ ?_ ?_) ⟨[], l, rfl, rfl, rfl⟩ ?_
 ·simp only [leV, Qa, Nat.reduceBEq, cond_true, cond_false, List.sum_nil]; exact ⟨QM _, QM _, QM _, QM _, QM _, QM _, trivial⟩
 ·exact ⟨fun _ => ⟨_, rfl, ⟨id, rfl, rfl, fun _ => rfl, id, .inl, VLess.refl _⟩⟩, fun h => by simp at h, trivial⟩
 ·simp [wfV, QL, lookR]
 ·simp [wfR, QK, QL]
 rintro m s ⟨pre, post, rfl, rfl, rfl⟩
 refine QX fun K2 hK2 => ?_
 refine QX fun K3 hK3 => ?_
 refine QW F_mixed [some 13, some 14, some 15, some 16] rfl ?_
 simp only [zzK, Nat.reduceLT, Nat.reduceLeDiff, Nat.reduceBEq, QZ, Qb, zz12, F_sl86, Option.isSome_some, zz21, gr_v, zz22, wides, len_map, zz6, Nat.reduceEqDiff, ↓reduceIte]
 refine hK3 _ ?_; try clear hK3 K3
 refine kpA [0, 2, 4, 5, 6, 7, 16] ?_
 refine cnA ?_ ?_
 ·intro hb
  obtain ⟨x, post, rfl⟩ := more_of hb; clear hb
  have hx := hall x (by simp)
  have hs := wsum_bound (l := pre) (fun y hy => hall y (by simp [hy])) (by simp at hl; omega)
  refine awp_skip ?_
  simp only [zz6, Nat.reduceEqDiff, ↓reduceIte]
  refine hK2 _ ?_; try clear hK2 K2
  refine kpA [0, 2, 4, 5, 6, 7] ?_
  refine QX fun K2 hK2 => ?_
  refine Qe ?_
  refine QX fun K3 hK3 => ?_
  refine QW F_mixed [some 20, some 21, some 22, some 23, some 24, some 25, some 26, some 19, some 27, some 28, some 8, some 9] rfl ?_
  simp only [zzK, Nat.reduceLT, Nat.reduceLeDiff, Nat.reduceBEq, QZ, Qf, zz23, zz24, F_sl86, F_sz89, QA, zzC, yyE, reduceCtorEq, zz19, F_off89_1, zzH, QH, Nat.reduceAdd, F_ok87, F_ag87, F_sz87, zz8, zzD, Qb, Qc, zz14, QY, wides, wideC, getD_mid, len_map, lt_mid, ge_mid, zz6, Nat.reduceEqDiff, ↓reduceIte]
  refine call_ext _ _ (add64 (loN pre.sum) (x % 18446744073709551616) 0 (lo_nn _) (by omega) (by decide) (by decide)) ?_
  simp only [zzK, Nat.reduceLT, Nat.reduceLeDiff, Nat.reduceBEq, QZ, Qf, zz23, zz24, F_sl86, F_sz89, QA, zzC, yyE, reduceCtorEq, zz19, F_off89_1, zzH, QH, Nat.reduceAdd, F_ok87, F_ag87, F_sz87, zz8, zzD, Qb, Qc, zz14, QY, wides, wideC, getD_mid, len_map, lt_mid, ge_mid, zz6, Nat.reduceEqDiff, ↓reduceIte, grsL, gr_v, QB, QA, oksL, ofV_pair, ofV_int, ofV_bool]
  refine hK3 _ ?_; try clear hK3 K3
  refine kpA [0, 2, 4, 5, 7, 8, 9] ?_
  refine QX fun K3 hK3 => ?_
  refine QW F_mixed [some 30, some 31, some 32, some 33, some 34, some 35, some 36, some 37, some 38, some 29, some 39, some 40, some 10, some 11] rfl ?_
  simp only [zzK, Nat.reduceLT, Nat.reduceLeDiff, Nat.reduceBEq, QZ, Qf, zz23, zz24, F_sl86, F_sz89, QA, zzC, yyE, reduceCtorEq, zz19, F_off89_0, zzH, QH, Nat.reduceAdd, F_ok3, F_ag3, F_sz3, zz8, zzD, zz27, gr_v, F_cv3_87, F_cvV87, Qb, Qc, zz14, QY, wides, wideC, getD_mid, len_map, lt_mid, ge_mid, zz6, Nat.reduceEqDiff, ↓reduceIte]
  refine call_ext _ _ (add64 (hiN pre.sum) (IntKind.wrap .u64 (x / 18446744073709551616)) ((loN pre.sum + x % 18446744073709551616 + 0) / 18446744073709551616) (hi_nn _) (wu_nn _) (wcarry0 _ _) (wcarry1 _ _)) ?_
  simp only [zzK, Nat.reduceLT, Nat.reduceLeDiff, Nat.reduceBEq, QZ, Qf, zz23, zz24, F_sl86, F_sz89, QA, zzC, yyE, reduceCtorEq, zz19, F_off89_0, zzH, QH, Nat.reduceAdd, F_ok3, F_ag3, F_sz3, zz8, zzD, zz27, gr_v, F_cv3_87, F_cvV87, Qb, Qc, zz14, QY, wides, wideC, getD_mid, len_map, lt_mid, ge_mid, zz6, Nat.reduceEqDiff, ↓reduceIte, grsL, gr_v, QB, QA, oksL, ofV_pair, ofV_int, ofV_bool]
  refine hK3 _ ?_; try clear hK3 K3
  refine kpA [0, 2, 4, 7, 8, 10, 11] ?_
  refine QX fun K3 hK3 => ?_
  refine QW F_mixed [some 41, some 42, some 6, some 5] rfl ?_
  simp only [zzK, Nat.reduceLT, Nat.reduceLeDiff, Nat.reduceBEq, QZ, QY, zz6, Nat.reduceEqDiff, ↓reduceIte]
  refine hK3 _ ?_; try clear hK3 K3
  refine kpA [0, 2, 4, 5, 6, 7, 11] ?_
  refine QX fun K3 hK3 => ?_
  refine QW F_mixed [some 43, some 44, some 45, some 46, some 4] rfl ?_
  simp only [zzK, Nat.reduceLT, Nat.reduceLeDiff, Nat.reduceBEq, QZ, zz27, gr_v, F_cv87_3, F_cvV3, zz21, zz26, QY, zz6, Nat.reduceEqDiff, ↓reduceIte]
  refine hK3 _ ?_; try clear hK3 K3
  refine kpA [0, 2, 4, 5, 6, 7] ?_
  refine QX fun K3 hK3 => ?_
  refine QW F_mixed [some 47, some 48, some 49, some 50, some 51, some 52] rfl ?_
  simp only [zzK, Nat.reduceLT, Nat.reduceLeDiff, Nat.reduceBEq, QZ, Qf, zz23, zz24, F_sl86, F_sz89, QA, zzC, yyE, reduceCtorEq, zz19, F_off89_0, zzH, QH, Nat.reduceAdd, F_ok3, F_ag3, F_sz3, zz8, zzD, zz21, gr_v, zz22, wides, wideC, getD_mid, len_map, lt_mid, ge_mid, zz6, Nat.reduceEqDiff, ↓reduceIte]
  refine hK3 _ ?_; try clear hK3 K3
  refine kpA [0, 2, 4, 5, 6, 7, 52] ?_
  refine cnA ?_ ?_
  ·intro hb
   refine QW F_mixed [some 53, some 54, some 4] rfl ?_
   simp only [zzK, Nat.reduceLT, Nat.reduceLeDiff, Nat.reduceBEq, QZ, zz21, gr_v, zz33, QY, zz6, Nat.reduceEqDiff, ↓reduceIte]
   refine hK2 _ ?_; try clear hK2 K2
   refine kpA [0, 2, 4, 5, 6, 7] ?_
   refine QW F_mixed [some 17, some 18, some 7] rfl ?_
   simp only [zzK, Nat.reduceLT, Nat.reduceLeDiff, Nat.reduceBEq, QZ, zz21, gr_v, zz26, QY, zz6, Nat.reduceEqDiff, ↓reduceIte]
   refine ⟨post.length, _, by simp, le_SK id [] rfl (l' := [(0, .d (wides (pre ++ x :: post))), (2, .ptr 2 0 0), (4, .d (iv (topN (pre ++ [x]).sum))), (5, .d (.v (.int .u64 (hiN (pre ++ [x]).sum)))), (6, .d (.v (.int .u64 (loN (pre ++ [x]).sum)))), (7, .d (iv (pre ++ [x]).length))]) (m' := [(2, (⟨True, 89, 2, true, false, 2, [[.d (.v (.int .i64 0)), .d (.v (.int .u64 0))]]⟩ : ARow))]) ?_ ?_ ?_ ?_, pre ++ [x], post, by simp, rfl, rfl⟩
   ·simp only [leV, Qa, Nat.reduceBEq, cond_true, cond_false, wides, wrap_len pre x (by simp at hl; omega), sum_snoc]
    refine ⟨QM _, QM _, ?_, ?_, ?_, QM _, trivial⟩
    ·(first | rw [wsum_topA hs.1 hs.2 hx.1 hx.2 hb] | rw [wsum_topB hs.1 hs.2 hx.1 hx.2 hb]); exact QM _
    ·rw [wsum_hi]; exact QM _
    ·rw [wsum_lo]; exact QM _
   ·exact ⟨fun _ => ⟨_, rfl, ⟨id, rfl, rfl, fun _ => rfl, id, .inl, VLess.refl _⟩⟩, fun h => by simp at h, trivial⟩
   ·simp [wfV, QL, lookR]
   ·simp [wfR, QK, QL]
  ·intro hb
   refine awp_skip ?_
   simp only [zz6, Nat.reduceEqDiff, ↓reduceIte]
   refine hK2 _ ?_; try clear hK2 K2
   refine kpA [0, 2, 4, 5, 6, 7] ?_
   refine QW F_mixed [some 17, some 18, some 7] rfl ?_
   simp only [zzK, Nat.reduceLT, Nat.reduceLeDiff, Nat.reduceBEq, QZ, zz21, gr_v, zz26, QY, zz6, Nat.reduceEqDiff, ↓reduceIte]
   refine ⟨post.length, _, by simp, le_SK id [] rfl (l' := [(0, .d (wides (pre ++ x :: post))), (2, .ptr 2 0 0), (4, .d (iv (topN (pre ++ [x]).sum))), (5, .d (.v (.int .u64 (hiN (pre ++ [x]).sum)))), (6, .d (.v (.int .u64 (loN (pre ++ [x]).sum)))), (7, .d (iv (pre ++ [x]).length))]) (m' := [(2, (⟨True, 89, 2, true, false, 2, [[.d (.v (.int .i64 0)), .d (.v (.int .u64 0))]]⟩ : ARow))]) ?_ ?_ ?_ ?_, pre ++ [x], post, by simp, rfl, rfl⟩
   ·simp only [leV, Qa, Nat.reduceBEq, cond_true, cond_false, wides, wrap_len pre x (by simp at hl; omega), sum_snoc]
    refine ⟨QM _, QM _, ?_, ?_, ?_, QM _, trivial⟩
    ·(first | rw [wsum_topA hs.1 hs.2 hx.1 hx.2 hb] | rw [wsum_topB hs.1 hs.2 hx.1 hx.2 hb]); exact QM _
    ·rw [wsum_hi]; exact QM _
    ·rw [wsum_lo]; exact QM _
   ·exact ⟨fun _ => ⟨_, rfl, ⟨id, rfl, rfl, fun _ => rfl, id, .inl, VLess.refl _⟩⟩, fun h => by simp at h, trivial⟩
   ·simp [wfV, QL, lookR]
   ·simp [wfR, QK, QL]
 ·intro hb
  obtain rfl := none_of hb; clear hb
  simp only [QG] at hl hall ⊢
  refine awp_exit ?_
  simp only [zz6, Nat.reduceEqDiff, ↓reduceIte]
  refine hK0 _ ?_; try clear hK0 K0
  refine kpA [2, 4, 5, 6] ?_
  refine QX fun K0 hK0 => ?_
  refine QW F_mixed [some 55, some 56, some 12] rfl ?_
  simp only [zzK, Nat.reduceLT, Nat.reduceLeDiff, Nat.reduceBEq, QZ, zz27, gr_v, F_cv87_3, F_cvV3, QY, zz6, Nat.reduceEqDiff, ↓reduceIte]
  refine hK0 _ ?_; try clear hK0 K0
  refine kpA [2, 4, 6, 12] ?_
  refine QX fun K0 hK0 => ?_
  refine QX fun K1 hK1 => ?_
  refine QW F_mixed [some 57, some 58, some 59, some 60, some 61, some 62, some 63, some 64, some 65, some 66, some 67, some 68, some 69, some 70] rfl ?_
  simp only [zzK, Nat.reduceLT, Nat.reduceLeDiff, Nat.reduceBEq, Nat.reduceSub, Qi, zz5, and_imp, imp_and, imp_self, and_self, QZ, zz21, gr_v, zz34, zz31, zz13, pickK_l, pickK_r, zz22, zz6, Nat.reduceEqDiff, ↓reduceIte]
  refine hK1 _ ?_; try clear hK1 K1
  refine kpA [2, 6, 12, 70] ?_
  refine cnA ?_ ?_
  ·intro hb
   rw [fits_law] at hb
   refine QX fun K2 hK2 => ?_
   refine QW F_mixed [some 71, some 72, some 73, none, some 3] rfl ?_
   simp only [zzK, Nat.reduceLT, Nat.reduceLeDiff, Nat.reduceBEq, QZ, F_zero89, F_bld89, zz7, splice, Option.getD_some, QG, zz1, zzG, zzD, zzC, QA, yyE, reduceCtorEq, Nat.reduceAdd, QH, zzH, zz10, F_fld89_0, F_fld89_1, zz18, F_ok89, F_sz89, QY, zz6, Nat.reduceEqDiff, ↓reduceIte]
   refine hK2 _ ?_; try clear hK2 K2
   refine kpA [2, 3] ?_
   refine awp_ret ?_
   simp only [zz6, Nat.reduceEqDiff, ↓reduceIte]
   refine done0 (by simp [resCs, resC, S, List.getD, Qa, lookR, F_ag89, F_sz89, F_ok89]) ?_ (by simp [flatA, Qk, Ql, wideA]) (by simp [QL, QK, wideA])
   simp only [QD, QE, resA, Qi, S_mem, lookR_cons, lookR_nil, Nat.reduceLT, Nat.reduceLeDiff, Qa, Nat.reduceBEq, cond_true, cond_false, resAll, List.getD_cons_zero, List.getD_cons_succ, List.drop_zero, List.drop_succ_cons, List.take_succ_cons, List.take_zero, F_ag89, F_sz89, F_ok89]
   simp only [QG, hb, wide_fit hb, cond_true]
  ·intro hb
   rw [fits_law] at hb
   refine awp_skip ?_
   simp only [zz6, Nat.reduceEqDiff, ↓reduceIte]
   refine hK0 _ ?_; try clear hK0 K0
   refine kpA [2] ?_
   refine QX fun K0 hK0 => ?_
   refine QW F_mixed [some 74, none, some 3] rfl ?_
   simp only [zzK, Nat.reduceLT, Nat.reduceLeDiff, Nat.reduceBEq, F_zero89, F_bld89, zz7, splice, Option.getD_some, QG, zz1, zzG, zzD, zzC, QA, yyE, reduceCtorEq, Nat.reduceAdd, QH, zzH, zz10, zz18, F_ok89, F_sz89, QY, zz6, Nat.reduceEqDiff, ↓reduceIte]
   refine hK0 _ ?_; try clear hK0 K0
   refine kpA [2, 3] ?_
   refine awp_ret ?_
   simp only [zz6, Nat.reduceEqDiff, ↓reduceIte]
   refine done0 (by simp [resCs, resC, S, List.getD, Qa, lookR, F_ag89, F_sz89, F_ok89]) ?_ (by simp [flatA, Qk, Ql, wideA]) (by simp [QL, QK, wideA])
   simp only [QD, QE, resA, Qi, S_mem, lookR_cons, lookR_nil, Nat.reduceLT, Nat.reduceLeDiff, Qa, Nat.reduceBEq, cond_true, cond_false, resAll, List.getD_cons_zero, List.getD_cons_succ, List.drop_zero, List.drop_succ_cons, List.take_succ_cons, List.take_zero, F_ag89, F_sz89, F_ok89]
   simp only [QG, hb, cond_false]; rfl
theorem Int_ (t : Int) : ACalls Try.prog 44 [.agg (wideC t)] [] (.tp [.d (iv (bif rightN t then t else 0)), bv (rightN t)]) := by
 refine acalls_S (rs := [.tmp 2, .tmp 3]) Try.func44 rfl rfl 18 [(0, .d (.agg (wideC t)))] rfl (by simp) rfl ?_
 refine QX fun K0 hK0 => ?_
 refine QW F_mixed [some 1, some 2, some 3] rfl ?_
 simp only [zzK, Nat.reduceLT, Nat.reduceLeDiff, Nat.reduceBEq, zz35, newRow1, zz1, zzG, zzD, zzC, QA, yyE, reduceCtorEq, Nat.reduceAdd, QH, zzH, QY, wideC, zz6, Nat.reduceEqDiff, ↓reduceIte]
 refine hK0 _ ?_; try clear hK0 K0
 refine kpA [1] ?_
 refine QX fun K0 hK0 => ?_
 refine QW F_mixed [some 5, some 6, some 7, some 4] rfl ?_
 simp only [zzK, Nat.reduceLT, Nat.reduceLeDiff, Nat.reduceBEq, zz19, zz23, F_off89_1, zzH, QH, Nat.reduceAdd, F_ok87, F_ag87, F_sz87, zz8, zzD, zzC, QA, yyE, reduceCtorEq, zz27, gr_v, F_cv87_3, F_cvV3, QY, zz6, Nat.reduceEqDiff, ↓reduceIte]
 refine hK0 _ ?_; try clear hK0 K0
 refine kpA [1, 4] ?_
 refine QX fun K0 hK0 => ?_
 refine QX fun K1 hK1 => ?_
 refine awp_draw F_mixed [some 8, some 9, some 10, some 11, some 12, some 13, some 14, some 15, some 16] rfl (by kernel_rfl) ?_
 simp only [zzK, Nat.reduceLT, Nat.reduceLeDiff, Nat.reduceBEq, Nat.reduceSub, Qi, zz5, and_imp, imp_and, imp_self, QZ, Qb, Qc, F_ok89, F_ag89, F_sz89, zz8, zz23, zzD, Nat.reduceAdd, QH, zzH, zzC, QA, yyE, reduceCtorEq, zz21, gr_v, gr_ag, gr_agg, grL_cons, grL_nil, grD_cons, grD_nil, b_eqla, b_neqa, F_neq89, zz29, zz30, zz13, pickK_l, pickK_r, wideA, wideC, zz6, Nat.reduceEqDiff, ↓reduceIte]
 refine call_go F_go42 (fun hG => Of_ (IntKind.wrap .i64 (t % 18446744073709551616)) (wI0 _) (wI1 _)) (by simp [QL, QK, wideA, wideC]) (by simp) ?_
 simp only [zzK, Nat.reduceLT, Nat.reduceLeDiff, Nat.reduceBEq, Nat.reduceSub, Qi, zz5, and_imp, imp_and, imp_self, QZ, Qb, Qc, F_ok89, F_ag89, F_sz89, zz8, zz23, zzD, Nat.reduceAdd, QH, zzH, zzC, QA, yyE, reduceCtorEq, zz21, gr_v, gr_ag, gr_agg, grL_cons, grL_nil, grD_cons, grD_nil, b_eqla, b_neqa, F_neq89, zz29, zz30, zz13, pickK_l, pickK_r, wideA, wideC, zz6, Nat.reduceEqDiff, ↓reduceIte, atsL, oksG, freeN, AV.ren, AV.renL, addRows, ORow.row, Nat.reduceMul, Nat.reduceAdd, zz9, QB, QA, S_mem, yyF, QF, zz2]
 refine call_go F_go39 (fun hG => rRight_ (IntKind.wrap .i64 (t % 18446744073709551616))) (by simp [QL, QK, wideA, wideC]) (by simp) ?_
 simp only [zzK, Nat.reduceLT, Nat.reduceLeDiff, Nat.reduceBEq, Nat.reduceSub, Qi, zz5, and_imp, imp_and, imp_self, QZ, Qb, Qc, F_ok89, F_ag89, F_sz89, zz8, zz23, zzD, Nat.reduceAdd, QH, zzH, zzC, QA, yyE, reduceCtorEq, zz21, gr_v, gr_ag, gr_agg, grL_cons, grL_nil, grD_cons, grD_nil, b_eqla, b_neqa, F_neq89, zz29, zz30, zz13, pickK_l, pickK_r, wideA, wideC, zz6, Nat.reduceEqDiff, ↓reduceIte, atsL, oksG, freeN, AV.ren, AV.renL, addRows, ORow.row, Nat.reduceMul, Nat.reduceAdd, zz9, QB, QA, S_mem, yyF, QF, zz2]
 refine hK1 _ ?_; try clear hK1 K1
 refine kpA [4, 16] ?_
 refine cnA ?_ ?_
 ·intro hb
  rw [int_law] at hb
  simp only [Bool.not_eq_true'] at hb
  refine QX fun K2 hK2 => ?_
  refine QW F_mixed [some 2, some 3] rfl ?_
  simp only [zzK, Nat.reduceLT, Nat.reduceLeDiff, Nat.reduceBEq, QY, zz6, Nat.reduceEqDiff, ↓reduceIte]
  refine hK2 _ ?_; try clear hK2 K2
  refine kpA [2, 3] ?_
  refine awp_ret ?_
  simp only [zz6, Nat.reduceEqDiff, ↓reduceIte]
  refine dnA ?_
  simp only [QD, QE, resA, Qi, Nat.reduceLT, Nat.reduceLeDiff, Qa, Nat.reduceBEq, cond_true, cond_false, resAll]
  simp only [hb, cond_false]
 ·intro hb
  rw [int_law] at hb
  simp only [Bool.not_eq_false'] at hb
  refine awp_skip ?_
  simp only [zz6, Nat.reduceEqDiff, ↓reduceIte]
  refine hK0 _ ?_; try clear hK0 K0
  refine kpA [4] ?_
  refine QX fun K0 hK0 => ?_
  refine QW F_mixed [some 17, some 2, some 3] rfl ?_
  simp only [zzK, Nat.reduceLT, Nat.reduceLeDiff, Nat.reduceBEq, QZ, QY, zz6, Nat.reduceEqDiff, ↓reduceIte]
  refine hK0 _ ?_; try clear hK0 K0
  refine kpA [2, 3] ?_
  refine awp_ret ?_
  simp only [zz6, Nat.reduceEqDiff, ↓reduceIte]
  refine dnA ?_
  simp only [QD, QE, resA, Qi, Nat.reduceLT, Nat.reduceLeDiff, Qa, Nat.reduceBEq, cond_true, cond_false, resAll]
  simp only [hb, cond_true, int_val hb]
theorem Add_ (l : List Int) (hl : l.length ≤ 1000000) (hall : ∀ x ∈ l, -9223372036854775808 ≤ x ∧ x < 9223372036854775808) : ACalls Try.prog 23 [ints l] [] (.tp [.d (iv (bif rightN l.sum then l.sum else 0)), bv (rightN l.sum)]) := by
 refine acalls_S (rs := [.tmp 2, .tmp 3]) Try.func23 rfl rfl 33 [(0, .d (ints l))] rfl (by simp) rfl ?_
 refine QX fun K0 hK0 => ?_
 refine QW F_mixed [some 2, some 3] rfl ?_
 simp only [zzK, Nat.reduceLT, Nat.reduceLeDiff, Nat.reduceBEq, QY, zz6, Nat.reduceEqDiff, ↓reduceIte]
 refine hK0 _ ?_; try clear hK0 K0
 refine kpA [0] ?_
 refine QX fun K0 hK0 => ?_
 refine QW F_mixed [some 4] rfl ?_
 simp only [zzK, Nat.reduceLT, Nat.reduceLeDiff, Nat.reduceBEq, QY, zz6, Nat.reduceEqDiff, ↓reduceIte]
 refine hK0 _ ?_; try clear hK0 K0
 refine kpA [0, 4] ?_
 refine QX fun K0 hK0 => ?_
 refine QX fun K1 hK1 => ?_
 refine QW F_mixed [some 5] rfl ?_
 simp only [zzK, Nat.reduceLT, Nat.reduceLeDiff, Nat.reduceBEq, QY, zz6, Nat.reduceEqDiff, ↓reduceIte]
 refine hK1 _ ?_; try clear hK1 K1
 refine kpA [0, 4, 5] ?_
 refine Qe ?_
 refine awp_loop (fun m s => ∃ pre post : List Int, l = pre ++ post ∧ m = post.length ∧ s = S 33 [(0, .d (ints l)), (4, .ref 4 pre.length), (5, .d (iv pre.length))] [(4, grow 89 2 4 (pre.map wideC))]) l.length _ (le_SK id [4] rfl (l' := [(0, .d (ints l)), (4, .ref 4 ([] : List Int).length), (5, .d (iv ([] : List Int).length))]) (m' := [(4, grow 89 2 4 (([] : List Int).map wideC))]) ?_ ?_ ?_ ?_) ⟨[], l, rfl, rfl, rfl⟩ ?_
 ·simp only [leV, Qa, Nat.reduceBEq, cond_true, cond_false]; exact ⟨VLe.data_ _, QP (by decide), VLe.data_ _, trivial⟩
 ·simp [leR, grow]
 ·simp [wfV, QL, lookR]
 ·simp [wfR, grow]
 rintro m s ⟨pre, post, rfl, rfl, rfl⟩
 refine QX fun K2 hK2 => ?_
 refine QX fun K3 hK3 => ?_
 refine QW F_mixed [some 8, some 9, some 10, some 11] rfl ?_
 simp only [zzK, Nat.reduceLT, Nat.reduceLeDiff, Nat.reduceBEq, QZ, Qb, zz12, F_sl25, Option.isSome_some, zz21, gr_v, zz22, ints, len_map, zz6, Nat.reduceEqDiff, ↓reduceIte]
 refine hK3 _ ?_; try clear hK3 K3
 refine kpA [0, 4, 5, 11] ?_
 refine cnA ?_ ?_
 ·intro hb
  obtain ⟨x, post, rfl⟩ := more_of hb; clear hb
  have hx := hall x (by simp)
  refine awp_skip ?_
  simp only [zz6, Nat.reduceEqDiff, ↓reduceIte]
  refine hK2 _ ?_; try clear hK2 K2
  refine kpA [0, 4, 5] ?_
  refine QX fun K2 hK2 => ?_
  refine Qe ?_
  refine QW F_mixed [some 14, some 15, some 16, some 17, some 18, some 19, some 20, some 21, some 4] rfl ?_
  simp only [zzK, Nat.reduceLT, Nat.reduceLeDiff, Nat.reduceBEq, QZ, Qf, zz23, zz24, F_sl25, F_sz3, QA, zzC, yyE, reduceCtorEq, F_ok3, F_ag3, zz8, zzD, Nat.reduceAdd, QH, zzH, Qb, Qc, F_sl86, F_zero89, F_sz89, zz3, newRow1, zz1, zzG, maxLen_le, Nat.reduceMul, F_by89, zz4, zz9, QB, QY, ints, grow, wideA, wideC, getD_mid, len_map, lt_mid, ge_mid, zz6, Nat.reduceEqDiff, ↓reduceIte]
  refine call_go F_go42 (fun hG => Of_ x hx.1 hx.2) (by simp [QL, QK, wideA, wideC]) (by simp) ?_
  simp only [zzK, Nat.reduceLT, Nat.reduceLeDiff, Nat.reduceBEq, QZ, Qf, zz23, zz24, F_sl25, F_sz3, QA, zzC, yyE, reduceCtorEq, F_ok3, F_ag3, zz8, zzD, Nat.reduceAdd, QH, zzH, Qb, Qc, F_sl86, F_zero89, F_sz89, zz3, newRow1, zz1, zzG, maxLen_le, Nat.reduceMul, F_by89, zz4, zz9, QB, QY, ints, grow, wideA, wideC, getD_mid, len_map, lt_mid, ge_mid, zz6, Nat.reduceEqDiff, ↓reduceIte, atsL, oksG, freeN, AV.ren, AV.renL, addRows, ORow.row, Nat.reduceMul, Nat.reduceAdd, unDs_cons, QB, QA, S_mem, yyF, QF, zz2]
  have hm : pre.length + 1 ≤ 1000000 := by simp at hl; omega
  refine ⟨by rw [maxLen_le _ hm]; trivial, by omega, ?_⟩
  clear hm
  refine hK2 _ ?_; try clear hK2 K2
  refine kpA [0, 4, 5] ?_
  refine QW F_mixed [some 12, some 13, some 5] rfl ?_
  simp only [zzK, Nat.reduceLT, Nat.reduceLeDiff, Nat.reduceBEq, QZ, zz21, gr_v, zz26, QY, zz6, Nat.reduceEqDiff, ↓reduceIte]
  refine ⟨post.length, _, by simp, le_SK (fun _ => 21) [] rfl (l' := [(0, .d (ints (pre ++ x :: post))), (4, .ref 4 (pre ++ [x]).length), (5, .d (iv (pre ++ [x]).length))]) (m' := [(4, grow 89 2 4 ((pre ++ [x]).map wideC))]) ?_ ?_ ?_ ?_, pre ++ [x], post, by simp, rfl, rfl⟩
  ·simp only [leV, Qa, Nat.reduceBEq, cond_true, cond_false, ints, wrap_len pre x (by simp at hl; omega)]
   refine ⟨VLe.data_ _, ?_, VLe.data_ _, trivial⟩
   rw [show pre.length + 1 = (pre ++ [x]).length from by simp]; exact VLe.ref_ (f := fun _ => 21) (r := 4) (by simp)
  ·refine ⟨fun _ => ⟨_, rfl, RowLe.data_ (by simp [wideC])⟩, fun h => by simp at h, trivial⟩
  ·simp [wfV, QL, lookR, grow]
  ·exact ⟨wf_data _ _, trivial⟩
 ·intro hb
  obtain rfl := none_of hb; clear hb
  simp only [QG] at hl hall ⊢
  have hfit := fits_small hall hl
  refine awp_exit ?_
  simp only [zz6, Nat.reduceEqDiff, ↓reduceIte]
  refine hK0 _ ?_; try clear hK0 K0
  refine kpA [4] ?_
  refine QX fun K0 hK0 => ?_
  refine QW F_mixed [some 23, some 24, some 22, some 25, some 26, some 6, none, some 7] rfl ?_
  simp only [zzK, Nat.reduceLT, Nat.reduceLeDiff, Nat.reduceBEq, QZ, Qb, Qc, zz14, zzD, Nat.reduceAdd, QH, zz32, newRow1, F_zero89, zzC, QA, yyE, reduceCtorEq, zzH, zz10, zz18, F_ok89, F_sz89, splice, QG, zz1, zzG, QY, wides, wideA, len_map, grow, zz6, Nat.reduceEqDiff, ↓reduceIte]
  refine call_go F_go43 (fun hG => WSum_ pre hl (fun x hx => ⟨by have := (hall x hx).1; omega, by have := (hall x hx).2; omega⟩)) (by simp [QL, QK, wideA]) (by simp) ?_
  simp only [zzK, Nat.reduceLT, Nat.reduceLeDiff, Nat.reduceBEq, QZ, Qb, Qc, zz14, zzD, Nat.reduceAdd, QH, zz32, newRow1, F_zero89, zzC, QA, yyE, reduceCtorEq, zzH, zz10, zz18, F_ok89, F_sz89, splice, QG, zz1, zzG, QY, wides, wideA, len_map, grow, zz6, Nat.reduceEqDiff, ↓reduceIte, atsL, oksG, freeN, AV.ren, AV.renL, addRows, ORow.row, Nat.reduceMul, Nat.reduceAdd, zz9, QB, QA, S_mem, yyF, QF, zz2]
  refine hK0 _ ?_; try clear hK0 K0
  refine kpA [6, 7] ?_
  refine QX fun K0 hK0 => ?_
  refine QX fun K1 hK1 => ?_
  refine QW F_mixed [some 27, some 28] rfl ?_
  simp only [zzK, Nat.reduceLT, Nat.reduceLeDiff, Nat.reduceBEq, QZ, zz29, gr_v, zz30, zz6, Nat.reduceEqDiff, ↓reduceIte]
  refine hK1 _ ?_; try clear hK1 K1
  refine kpA [6, 28] ?_
  refine cnA ?_ ?_
  ·intro hb
   simp [hfit] at hb
  ·intro hb
   clear hb
   refine awp_skip ?_
   simp only [zz6, Nat.reduceEqDiff, ↓reduceIte]
   refine hK0 _ ?_; try clear hK0 K0
   refine kpA [6] ?_
   refine QX fun K0 hK0 => ?_
   refine QW F_mixed [some 29, some 30, some 31, some 32, some 2, some 3] rfl ?_
   simp only [zzK, Nat.reduceLT, Nat.reduceLeDiff, Nat.reduceBEq, F_ok89, F_ag89, F_sz89, zz8, zz23, zzD, Nat.reduceAdd, QH, zzH, zzC, QA, yyE, reduceCtorEq, Qb, Qc, zz14, QY, hfit, wideC, wideA, QJ, zz6, Nat.reduceEqDiff, ↓reduceIte]
   refine call_go F_go44 (fun hG => Int_ pre.sum) (by simp [QL, QK, wideC, wideA]) (by simp) ?_
   simp only [zzK, Nat.reduceLT, Nat.reduceLeDiff, Nat.reduceBEq, F_ok89, F_ag89, F_sz89, zz8, zz23, zzD, Nat.reduceAdd, QH, zzH, zzC, QA, yyE, reduceCtorEq, Qb, Qc, zz14, QY, hfit, wideC, wideA, QJ, zz6, Nat.reduceEqDiff, ↓reduceIte, atsL, oksG, freeN, AV.ren, AV.renL, addRows, ORow.row, Nat.reduceMul, Nat.reduceAdd, zz9, QB, QA, S_mem, yyF, QF, zz2]
   refine hK0 _ ?_; try clear hK0 K0
   refine kpA [2, 3] ?_
   refine awp_ret ?_
   simp only [zz6, Nat.reduceEqDiff, ↓reduceIte]
   refine dnA ?_
   simp only [QD, QE, resA, Qi, Nat.reduceLT, Nat.reduceLeDiff, Qa, Nat.reduceBEq, cond_true, cond_false, resAll]
   simp only [QG]
theorem rMay_ (l : List LegV) (hl : l.length ≤ 1000000) : ACalls Try.prog 35 [legs l] [] (bv (l.all legOk)) := by
 refine acalls_S (rs := [.tmp 2]) Try.func35 rfl rfl 26 [(0, .d (legs l))] rfl (by simp) rfl ?_
 refine QX fun K0 hK0 => ?_
 refine QW F_mixed [some 2] rfl ?_
 simp only [zzK, Nat.reduceLT, Nat.reduceLeDiff, Nat.reduceBEq, QY, zz6, Nat.reduceEqDiff, ↓reduceIte]
 refine hK0 _ ?_; try clear hK0 K0
 refine kpA [0] ?_
 refine QX fun K0 hK0 => ?_
 refine QX fun K1 hK1 => ?_
 refine QW F_mixed [some 3] rfl ?_
 simp only [zzK, Nat.reduceLT, Nat.reduceLeDiff, Nat.reduceBEq, QY, zz6, Nat.reduceEqDiff, ↓reduceIte]
 refine hK1 _ ?_; try clear hK1 K1
 refine kpA [0, 3] ?_
 refine Qe ?_
 refine awp_loop (fun m s => ∃ pre post : List LegV, l = pre ++ post ∧ pre.all legOk = true ∧ m = post.length ∧ s = S 26 [(0, .d (legs l)), (3, .d (iv pre.length))] []) l.length _ (le_SK id [] rfl (l' := [(0, .d (legs l)), (3, .d (iv ([] : List LegV).length))]) (m' := []) ?_ ?_ ?_ ?_) ⟨[], l, rfl, rfl, rfl, rfl⟩ ?_
 ·simp only [leV, Qa, Nat.reduceBEq, cond_true, cond_false, legs, len_map]; exact ⟨QM _, QM _, trivial⟩
 ·exact trivial
 ·simp [wfV, QL, QK, lookR]
 ·simp [wfR, QK, QL]
 rintro m s ⟨pre, post, rfl, hp, rfl, rfl⟩
 refine QX fun K2 hK2 => ?_
 refine QX fun K3 hK3 => ?_
 refine QW F_mixed [some 4, some 5, some 6, some 7] rfl ?_
 simp only [zzK, Nat.reduceLT, Nat.reduceLeDiff, Nat.reduceBEq, QZ, Qb, zz12, F_sl26, Option.isSome_some, zz21, gr_v, zz22, legs, len_map, zz6, Nat.reduceEqDiff, ↓reduceIte]
 refine hK3 _ ?_; try clear hK3 K3
 refine kpA [0, 3, 7] ?_
 refine cnA ?_ ?_
 ·intro hb
  obtain ⟨x, post, rfl⟩ := more_of hb; clear hb
  refine awp_skip ?_
  simp only [zz6, Nat.reduceEqDiff, ↓reduceIte]
  refine hK2 _ ?_; try clear hK2 K2
  refine kpA [0, 3] ?_
  refine QX fun K2 hK2 => ?_
  refine Qe ?_
  refine QX fun K3 hK3 => ?_
  refine QW F_mixed [some 10, some 11, some 12, some 13, some 14, some 15, some 16, some 17, some 18, some 19, some 20, some 21, some 22, some 23, some 24, some 25] rfl ?_
  simp only [zzK, Nat.reduceLT, Nat.reduceLeDiff, Nat.reduceBEq, Nat.reduceSub, Qi, zz5, and_imp, imp_and, imp_self, QZ, Qf, zz23, zz24, F_sl26, F_sz34, QA, zzC, yyE, reduceCtorEq, zz19, F_off34_0, zzH, QH, Nat.reduceAdd, F_ok32, F_ag32, F_sz32, zz8, zzD, Qb, Qc, zz29, gr_v, zz30, F_off34_1, F_ok3, F_ag3, F_sz3, zz13, pickK_l, pickK_r, legs, legC, acC, getD_mid, len_map, lt_mid, ge_mid, QJ, zz6, Nat.reduceEqDiff, ↓reduceIte]
  refine call_go F_go38 (fun hG => rAcRight_ x.ac) (by simp [QL, QK]) (by simp) ?_
  simp only [zzK, Nat.reduceLT, Nat.reduceLeDiff, Nat.reduceBEq, Nat.reduceSub, Qi, zz5, and_imp, imp_and, imp_self, QZ, Qf, zz23, zz24, F_sl26, F_sz34, QA, zzC, yyE, reduceCtorEq, zz19, F_off34_0, zzH, QH, Nat.reduceAdd, F_ok32, F_ag32, F_sz32, zz8, zzD, Qb, Qc, zz29, gr_v, zz30, F_off34_1, F_ok3, F_ag3, F_sz3, zz13, pickK_l, pickK_r, legs, legC, acC, getD_mid, len_map, lt_mid, ge_mid, QJ, zz6, Nat.reduceEqDiff, ↓reduceIte, atsL, oksG, freeN, AV.ren, AV.renL, addRows, ORow.row, Nat.reduceMul, Nat.reduceAdd, zz9, QB, QA, S_mem, yyF, QF, zz2]
  refine call_go F_go39 (fun hG => rRight_ x.amt) (by simp [QL, QK]) (by simp) ?_
  simp only [zzK, Nat.reduceLT, Nat.reduceLeDiff, Nat.reduceBEq, Nat.reduceSub, Qi, zz5, and_imp, imp_and, imp_self, QZ, Qf, zz23, zz24, F_sl26, F_sz34, QA, zzC, yyE, reduceCtorEq, zz19, F_off34_0, zzH, QH, Nat.reduceAdd, F_ok32, F_ag32, F_sz32, zz8, zzD, Qb, Qc, zz29, gr_v, zz30, F_off34_1, F_ok3, F_ag3, F_sz3, zz13, pickK_l, pickK_r, legs, legC, acC, getD_mid, len_map, lt_mid, ge_mid, QJ, zz6, Nat.reduceEqDiff, ↓reduceIte, atsL, oksG, freeN, AV.ren, AV.renL, addRows, ORow.row, Nat.reduceMul, Nat.reduceAdd, zz9, QB, QA, S_mem, yyF, QF, zz2]
  refine hK3 _ ?_; try clear hK3 K3
  refine kpA [0, 3, 25] ?_
  refine cnA ?_ ?_
  ·intro hb
   have hq : legOk x = false := by
    simp only [legOk]
    cases h1 : acOk x.ac <;> cases h2 : rightN x.amt <;> simp [h1, h2] at hb ⊢
   try clear hb
   refine QX fun K4 hK4 => ?_
   refine QW F_mixed [some 2] rfl ?_
   simp only [zzK, Nat.reduceLT, Nat.reduceLeDiff, Nat.reduceBEq, QY, zz6, Nat.reduceEqDiff, ↓reduceIte]
   refine hK4 _ ?_; try clear hK4 K4
   refine kpA [2] ?_
   refine awp_ret ?_
   simp only [zz6, Nat.reduceEqDiff, ↓reduceIte]
   refine dnA ?_
   simp only [QD, QE, resA, Qi, Nat.reduceLT, Nat.reduceLeDiff, Qa, Nat.reduceBEq, cond_true, cond_false, resAll]
   simp [hq]
  ·intro hb
   have hq : legOk x = true := by
    simp only [legOk]
    cases h1 : acOk x.ac <;> cases h2 : rightN x.amt <;> simp [h1, h2] at hb ⊢
   clear hb
   refine awp_skip ?_
   simp only [zz6, Nat.reduceEqDiff, ↓reduceIte]
   refine hK2 _ ?_; try clear hK2 K2
   refine kpA [0, 3] ?_
   refine QW F_mixed [some 8, some 9, some 3] rfl ?_
   simp only [zzK, Nat.reduceLT, Nat.reduceLeDiff, Nat.reduceBEq, QZ, zz21, gr_v, zz26, QY, zz6, Nat.reduceEqDiff, ↓reduceIte]
   refine ⟨post.length, _, by simp, le_SK id [] rfl (l' := [(0, .d (legs (pre ++ x :: post))), (3, .d (iv (pre ++ [x]).length))]) (m' := []) ?_ ?_ ?_ ?_, pre ++ [x], post, by simp, by simp [hp, hq], rfl, rfl⟩
   ·simp only [leV, Qa, Nat.reduceBEq, cond_true, cond_false, legs, len_map, wrap_len pre x (by simp at hl; omega)]; exact ⟨QM _, QM _, trivial⟩
   ·exact trivial
   ·simp [wfV, QL, QK, lookR]
   ·simp [wfR, QK, QL]
 ·intro hb
  obtain rfl := none_of hb; clear hb
  refine awp_exit ?_
  simp only [zz6, Nat.reduceEqDiff, ↓reduceIte]
  refine hK0 _ ?_; try clear hK0 K0
  refine kpA [] ?_
  refine QX fun K0 hK0 => ?_
  refine QW F_mixed [some 2] rfl ?_
  simp only [zzK, Nat.reduceLT, Nat.reduceLeDiff, Nat.reduceBEq, QY, zz6, Nat.reduceEqDiff, ↓reduceIte]
  refine hK0 _ ?_; try clear hK0 K0
  refine kpA [2] ?_
  refine awp_ret ?_
  simp only [zz6, Nat.reduceEqDiff, ↓reduceIte]
  refine dnA ?_
  simp only [QD, QE, resA, Qi, Nat.reduceLT, Nat.reduceLeDiff, Qa, Nat.reduceBEq, cond_true, cond_false, resAll]
  simp [hp]
theorem rCheck_ (l : List LegV) (hl : l.length ≤ 1000000) : ACalls Try.prog 17 [legs l] [] (.d (iv (chkE l))) := by
 refine acalls_S (rs := [.tmp 2]) Try.func17 rfl rfl 54 [(0, .d (legs l))] rfl (by simp) rfl ?_
 refine QX fun K0 hK0 => ?_
 refine QW F_mixed [some 2] rfl ?_
 simp only [zzK, Nat.reduceLT, Nat.reduceLeDiff, Nat.reduceBEq, QY, zz6, Nat.reduceEqDiff, ↓reduceIte]
 refine hK0 _ ?_; try clear hK0 K0
 refine kpA [0] ?_
 refine QX fun K0 hK0 => ?_
 refine QX fun K1 hK1 => ?_
 refine QW F_mixed [some 8, some 9, some 10] rfl ?_
 simp only [zzK, Nat.reduceLT, Nat.reduceLeDiff, Nat.reduceBEq, QZ, Qb, zz12, F_sl26, Option.isSome_some, zz21, gr_v, zz34, legs, len_map, zz6, Nat.reduceEqDiff, ↓reduceIte]
 refine hK1 _ ?_; try clear hK1 K1
 refine kpA [0, 10] ?_
 refine cnA ?_ ?_
 ·intro hb
  have e : chkE l = 2 := by rw [chkE, hb]; try rfl
  refine QX fun K2 hK2 => ?_
  refine QW F_mixed [some 2] rfl ?_
  simp only [zzK, Nat.reduceLT, Nat.reduceLeDiff, Nat.reduceBEq, QY, zz6, Nat.reduceEqDiff, ↓reduceIte]
  refine hK2 _ ?_; try clear hK2 K2
  refine kpA [2] ?_
  refine awp_ret ?_
  simp only [zz6, Nat.reduceEqDiff, ↓reduceIte]
  refine dnA ?_
  simp only [QD, QE, resA, Qi, Nat.reduceLT, Nat.reduceLeDiff, Qa, Nat.reduceBEq, cond_true, cond_false, resAll]
  rw [e]
 ·intro hb
  have h1 : ((l.length : Int) == 0) = false := hb
  clear hb
  refine awp_skip ?_
  simp only [zz6, Nat.reduceEqDiff, ↓reduceIte]
  refine hK0 _ ?_; try clear hK0 K0
  refine kpA [0] ?_
  refine QX fun K0 hK0 => ?_
  refine QX fun K1 hK1 => ?_
  refine QW F_mixed [some 11, some 12, some 13] rfl ?_
  simp only [zzK, Nat.reduceLT, Nat.reduceLeDiff, Nat.reduceBEq, QZ, Qb, zz12, F_sl26, Option.isSome_some, zz21, gr_v, zz25, legs, len_map, zz6, Nat.reduceEqDiff, ↓reduceIte]
  refine hK1 _ ?_; try clear hK1 K1
  refine kpA [0, 13] ?_
  refine cnA ?_ ?_
  ·intro hb
   have e : chkE l = 5 := by rw [chkE, h1, hb]; rfl
   refine QX fun K2 hK2 => ?_
   refine QW F_mixed [some 2] rfl ?_
   simp only [zzK, Nat.reduceLT, Nat.reduceLeDiff, Nat.reduceBEq, QY, zz6, Nat.reduceEqDiff, ↓reduceIte]
   refine hK2 _ ?_; try clear hK2 K2
   refine kpA [2] ?_
   refine awp_ret ?_
   simp only [zz6, Nat.reduceEqDiff, ↓reduceIte]
   refine dnA ?_
   simp only [QD, QE, resA, Qi, Nat.reduceLT, Nat.reduceLeDiff, Qa, Nat.reduceBEq, cond_true, cond_false, resAll]
   rw [e]
  ·intro hb
   have h2 : decide ((l.length : Int) > 64) = false := hb
   clear hb
   refine awp_skip ?_
   simp only [zz6, Nat.reduceEqDiff, ↓reduceIte]
   refine hK0 _ ?_; try clear hK0 K0
   refine kpA [0] ?_
   refine QX fun K0 hK0 => ?_
   refine QX fun K1 hK1 => ?_
   refine QW F_mixed [some 14, some 15, some 16] rfl ?_
   simp only [zzK, Nat.reduceLT, Nat.reduceLeDiff, Nat.reduceBEq, QZ, Qb, Qc, zz29, gr_v, zz30, legs, zz6, Nat.reduceEqDiff, ↓reduceIte]
   refine call_go F_go35 (fun hG => rMay_ l hl) (by simp [QL, QK]) (by simp) ?_
   simp only [zzK, Nat.reduceLT, Nat.reduceLeDiff, Nat.reduceBEq, QZ, Qb, Qc, zz29, gr_v, zz30, legs, zz6, Nat.reduceEqDiff, ↓reduceIte, atsL, oksG, freeN, AV.ren, AV.renL, addRows, ORow.row, Nat.reduceMul, Nat.reduceAdd, zz9, QB, QA, zzC, yyF, zzD, zz2]
   refine hK1 _ ?_; try clear hK1 K1
   refine kpA [0, 16] ?_
   refine cnA ?_ ?_
   ·intro hb
    have h3 : l.all legOk = false := by simpa using hb
    have e : chkE l = 3 := by rw [chkE, h1, h2, h3]; rfl
    refine QX fun K2 hK2 => ?_
    refine QW F_mixed [some 2] rfl ?_
    simp only [zzK, Nat.reduceLT, Nat.reduceLeDiff, Nat.reduceBEq, QY, zz6, Nat.reduceEqDiff, ↓reduceIte]
    refine hK2 _ ?_; try clear hK2 K2
    refine kpA [2] ?_
    refine awp_ret ?_
    simp only [zz6, Nat.reduceEqDiff, ↓reduceIte]
    refine dnA ?_
    simp only [QD, QE, resA, Qi, Nat.reduceLT, Nat.reduceLeDiff, Qa, Nat.reduceBEq, cond_true, cond_false, resAll]
    rw [e]
   ·intro hb
    have h3 : l.all legOk = true := by simpa using hb
    clear hb
    refine awp_skip ?_
    simp only [zz6, Nat.reduceEqDiff, ↓reduceIte]
    refine hK0 _ ?_; try clear hK0 K0
    refine kpA [0] ?_
    refine QX fun K0 hK0 => ?_
    refine QX fun K1 hK1 => ?_
    refine QW F_mixed [some 3] rfl ?_
    simp only [zzK, Nat.reduceLT, Nat.reduceLeDiff, Nat.reduceBEq, QY, zz6, Nat.reduceEqDiff, ↓reduceIte]
    refine hK1 _ ?_; try clear hK1 K1
    refine kpA [0, 3] ?_
    refine Qe ?_
    refine awp_loop (fun m s => ∃ c : Nat, c ≤ 3 ∧ (∀ k : Nat, k < c → chkC (k : Int) l = false) ∧ m = 3 - c ∧ s = S 54 [(0, .d (legs l)), (3, .d (iv c))] []) 3 _ (le_SK id [] rfl (l' := [(0, .d (legs l)), (3, .d (iv ((0 : Nat) : Int)))]) (m' := []) ?_ ?_ ?_ ?_) ⟨0, by omega, fun k hk => by omega, rfl, rfl⟩ ?_
    ·simp only [leV, Qa, Nat.reduceBEq, cond_true, cond_false, legs]; exact ⟨QM _, QM _, trivial⟩
    ·trivial
    ·simp [wfV, QL, lookR]
    ·trivial
    rintro m s ⟨c, hc3, hck, rfl, rfl⟩
    refine QX fun K2 hK2 => ?_
    refine QX fun K3 hK3 => ?_
    refine QW F_mixed [some 17, some 18] rfl ?_
    simp only [zzK, Nat.reduceLT, Nat.reduceLeDiff, Nat.reduceBEq, QZ, zz21, gr_v, zz22, zz6, Nat.reduceEqDiff, ↓reduceIte]
    refine hK3 _ ?_; try clear hK3 K3
    refine kpA [0, 3, 18] ?_
    refine cnA ?_ ?_
    ·intro hb
     have hlt : c < 3 := by have := of_decide_eq_true hb; omega
     clear hb
     have hwc : IntKind.wrap .i64 ((c : Int) + 1) = ((c + 1 : Nat) : Int) := by rw [wrapI (by omega) (by omega)]; try omega
     refine awp_skip ?_
     simp only [zz6, Nat.reduceEqDiff, ↓reduceIte]
     refine hK2 _ ?_; try clear hK2 K2
     refine kpA [0, 3] ?_
     refine QX fun K2 hK2 => ?_
     refine Qe ?_
     refine QX fun K3 hK3 => ?_
     refine QW F_mixed [some 4] rfl ?_
     simp only [zzK, Nat.reduceLT, Nat.reduceLeDiff, Nat.reduceBEq, QY, zz6, Nat.reduceEqDiff, ↓reduceIte]
     refine hK3 _ ?_; try clear hK3 K3
     refine kpA [0, 3, 4] ?_
     refine QX fun K3 hK3 => ?_
     refine QX fun K4 hK4 => ?_
     refine QW F_mixed [some 5] rfl ?_
     simp only [zzK, Nat.reduceLT, Nat.reduceLeDiff, Nat.reduceBEq, QY, zz6, Nat.reduceEqDiff, ↓reduceIte]
     refine hK4 _ ?_; try clear hK4 K4
     refine kpA [0, 3, 4, 5] ?_
     refine Qe ?_
     refine awp_loop (fun m s => ∃ pre post : List LegV, l = pre ++ post ∧ m = post.length ∧ s = S 54 [(0, .d (legs l)), (3, .d (iv c)), (4, .ref 4 (amts (curL (c : Int) pre)).length), (5, .d (iv (pre).length))] [(4, grow 3 1 4 ((amts (curL (c : Int) pre)).map fun n => [iv n]))]) l.length _ (le_SK id [4] rfl (l' := [(0, .d (legs l)), (3, .d (iv c)), (4, .ref 4 (amts (curL (c : Int) ([] : List LegV))).length), (5, .d (iv (([] : List LegV)).length))]) (m' := [(4, grow 3 1 4 ((amts (curL (c : Int) ([] : List LegV))).map fun n => [iv n]))]) ?_ ?_ ?_ ?_) ⟨[], l, rfl, rfl, rfl⟩ ?_
     ·simp only [leV, Qa, Nat.reduceBEq, cond_true, cond_false, legs, len_map]; exact ⟨QN rfl, QN rfl, QP (by decide), QN rfl, trivial⟩
     ·exact ⟨fun h => by simp at h, fun _ => rfl, trivial⟩
     ·simp [wfV, QL, lookR]
     ·simp [wfR, grow, amts, curL, QK, QL]
     rintro m s ⟨pre, post, hsp, rfl, rfl⟩
     have hspl := congrArg List.length hsp
     simp only [QC] at hspl
     refine QX fun K5 hK5 => ?_
     refine QX fun K6 hK6 => ?_
     refine QW F_mixed [some 21, some 22, some 23, some 24] rfl ?_
     simp only [zzK, Nat.reduceLT, Nat.reduceLeDiff, Nat.reduceBEq, QZ, Qb, zz12, F_sl26, Option.isSome_some, zz21, gr_v, zz22, legs, len_map, zz6, Nat.reduceEqDiff, ↓reduceIte]
     refine hK6 _ ?_; try clear hK6 K6
     refine kpA [0, 3, 4, 5, 24] ?_
     refine cnA ?_ ?_
     ·intro hb
      obtain ⟨x, post, rfl⟩ : ∃ x t, post = x :: t := by
       cases post with
       | nil => have := of_decide_eq_true hb; simp at hspl; omega
       | cons x t => exact ⟨x, t, rfl⟩
      clear hb
      simp only [QF] at hspl
      have gx : (l.map legC).getD pre.length [] = [iv x.ac.kind, iv x.ac.who, iv x.ac.cur, iv x.amt] := by
       rw [hsp, List.map_append]; exact gd_mid' (A := pre.map legC) _ _ (by simp)
      have b1 := ltI (show pre.length < l.length by omega)
      have hwi : IntKind.wrap .i64 ((pre.length : Int) + 1) = ((pre.length + 1 : Nat) : Int) := by rw [wrapI (by omega) (by omega)]; try omega
      have hcf : (curL (c : Int) pre).length ≤ pre.length := List.length_filter_le _ _
      have hca : (amts (curL (c : Int) pre)).length = (curL (c : Int) pre).length := by simp [amts]
      refine awp_skip ?_
      simp only [zz6, Nat.reduceEqDiff, ↓reduceIte]
      refine hK5 _ ?_; try clear hK5 K5
      refine kpA [0, 3, 4, 5] ?_
      refine QX fun K5 hK5 => ?_
      refine Qe ?_
      refine QX fun K6 hK6 => ?_
      refine QW F_mixed [some 27, some 28, some 29, some 30, some 31, some 32, some 33, some 34] rfl ?_
      simp only [zzK, Nat.reduceLT, Nat.reduceLeDiff, Nat.reduceBEq, QZ, Qf, zz23, zz24, F_sl26, F_sz34, QA, zzC, yyE, reduceCtorEq, zz19, F_off34_0, zzH, QH, Nat.reduceAdd, F_off32_2, F_ok3, F_ag3, F_sz3, zz8, zzD, zz21, gr_v, zz34, legs, legC, len_map, gx, b1, ge0, QI, QJ, zz6, Nat.reduceEqDiff, ↓reduceIte]
      refine hK6 _ ?_; try clear hK6 K6
      refine kpA [0, 3, 4, 5, 34] ?_
      refine cnA ?_ ?_
      ·intro hb
       have hcq : (x.ac.cur == (c : Int)) = true := hb
       clear hb
       have hcx : curL (c : Int) (pre ++ [x]) = curL (c : Int) pre ++ [x] := by simp only [curL, List.filter_append, List.filter_cons, hcq, List.filter_nil, if_true]
       have hcl : (amts (curL (c : Int) pre ++ [x])).length = (amts (curL (c : Int) pre)).length + 1 := by simp [amts]
       refine QW F_mixed [some 35, some 36, some 37, some 38, some 39, some 40, some 41, some 42, some 4] rfl ?_
       simp only [zzK, Nat.reduceLT, Nat.reduceLeDiff, Nat.reduceBEq, QZ, Qf, zz23, zz24, F_sl26, F_sz34, QA, zzC, yyE, reduceCtorEq, zz19, F_off34_1, zzH, QH, Nat.reduceAdd, F_ok3, F_ag3, F_sz3, zz8, zzD, F_sl25, F_zero3, zz3, newRow1, zz1, zzG, maxLen_le, Nat.reduceMul, Qb, F_by3, zz4, zz9, QB, QY, legs, len_map, gx, b1, ge0, QI, QJ, grow, unDs_map, zz6, Nat.reduceEqDiff, ↓reduceIte]
       have hm : (amts (curL (c : Int) pre)).length + 1 ≤ 1000000 := by omega
       first | refine ⟨le_maxLen hm, by omega, ?_⟩ | refine ⟨by simp [amts], le_maxLen hm, by omega, ?_⟩
       clear hm
       refine hK5 _ ?_; try clear hK5 K5
       refine kpA [0, 3, 4, 5] ?_
       refine QW F_mixed [some 25, some 26, some 5] rfl ?_
       simp only [zzK, Nat.reduceLT, Nat.reduceLeDiff, Nat.reduceBEq, QZ, zz21, gr_v, zz26, QY, zz6, Nat.reduceEqDiff, ↓reduceIte]
       refine ⟨post.length, _, by simp, le_SK (fun r => bif r == 4 then 42 else r) [] rfl (l' := [(0, .d (legs l)), (3, .d (iv c)), (4, .ref 4 (amts (curL (c : Int) (pre ++ [x]))).length), (5, .d (iv ((pre ++ [x])).length))]) (m' := [(4, grow 3 1 4 ((amts (curL (c : Int) (pre ++ [x]))).map fun n => [iv n]))]) ?_ ?_ ?_ ?_, pre ++ [x], post, by rw [hsp]; simp, rfl, rfl⟩
       ·simp only [leV, Qa, Nat.reduceBEq, cond_true, cond_false, hwi, hcx, QC, List.length_singleton]
        refine ⟨QN rfl, QN rfl, ?_, QN rfl, trivial⟩
        rw [hcl]; exact VLe.ref_ (f := (fun r => bif r == 4 then 42 else r)) (r := 4) (by simp)
       ·exact ⟨fun _ => ⟨_, rfl, RowLe.data_ (by rw [hcx] <;> simp [amts])⟩, fun h => by simp at h, trivial⟩
       ·simp [wfV, QL, lookR, grow]
       ·exact ⟨wf_data _ _, trivial⟩
      ·intro hb
       have hcq : (x.ac.cur == (c : Int)) = false := hb
       clear hb
       have hcx : curL (c : Int) (pre ++ [x]) = curL (c : Int) pre := by simp only [curL, List.filter_append, List.filter_cons, hcq, List.filter_nil, QG, Bool.false_eq_true, if_false]
       have hcl : (amts (curL (c : Int) pre)).length = (amts (curL (c : Int) pre)).length := rfl
       refine awp_skip ?_
       simp only [zz6, Nat.reduceEqDiff, ↓reduceIte]
       refine hK5 _ ?_; try clear hK5 K5
       refine kpA [0, 3, 4, 5] ?_
       refine QW F_mixed [some 25, some 26, some 5] rfl ?_
       simp only [zzK, Nat.reduceLT, Nat.reduceLeDiff, Nat.reduceBEq, QZ, zz21, gr_v, zz26, QY, zz6, Nat.reduceEqDiff, ↓reduceIte]
       refine ⟨post.length, _, by simp, le_SK (fun r => bif r == 4 then 4 else r) [] rfl (l' := [(0, .d (legs l)), (3, .d (iv c)), (4, .ref 4 (amts (curL (c : Int) (pre ++ [x]))).length), (5, .d (iv ((pre ++ [x])).length))]) (m' := [(4, grow 3 1 4 ((amts (curL (c : Int) (pre ++ [x]))).map fun n => [iv n]))]) ?_ ?_ ?_ ?_, pre ++ [x], post, by rw [hsp]; simp, rfl, rfl⟩
       ·simp only [leV, Qa, Nat.reduceBEq, cond_true, cond_false, hwi, hcx, QC, List.length_singleton]
        refine ⟨QN rfl, QN rfl, ?_, QN rfl, trivial⟩
        rw [hcl]; exact VLe.ref_ (f := (fun r => bif r == 4 then 4 else r)) (r := 4) (by simp)
       ·exact ⟨fun _ => ⟨_, rfl, RowLe.data_ (by rw [hcx] <;> simp [amts])⟩, fun h => by simp at h, trivial⟩
       ·simp [wfV, QL, lookR, grow]
       ·exact ⟨wf_data _ _, trivial⟩
     ·intro hb
      obtain rfl : post = [] := by
       cases post with
       | nil => rfl
       | cons x t => have := of_decide_eq_false hb; simp at hspl; omega
      clear hb
      simp only [QG] at hsp
      obtain rfl : l = pre := hsp
      have hcf : (curL (c : Int) l).length ≤ l.length := List.length_filter_le _ _
      have hca : (amts (curL (c : Int) l)).length = (curL (c : Int) l).length := by simp [amts]
      refine awp_exit ?_
      simp only [zz6, Nat.reduceEqDiff, ↓reduceIte]
      refine hK3 _ ?_; try clear hK3 K3
      refine kpA [0, 3, 4] ?_
      refine QX fun K3 hK3 => ?_
      refine QW F_mixed [some 44, some 45, some 43, some 46, some 47, some 6, some 7] rfl ?_
      simp only [zzK, Nat.reduceLT, Nat.reduceLeDiff, Nat.reduceBEq, QZ, Qb, Qc, zz14, zzD, Nat.reduceAdd, QH, zzF, QY, ints, grow, D.sl.injEq, len_map, zz6, Nat.reduceEqDiff, ↓reduceIte]
      refine call_go F_go23 (fun hG => Add_ (amts (curL (c : Int) l)) (by omega) (rt_bound (amts_rt fun y hy => ok_rt h3 y (List.mem_filter.1 hy).1))) (by simp [QL, QK]) (by simp) ?_
      simp only [zzK, Nat.reduceLT, Nat.reduceLeDiff, Nat.reduceBEq, QZ, Qb, Qc, zz14, zzD, Nat.reduceAdd, QH, zzF, QY, ints, grow, len_map, zz6, Nat.reduceEqDiff, ↓reduceIte, atsL, oksG, freeN, AV.ren, AV.renL, addRows, ORow.row, Nat.reduceMul, Nat.reduceAdd, zz9, QB, QA, zzC, yyF, QF, zz2]
      first | refine ⟨by simp [amts], ?_⟩ | skip
      refine hK3 _ ?_; try clear hK3 K3
      refine kpA [0, 3, 6, 7] ?_
      refine QX fun K3 hK3 => ?_
      refine QW F_mixed [some 48, some 49, some 50, some 51, some 52, some 53] rfl ?_
      simp only [zzK, Nat.reduceLT, Nat.reduceLeDiff, Nat.reduceBEq, Nat.reduceSub, Qi, zz5, and_imp, imp_and, imp_self, and_self, QZ, zz29, gr_v, zz30, zz21, zz28, zz13, pickK_l, pickK_r, zz6, Nat.reduceEqDiff, ↓reduceIte]
      refine hK3 _ ?_; try clear hK3 K3
      refine kpA [0, 3, 53] ?_
      refine cnA ?_ ?_
      ·intro hb
       have hcc : chkC (c : Int) l = true := by
        rw [chkC_ref h3]
        revert hb
        cases rightN (amts (curL (c : Int) l)).sum <;> simp
       clear hb
       have e : chkE l = 12 := by
        rw [chkE, h1, h2, h3]
        have : c = 0 ∨ c = 1 ∨ c = 2 := by omega
        rcases this with rfl | rfl | rfl
        ·rw [show chkC 0 l = true from hcc]; rfl
        ·rw [show chkC 1 l = true from hcc]; cases chkC 0 l <;> rfl
        ·rw [show chkC 2 l = true from hcc]; cases chkC 0 l <;> cases chkC 1 l <;> rfl
       refine QX fun K4 hK4 => ?_
       refine QW F_mixed [some 2] rfl ?_
       simp only [zzK, Nat.reduceLT, Nat.reduceLeDiff, Nat.reduceBEq, QY, zz6, Nat.reduceEqDiff, ↓reduceIte]
       refine hK4 _ ?_; try clear hK4 K4
       refine kpA [2] ?_
       refine awp_ret ?_
       simp only [zz6, Nat.reduceEqDiff, ↓reduceIte]
       refine dnA ?_
       simp only [QD, QE, resA, Qi, Nat.reduceLT, Nat.reduceLeDiff, Qa, Nat.reduceBEq, cond_true, cond_false, resAll]
       rw [e]
      ·intro hb
       have hcc : chkC (c : Int) l = false := by
        rw [chkC_ref h3]
        revert hb
        cases rightN (amts (curL (c : Int) l)).sum <;> simp
       clear hb
       refine awp_skip ?_
       simp only [zz6, Nat.reduceEqDiff, ↓reduceIte]
       refine hK2 _ ?_; try clear hK2 K2
       refine kpA [0, 3] ?_
       refine QW F_mixed [some 19, some 20, some 3] rfl ?_
       simp only [zzK, Nat.reduceLT, Nat.reduceLeDiff, Nat.reduceBEq, QZ, zz21, gr_v, zz26, QY, hwc, zz6, Nat.reduceEqDiff, ↓reduceIte]
       refine ⟨3 - (c + 1), _, by omega, le_SK id [] rfl (l' := [(0, .d (legs l)), (3, .d (iv ((c + 1 : Nat) : Int)))]) (m' := []) ?_ ?_ ?_ ?_, c + 1, by omega, fun k hk => by
        rcases Nat.lt_succ_iff_lt_or_eq.1 hk with hk | rfl
        ·exact hck k hk
        ·exact hcc, rfl, rfl⟩
       ·simp only [leV, Qa, Nat.reduceBEq, cond_true, cond_false, hwc, legs]; exact ⟨QM _, QM _, trivial⟩
       ·trivial
       ·simp [wfV, QL, lookR]
       ·trivial
    ·intro hb
     obtain rfl : c = 3 := by have := of_decide_eq_false hb; omega
     clear hb
     have e : chkE l = 0 := by
      rw [chkE, h1, h2, h3, show chkC 0 l = false from hck 0 (by omega), show chkC 1 l = false from hck 1 (by omega), show chkC 2 l = false from hck 2 (by omega)]; rfl
     refine awp_exit ?_
     simp only [zz6, Nat.reduceEqDiff, ↓reduceIte]
     refine hK0 _ ?_; try clear hK0 K0
     refine kpA [] ?_
     refine QX fun K0 hK0 => ?_
     refine QW F_mixed [some 2] rfl ?_
     simp only [zzK, Nat.reduceLT, Nat.reduceLeDiff, Nat.reduceBEq, QY, zz6, Nat.reduceEqDiff, ↓reduceIte]
     refine hK0 _ ?_; try clear hK0 K0
     refine kpA [2] ?_
     refine awp_ret ?_
     simp only [zz6, Nat.reduceEqDiff, ↓reduceIte]
     refine dnA ?_
     simp only [QD, QE, resA, Qi, Nat.reduceLT, Nat.reduceLeDiff, Qa, Nat.reduceBEq, cond_true, cond_false, resAll]
     rw [e]
set_option maxRecDepth 100000 in
set_option maxHeartbeats 4000000 in
theorem fundAsks_ (r : RollV) (c amt : Int) (ws : List Int) : ACalls Try.prog 7 [.agg (rollC r), iv c, iv amt, ints ws] [] (bv true) := by
 refine acalls_S (rs := [.tmp 8]) Try.func7 rfl rfl 108 [(0, .d (.agg (rollC r))), (1, .d (iv c)), (2, .d (iv amt)), (3, .d (ints ws))] rfl (by simp) rfl ?_
 refine QX fun K0 hK0 => ?_
 refine QW F_mixed [some 4, some 8] rfl ?_
 simp only [zzK, Nat.reduceLT, Nat.reduceLeDiff, Nat.reduceBEq, zz35, newRow1, zz1, zzG, zzD, zzC, QA, yyE, reduceCtorEq, Nat.reduceAdd, QH, zzH, QY, rollC, memsD, instsD, assetsD, zz6, Nat.reduceEqDiff, ↓reduceIte]
 refine hK0 _ ?_; try clear hK0 K0
 refine kpA [1, 2, 3, 4] ?_
 refine QX fun K0 hK0 => ?_
 refine QX fun K1 hK1 => ?_
 refine QW F_mixed [some 16, some 17, some 18, some 19, some 20, some 21, some 22] rfl ?_
 simp only [zzK, Nat.reduceLT, Nat.reduceLeDiff, Nat.reduceBEq, Nat.reduceSub, Qi, zz5, and_imp, imp_and, imp_self, F_ok45, F_ag45, F_sz45, zz8, zz23, zzD, Nat.reduceAdd, QH, zzH, zzC, QA, yyE, reduceCtorEq, Qb, Qc, QZ, zz12, F_sl25, Option.isSome_some, zz21, gr_v, zz25, zz13, pickK_l, pickK_r, memsD, instsD, assetsD, rollC, QJ, memA, memC, instA, instC, zzG, ints, len_map, zz6, Nat.reduceEqDiff, ↓reduceIte]
 refine call_go F_go13 (fun hG => heavy_ r) (by simp [QL, QK, memA, memC, instA, instC]) (by simp) ?_
 simp only [zzK, Nat.reduceLT, Nat.reduceLeDiff, Nat.reduceBEq, Nat.reduceSub, Qi, zz5, and_imp, imp_and, imp_self, F_ok45, F_ag45, F_sz45, zz8, zz23, zzD, Nat.reduceAdd, QH, zzH, zzC, QA, yyE, reduceCtorEq, Qb, Qc, QZ, zz12, F_sl25, Option.isSome_some, zz21, gr_v, zz25, zz13, pickK_l, pickK_r, memsD, instsD, assetsD, rollC, QJ, memA, memC, instA, instC, zzG, ints, len_map, zz6, Nat.reduceEqDiff, ↓reduceIte, atsL, oksG, freeN, AV.ren, AV.renL, addRows, ORow.row, Nat.reduceMul, Nat.reduceAdd, zz9, QB, QA, S_mem, yyF, QF, zz2]
 refine hK1 _ ?_; try clear hK1 K1
 refine kpA [1, 2, 3, 4, 22] ?_
 refine cnA ?_ ?_
 ·intro hb
  clear hb
  refine QX fun K2 hK2 => ?_
  refine QW F_mixed [some 8] rfl ?_
  simp only [zzK, Nat.reduceLT, Nat.reduceLeDiff, Nat.reduceBEq, QY, zz6, Nat.reduceEqDiff, ↓reduceIte]
  refine hK2 _ ?_; try clear hK2 K2
  refine kpA [8] ?_
  refine awp_ret ?_
  simp only [zz6, Nat.reduceEqDiff, ↓reduceIte]
  refine dnA ?_
  simp only [QD, QE, resA, Qi, Nat.reduceLT, Nat.reduceLeDiff, Qa, Nat.reduceBEq, cond_true, cond_false, resAll]
  
 ·intro hb
  have hb2 : heavy r = false ∧ ws.length ≤ 300 := by
   simp only [Bool.or_eq_false_iff, decide_eq_false_iff_not] at hb
   exact ⟨hb.1, by omega⟩
  clear hb
  obtain ⟨hh, hwl⟩ := hb2
  have hS := small_of hh
  have hvl := aqV_len r c amt ws
  refine awp_skip ?_
  simp only [zz6, Nat.reduceEqDiff, ↓reduceIte]
  refine hK0 _ ?_; try clear hK0 K0
  refine kpA [1, 2, 3, 4] ?_
  refine QX fun K0 hK0 => ?_
  refine QW F_mixed [some 24, some 25, some 26, some 27, some 28, some 23, some 29, some 30, some 9, some 10] rfl ?_
  simp only [zzK, Nat.reduceLT, Nat.reduceLeDiff, Nat.reduceBEq, F_ok45, F_ag45, F_sz45, zz8, zz23, zzD, Nat.reduceAdd, QH, zzH, zzC, QA, yyE, reduceCtorEq, QZ, Qb, Qc, zz14, QY, memsD, instsD, assetsD, rollC, QJ, memA, memC, instA, instC, zzG, ints, zz6, Nat.reduceEqDiff, ↓reduceIte]
  refine call_go F_go15 (fun hG => assessF r c amt ws hS (by omega)) (by simp [QL, QK, memA, memC, instA, instC]) (by simp) ?_
  simp only [zzK, Nat.reduceLT, Nat.reduceLeDiff, Nat.reduceBEq, F_ok45, F_ag45, F_sz45, zz8, zz23, zzD, Nat.reduceAdd, QH, zzH, zzC, QA, yyE, reduceCtorEq, QZ, Qb, Qc, zz14, QY, memsD, instsD, assetsD, rollC, QJ, memA, memC, instA, instC, zzG, ints, zz6, Nat.reduceEqDiff, ↓reduceIte, atsL, oksG, freeN, AV.ren, AV.renL, addRows, ORow.row, Nat.reduceMul, Nat.reduceAdd, zz9, QB, QA, S_mem, yyF, QF, zz2]
  refine hK0 _ ?_; try clear hK0 K0
  refine kpA [1, 2, 4, 9, 10] ?_
  refine QX fun K0 hK0 => ?_
  refine QX fun K1 hK1 => ?_
  refine QW F_mixed [some 31, some 32] rfl ?_
  simp only [zzK, Nat.reduceLT, Nat.reduceLeDiff, Nat.reduceBEq, QZ, zz21, gr_v, zz28, zz6, Nat.reduceEqDiff, ↓reduceIte]
  refine hK1 _ ?_; try clear hK1 K1
  refine kpA [1, 2, 4, 9, 32] ?_
  refine cnA ?_ ?_
  ·intro hb
   have hv0 : aqV r c amt ws = [] := aqV_bad (by simpa using hb)
   clear hb
   refine QX fun K2 hK2 => ?_
   refine QW F_mixed [some 33, some 34, some 35, some 36, some 37, some 38, some 8] rfl ?_
   simp only [zzK, Nat.reduceLT, Nat.reduceLeDiff, Nat.reduceBEq, Nat.reduceSub, Qi, zz5, and_imp, imp_and, imp_self, and_self, QZ, Qb, zz12, F_sl26, Option.isSome_some, zz21, gr_v, zz34, Qc, zz13, pickK_l, pickK_r, QY, legs, len_map, hv0, List.length_nil, zz6, Nat.reduceEqDiff, ↓reduceIte]
   refine call_go F_go9 (fun hG => wakes21_) (by simp [QL, QK]) (by simp) ?_
   simp only [zzK, Nat.reduceLT, Nat.reduceLeDiff, Nat.reduceBEq, Nat.reduceSub, Qi, zz5, and_imp, imp_and, imp_self, and_self, QZ, Qb, zz12, F_sl26, Option.isSome_some, zz21, gr_v, zz34, Qc, zz13, pickK_l, pickK_r, QY, legs, len_map, hv0, zz6, Nat.reduceEqDiff, ↓reduceIte, atsL, oksG, freeN, AV.ren, AV.renL, addRows, ORow.row, Nat.reduceMul, Nat.reduceAdd, zz9, QB, QA, zzC, yyF, zzD, zz2]
   refine hK2 _ ?_; try clear hK2 K2
   refine kpA [8] ?_
   refine awp_ret ?_
   simp only [zz6, Nat.reduceEqDiff, ↓reduceIte]
   refine dnA ?_
   simp only [QD, QE, resA, Qi, Nat.reduceLT, Nat.reduceLeDiff, Qa, Nat.reduceBEq, cond_true, cond_false, resAll]
   try rfl
  ·intro hb
   have he : aqE r c amt ws = 0 := by simpa using hb
   clear hb
   refine awp_skip ?_
   simp only [zz6, Nat.reduceEqDiff, ↓reduceIte]
   refine hK0 _ ?_; try clear hK0 K0
   refine kpA [1, 2, 4, 9] ?_
   refine QX fun K0 hK0 => ?_
   refine QW F_mixed [some 11] rfl ?_
   simp only [zzK, Nat.reduceLT, Nat.reduceLeDiff, Nat.reduceBEq, QY, zz6, Nat.reduceEqDiff, ↓reduceIte]
   refine hK0 _ ?_; try clear hK0 K0
   refine kpA [1, 2, 4, 9, 11] ?_
   refine QX fun K0 hK0 => ?_
   refine QX fun K1 hK1 => ?_
   refine QW F_mixed [some 12] rfl ?_
   simp only [zzK, Nat.reduceLT, Nat.reduceLeDiff, Nat.reduceBEq, QY, zz6, Nat.reduceEqDiff, ↓reduceIte]
   refine hK1 _ ?_; try clear hK1 K1
   refine kpA [1, 2, 4, 9, 11, 12] ?_
   refine Qe ?_
   refine awp_loop (fun m s => ∃ (q : List LegV) (u : List LegV), ((aqV r c amt ws) = q ++ u) ∧ m = u.length ∧ s = S 108 [(1, .d (iv c)), (2, .d (iv amt)), (4, .ptr 4 0 0), (9, .d (legs (aqV r c amt ws))), (11, .d (iv (bS q))), (12, .d (iv q.length))] [(4, (⟨True, 45, 3, true, false, 4, [[.d (.sl 3 (r.mems.map memC)), .d (.sl 12 (r.insts.map instC)), .d (.sl 4 (r.assets.map assetC))]]⟩ : ARow))]) ((aqV r c amt ws).length) _ (le_SK id [] rfl (l' := [(1, .d (iv c)), (2, .d (iv amt)), (4, .ptr 4 0 0), (9, .d (legs (aqV r c amt ws))), (11, .d (iv (bS []))), (12, .d (iv [].length))]) (m' := [(4, (⟨True, 45, 3, true, false, 4, [[.d (.sl 3 (r.mems.map memC)), .d (.sl 12 (r.insts.map instC)), .d (.sl 4 (r.assets.map assetC))]]⟩ : ARow))]) ?_ ?_ ?_ ?_) ⟨[], (aqV r c amt ws), rfl, rfl, rfl⟩ ?_
   ·simp only [leV, Qa, Nat.reduceBEq, cond_true, cond_false]; exact ⟨(by first | exact QN rfl | exact QP (by decide) | exact QO | exact QM _ | exact QR (by simp) (by rfl) | exact QQ (by simp) (by rfl) (by first | rfl | (simp; done) | (simp; omega)) | exact QS (by first | rfl | simp)), (by first | exact QN rfl | exact QP (by decide) | exact QO | exact QM _ | exact QR (by simp) (by rfl) | exact QQ (by simp) (by rfl) (by first | rfl | (simp; done) | (simp; omega)) | exact QS (by first | rfl | simp)), (by first | exact QN rfl | exact QP (by decide) | exact QO | exact QM _ | exact QR (by simp) (by rfl) | exact QQ (by simp) (by rfl) (by first | rfl | (simp; done) | (simp; omega)) | exact QS (by first | rfl | simp)), (by first | exact QN rfl | exact QP (by decide) | exact QO | exact QM _ | exact QR (by simp) (by rfl) | exact QQ (by simp) (by rfl) (by first | rfl | (simp; done) | (simp; omega)) | exact QS (by first | rfl | simp)), (QS rfl), (by first | exact QN rfl | exact QP (by decide) | exact QO | exact QM _ | exact QR (by simp) (by rfl) | exact QQ (by simp) (by rfl) (by first | rfl | (simp; done) | (simp; omega)) | exact QS (by first | rfl | simp)), trivial⟩
   ·exact ⟨fun _ => ⟨_, rfl, (by first | exact QU (by simp [QK, QL]) | exact RowLe.same (by simp) (by simp [QK, QL]))⟩, fun h => by simp at h, trivial⟩
   ·simp [wfV, QL, QK, lookR, grow]
   ·exact ⟨by simp [QK, QL, lookR], trivial⟩
   rintro m s ⟨q, u, hsq, rfl, rfl⟩
   have hsql := congrArg List.length hsq
   simp only [QC] at hsql
   refine QX fun K2 hK2 => ?_
   refine QX fun K3 hK3 => ?_
   refine QW F_mixed [some 39, some 40, some 41, some 42] rfl ?_
   simp only [zzK, Nat.reduceLT, Nat.reduceLeDiff, Nat.reduceBEq, QZ, Qb, zz12, F_sl26, Option.isSome_some, zz21, gr_v, zz22, legs, len_map, zz6, Nat.reduceEqDiff, ↓reduceIte]
   refine hK3 _ ?_; try clear hK3 K3
   refine kpA [1, 2, 4, 9, 11, 12, 42] ?_
   refine cnA ?_ ?_
   ·intro hb
    obtain ⟨z, u2, rfl⟩ : ∃ x t, u = x :: t := by
     cases u with
     | nil => have := of_decide_eq_true hb; simp at hsql; omega
     | cons x t => exact ⟨x, t, rfl⟩
    clear hb
    simp only [QF] at hsql
    have gz : ((aqV r c amt ws).map legC).getD q.length [] = [iv z.ac.kind, iv z.ac.who, iv z.ac.cur, iv z.amt] := by
     rw [hsq, List.map_append]; exact gd_mid' (A := q.map legC) _ _ (by simp)
    have bz := ltI (show q.length < (aqV r c amt ws).length by omega)
    have hwz : IntKind.wrap .i64 ((q.length : Int) + 1) = ((q ++ [z]).length : Int) := by rw [wrapI (by omega) (by omega)]; simp
    have hzm : z ∈ (aqV r c amt ws) := by rw [hsq]; simp
    obtain ⟨hs6, hs3⟩ := aS_step he hsq
    have hzl := as_leg he hzm
    refine awp_skip ?_
    simp only [zz6, Nat.reduceEqDiff, ↓reduceIte]
    refine hK2 _ ?_; try clear hK2 K2
    refine kpA [1, 2, 4, 9, 11, 12] ?_
    refine QX fun K2 hK2 => ?_
    refine Qe ?_
    refine QX fun K3 hK3 => ?_
    refine QW F_mixed [some 45, some 46, some 47, some 48, some 13, none] rfl ?_
    simp only [zzK, Nat.reduceLT, Nat.reduceLeDiff, Nat.reduceBEq, QZ, Qf, zz23, zz24, F_sl26, F_sz34, QA, zzC, yyE, reduceCtorEq, F_ok34, F_ag34, zz8, zzD, Nat.reduceAdd, QH, zzH, zz32, newRow1, F_zero34, zz10, zz18, splice, QG, zz1, zzG, legs, gz, bz, hwz, len_map, ge0, QI, QJ, zz6, Nat.reduceEqDiff, ↓reduceIte]
    refine hK3 _ ?_; try clear hK3 K3
    refine kpA [1, 2, 4, 9, 11, 12, 13] ?_
    refine QX fun K3 hK3 => ?_
    refine QX fun K4 hK4 => ?_
    refine QW F_mixed [some 49, some 50, some 51, some 52] rfl ?_
    simp only [zzK, Nat.reduceLT, Nat.reduceLeDiff, Nat.reduceBEq, zz19, zz23, F_off34_0, zzH, QH, Nat.reduceAdd, F_off32_0, F_ok3, F_ag3, F_sz3, zz8, zzD, zzC, QA, yyE, reduceCtorEq, zz21, gr_v, zz34, zz6, Nat.reduceEqDiff, ↓reduceIte]
    refine hK4 _ ?_; try clear hK4 K4
    refine kpA [1, 2, 4, 9, 11, 12, 13, 52] ?_
    refine cnA ?_ ?_
    ·intro hb
     have hk : z.ac.kind = 6 := by simpa using hb
     clear hb
     have hbq := hs6 hk
     refine awp_exit ?_
     simp only [zz6, Nat.reduceEqDiff, ↓reduceIte]
     refine hK2 _ ?_; try clear hK2 K2
     refine kpA [1, 2, 4, 9, 11, 12] ?_
     refine QW F_mixed [some 43, some 44, some 12] rfl ?_
     simp only [zzK, Nat.reduceLT, Nat.reduceLeDiff, Nat.reduceBEq, QZ, zz21, gr_v, zz26, QY, hwz, zz6, Nat.reduceEqDiff, ↓reduceIte]
     refine ⟨u2.length, _, by simp, le_SK id [] rfl (l' := [(1, .d (iv c)), (2, .d (iv amt)), (4, .ptr 4 0 0), (9, .d (legs (aqV r c amt ws))), (11, .d (iv (bS (q ++ [z])))), (12, .d (iv (q ++ [z]).length))]) (m' := [(4, (⟨True, 45, 3, true, false, 4, [[.d (.sl 3 (r.mems.map memC)), .d (.sl 12 (r.insts.map instC)), .d (.sl 4 (r.assets.map assetC))]]⟩ : ARow))]) ?_ ?_ ?_ ?_, (q ++ [z]), u2, by simp [hsq], rfl, rfl⟩
     ·simp only [leV, Qa, Nat.reduceBEq, cond_true, cond_false, hwz, hbq]; exact ⟨(by first | exact QN rfl | exact QP (by decide) | exact QO | exact QM _ | exact QR (by simp) (by rfl) | exact QQ (by simp) (by rfl) (by first | rfl | (simp; done) | (simp; omega)) | exact QS (by first | rfl | simp)), (by first | exact QN rfl | exact QP (by decide) | exact QO | exact QM _ | exact QR (by simp) (by rfl) | exact QQ (by simp) (by rfl) (by first | rfl | (simp; done) | (simp; omega)) | exact QS (by first | rfl | simp)), (by first | exact QN rfl | exact QP (by decide) | exact QO | exact QM _ | exact QR (by simp) (by rfl) | exact QQ (by simp) (by rfl) (by first | rfl | (simp; done) | (simp; omega)) | exact QS (by first | rfl | simp)), (by first | exact QN rfl | exact QP (by decide) | exact QO | exact QM _ | exact QR (by simp) (by rfl) | exact QQ (by simp) (by rfl) (by first | rfl | (simp; done) | (simp; omega)) | exact QS (by first | rfl | simp)), (by first | exact QN rfl | exact QP (by decide) | exact QO | exact QM _ | exact QR (by simp) (by rfl) | exact QQ (by simp) (by rfl) (by first | rfl | (simp; done) | (simp; omega)) | exact QS (by first | rfl | simp)), (by first | exact QN rfl | exact QP (by decide) | exact QO | exact QM _ | exact QR (by simp) (by rfl) | exact QQ (by simp) (by rfl) (by first | rfl | (simp; done) | (simp; omega)) | exact QS (by first | rfl | simp)), trivial⟩
     ·exact ⟨fun _ => ⟨_, rfl, (by first | exact QU (by simp [QK, QL]) | exact RowLe.same (by simp) (by simp [QK, QL]))⟩, fun h => by simp at h, trivial⟩
     ·simp [wfV, QL, QK, lookR, grow]
     ·exact ⟨by simp [QK, QL, lookR], trivial⟩
    ·intro hb
     obtain ⟨hk, gc, gh, gn, gl, go⟩ := hzl.resolve_left (fun g => by simp [g] at hb)
     clear hb
     have hst := hs3 hk
     have hng : IntKind.wrap .i64 (0 - z.amt) = - z.amt := by rw [wrapI (by omega) (by omega)]; omega
     have hng2 : IntKind.wrap .i64 (- z.amt) = - z.amt := wrapI (by omega) (by omega)
     have hgo : decide (- z.amt > (findX MemV.no z.ac.who zMem r.mems).need) = false := decide_eq_false (by omega)
     have hg0 : decide (z.amt ≥ 0) = false := decide_eq_false (by omega)
     have hkb : (z.ac.kind != 2) = false := by simp [hk]
     have hcb : (z.ac.cur != c) = false := by simp [gc]
     refine awp_skip ?_
     simp only [zz6, Nat.reduceEqDiff, ↓reduceIte]
     refine hK3 _ ?_; try clear hK3 K3
     refine kpA [1, 2, 4, 9, 11, 12, 13] ?_
     refine QX fun K3 hK3 => ?_
     refine QW F_mixed [some 54, some 55, some 56, some 57, some 58, some 53, some 59, some 60, some 14, none, some 15] rfl ?_
     simp only [zzK, Nat.reduceLT, Nat.reduceLeDiff, Nat.reduceBEq, F_ok45, F_ag45, F_sz45, zz8, zz23, zzD, Nat.reduceAdd, QH, zzH, zzC, QA, yyE, reduceCtorEq, zz19, F_off34_0, F_off32_1, F_ok3, F_ag3, F_sz3, Qb, Qc, QZ, zz14, zz32, newRow1, F_zero51, zz10, zz18, F_ok51, F_sz51, splice, QG, zz1, zzG, QY, memsD, instsD, assetsD, rollC, QJ, memA, memC, instA, instC, QD, zz6, Nat.reduceEqDiff, ↓reduceIte]
     refine call_go F_go16 (fun hG => rMember_ r.mems r.insts r.assets z.ac.who hS.mems) (by simp [QL, QK, memA, memC, instA, instC]) (by simp) ?_
     simp only [zzK, Nat.reduceLT, Nat.reduceLeDiff, Nat.reduceBEq, F_ok45, F_ag45, F_sz45, zz8, zz23, zzD, Nat.reduceAdd, QH, zzH, zzC, QA, yyE, reduceCtorEq, zz19, F_off34_0, F_off32_1, F_ok3, F_ag3, F_sz3, Qb, Qc, QZ, zz14, zz32, newRow1, F_zero51, zz10, zz18, F_ok51, F_sz51, splice, QG, zz1, zzG, QY, memsD, instsD, assetsD, rollC, QJ, memA, memC, instA, instC, QD, zz6, Nat.reduceEqDiff, ↓reduceIte, atsL, oksG, freeN, AV.ren, AV.renL, addRows, ORow.row, Nat.reduceMul, Nat.reduceAdd, zz9, QB, QA, S_mem, yyF, QF, zz2]
     refine hK3 _ ?_; try clear hK3 K3
     refine kpA [1, 2, 4, 9, 11, 12, 13, 14, 15] ?_
     refine QX fun K3 hK3 => ?_
     refine QX fun K4 hK4 => ?_
     refine QW F_mixed [some 61, some 62, some 63, some 64, some 65, some 66, some 67, some 68, some 69, some 70, some 71, some 72, some 73, some 74, some 75, some 76, some 77, some 78, some 79, some 80, some 81, some 82, some 83, some 84, some 85, some 86, some 87, some 88] rfl ?_
     simp only [zzK, Nat.reduceLT, Nat.reduceLeDiff, Nat.reduceBEq, Nat.reduceSub, Qi, zz5, and_imp, imp_and, imp_self, zz19, zz23, F_off34_0, zzH, QH, Nat.reduceAdd, F_off32_0, F_ok3, F_ag3, F_sz3, zz8, zzD, zzC, QA, yyE, reduceCtorEq, zz21, gr_v, zz28, QZ, F_off32_2, zz13, pickK_l, pickK_r, zz29, zz30, F_off34_1, zz31, zz37, F_off51_2, zz25, hkb, hcb, gh, hg0, hng, hng2, hgo, Bool.not_true, Bool.not_false, zz6, Nat.reduceEqDiff, ↓reduceIte]
     refine hK4 _ ?_; try clear hK4 K4
     refine kpA [1, 2, 4, 9, 11, 12, 13, 88] ?_
     refine cnA ?_ ?_
     ·intro hb
      exfalso
      simp [hkb, hcb, gh, hg0, hng, hng2, hgo] at hb
     ·intro hb
      clear hb
      refine awp_skip ?_
      simp only [zz6, Nat.reduceEqDiff, ↓reduceIte]
      refine hK3 _ ?_; try clear hK3 K3
      refine kpA [1, 2, 4, 9, 11, 12, 13] ?_
      refine QW F_mixed [some 89, some 90, some 91, some 92, some 11] rfl ?_
      simp only [zzK, Nat.reduceLT, Nat.reduceLeDiff, Nat.reduceBEq, QZ, zz19, zz23, F_off34_1, zzH, QH, Nat.reduceAdd, F_ok3, F_ag3, F_sz3, zz8, zzD, zzC, QA, yyE, reduceCtorEq, zz21, gr_v, zz33, QY, hst, zz6, Nat.reduceEqDiff, ↓reduceIte]
      refine hK2 _ ?_; try clear hK2 K2
      refine kpA [1, 2, 4, 9, 11, 12] ?_
      refine QW F_mixed [some 43, some 44, some 12] rfl ?_
      simp only [zzK, Nat.reduceLT, Nat.reduceLeDiff, Nat.reduceBEq, QZ, zz21, gr_v, zz26, QY, hwz, zz6, Nat.reduceEqDiff, ↓reduceIte]
      refine ⟨u2.length, _, by simp, le_SK id [] rfl (l' := [(1, .d (iv c)), (2, .d (iv amt)), (4, .ptr 4 0 0), (9, .d (legs (aqV r c amt ws))), (11, .d (iv (bS (q ++ [z])))), (12, .d (iv (q ++ [z]).length))]) (m' := [(4, (⟨True, 45, 3, true, false, 4, [[.d (.sl 3 (r.mems.map memC)), .d (.sl 12 (r.insts.map instC)), .d (.sl 4 (r.assets.map assetC))]]⟩ : ARow))]) ?_ ?_ ?_ ?_, (q ++ [z]), u2, by simp [hsq], rfl, rfl⟩
      ·simp only [leV, Qa, Nat.reduceBEq, cond_true, cond_false, hwz, hst]; exact ⟨(by first | exact QN rfl | exact QP (by decide) | exact QO | exact QM _ | exact QR (by simp) (by rfl) | exact QQ (by simp) (by rfl) (by first | rfl | (simp; done) | (simp; omega)) | exact QS (by first | rfl | simp)), (by first | exact QN rfl | exact QP (by decide) | exact QO | exact QM _ | exact QR (by simp) (by rfl) | exact QQ (by simp) (by rfl) (by first | rfl | (simp; done) | (simp; omega)) | exact QS (by first | rfl | simp)), (by first | exact QN rfl | exact QP (by decide) | exact QO | exact QM _ | exact QR (by simp) (by rfl) | exact QQ (by simp) (by rfl) (by first | rfl | (simp; done) | (simp; omega)) | exact QS (by first | rfl | simp)), (by first | exact QN rfl | exact QP (by decide) | exact QO | exact QM _ | exact QR (by simp) (by rfl) | exact QQ (by simp) (by rfl) (by first | rfl | (simp; done) | (simp; omega)) | exact QS (by first | rfl | simp)), (by first | exact QN rfl | exact QP (by decide) | exact QO | exact QM _ | exact QR (by simp) (by rfl) | exact QQ (by simp) (by rfl) (by first | rfl | (simp; done) | (simp; omega)) | exact QS (by first | rfl | simp)), (by first | exact QN rfl | exact QP (by decide) | exact QO | exact QM _ | exact QR (by simp) (by rfl) | exact QQ (by simp) (by rfl) (by first | rfl | (simp; done) | (simp; omega)) | exact QS (by first | rfl | simp)), trivial⟩
      ·exact ⟨fun _ => ⟨_, rfl, (by first | exact QU (by simp [QK, QL]) | exact RowLe.same (by simp) (by simp [QK, QL]))⟩, fun h => by simp at h, trivial⟩
      ·simp [wfV, QL, QK, lookR, grow]
      ·exact ⟨by simp [QK, QL, lookR], trivial⟩
   ·intro hb
    obtain rfl : u = [] := by
     cases u with
     | nil => rfl
     | cons x t => have := of_decide_eq_false hb; simp at hsql; omega
    clear hb
    simp only [QG] at hsq
    have hq := hsq.symm
    subst hq
    have hbe := as_bears he
    have hck := as_chk he
    refine awp_exit ?_
    simp only [zz6, Nat.reduceEqDiff, ↓reduceIte]
    refine hK0 _ ?_; try clear hK0 K0
    refine kpA [2, 9, 11] ?_
    refine QX fun K0 hK0 => ?_
    refine QW F_mixed [some 93, some 94, some 95, some 96, some 97, some 98, some 99, some 100, some 101, some 102, some 103, some 104, some 105, some 106, some 107, some 8] rfl ?_
    simp only [zzK, Nat.reduceLT, Nat.reduceLeDiff, Nat.reduceBEq, Nat.reduceSub, Qi, zz5, and_imp, imp_and, imp_self, and_self, QZ, zz21, gr_v, zz34, Qb, Qc, zz13, pickK_l, pickK_r, QY, legs, hbe, hck, zz6, Nat.reduceEqDiff, ↓reduceIte]
    refine call_go F_go17 (fun hG => rCheck_ (aqV r c amt ws) (by omega)) (by simp [QL, QK]) (by simp) ?_
    simp only [zzK, Nat.reduceLT, Nat.reduceLeDiff, Nat.reduceBEq, Nat.reduceSub, Qi, zz5, and_imp, imp_and, imp_self, and_self, QZ, zz21, gr_v, zz34, Qb, Qc, zz13, pickK_l, pickK_r, QY, legs, hbe, hck, zz6, Nat.reduceEqDiff, ↓reduceIte, atsL, oksG, freeN, AV.ren, AV.renL, addRows, ORow.row, Nat.reduceMul, Nat.reduceAdd, zz9, QB, QA, zzC, yyF, zzD, zz2]
    refine call_go F_go9 (fun hG => wakes21_) (by simp [QL, QK]) (by simp) ?_
    simp only [zzK, Nat.reduceLT, Nat.reduceLeDiff, Nat.reduceBEq, Nat.reduceSub, Qi, zz5, and_imp, imp_and, imp_self, and_self, QZ, zz21, gr_v, zz34, Qb, Qc, zz13, pickK_l, pickK_r, QY, legs, hbe, hck, zz6, Nat.reduceEqDiff, ↓reduceIte, atsL, oksG, freeN, AV.ren, AV.renL, addRows, ORow.row, Nat.reduceMul, Nat.reduceAdd, zz9, QB, QA, zzC, yyF, zzD, zz2]
    refine hK0 _ ?_; try clear hK0 K0
    refine kpA [8] ?_
    refine awp_ret ?_
    simp only [zz6, Nat.reduceEqDiff, ↓reduceIte]
    refine dnA ?_
    simp only [QD, QE, resA, Qi, Nat.reduceLT, Nat.reduceLeDiff, Qa, Nat.reduceBEq, cond_true, cond_false, resAll]
    try simp [hck]
end Go.Proofs.Ytjkfadaedgidpaa
