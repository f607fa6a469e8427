import Derived.Test.YtjkfadaedgidpaaWpI
import Derived.Test.YtjkfadaedgidpaaSpecFX
namespace Go.Proofs.Ytjkfadaedgidpaa
open Go.RowKit
set_option linter.unusedVariables false
set_option linter.unusedSimpArgs false
open Option renaming map_some → QA, bind_some → QB
open List renaming length_append → QC, map_cons → QD, map_nil → QE, length_cons → QF, append_nil → QG, drop_zero → QH, getD_cons_zero → QI, getD_cons_succ → QJ, take_succ_cons → QK, drop_succ_cons → QL
open Nat renaming zero_add → QN, reduceEqDiff → QO, reduceLeDiff → QP, reduceBEq → QQ, reduceLT → QR, reduceAdd → QS, reduceMul → QT, reduceSub → QU
open Int renaming toNat_natCast → QV
open D.agg renaming injEq → QW
open AV renaming idsL → QX, ids → QY, ren → QZ, renL → Qa
open _root_ renaming reduceIte → Qb, cond_false → Qc, cond_true → Qd, reduceCtorEq → Qe, of_decide_eq_false → Qf, of_decide_eq_true → Qg, imp_self → Qh, imp_and → Qi, and_imp → Qj
open IntKind renaming wrap → Ql
open ORow renaming row → Qm
open VLe renaming refl → Qn, still → Qo, nild_ → Qp, nil_ → Qq, refE → Qr, ptrE → Qs, dE → Qt
open RowLe renaming same → Qu, still → Qv, data_ → Qw
open Go.Proofs.Ytjkfadaedgidpaa renaming awp_plain → Qz, awp_seq → JA, evS_assign → JB, evS_move → JC, look_cons → JD, evS_call → JE, evC_value → JF, awp_block → JH, awp_skip → JI, awp_ret → JJ, awp_exit → JK, awp_loop → JL, gr_v → JM, len_map → JN, addRows → JO, resAll → JP, pickK_l → JQ, pickK_r → JR, newRow1 → JS, call_go → JT, freeN → JV, evS_indexAddr → JW, S_getD → JZ, flatA → Ja, flatAs → Jb, flatD → Jc
theorem F_off51_0 : offT Try.prog 51 0 = some 0 := by kernel_rfl
theorem F_off105_0 : offT Try.prog 105 0 = some 0 := by kernel_rfl
theorem F_off110_0 : offT Try.prog 110 0 = some 0 := by kernel_rfl
theorem F_off51_1 : offT Try.prog 51 1 = some 1 := by kernel_rfl
theorem F_off51_2 : offT Try.prog 51 2 = some 2 := by kernel_rfl
theorem F_go73 : goFn Try.prog 73 := ⟨_, Try.func73, rfl, rfl⟩
theorem F_off110_1 : offT Try.prog 110 1 = some 1 := by kernel_rfl
theorem F_off110_2 : offT Try.prog 110 2 = some 2 := by kernel_rfl
theorem F_off110_3 : offT Try.prog 110 3 = some 3 := by kernel_rfl
theorem F_sl41 : sliceT Try.prog 41 = some 51 := by kernel_rfl
theorem F_sz51 : szT Try.prog 51 = 3 := by kernel_rfl
theorem F_ok51 : tyOk Try.prog 51 = true := by kernel_rfl
theorem F_ag51 : aggT Try.prog 51 = true := by kernel_rfl
theorem F_zero51 : zeroT Try.prog 51 = some [(.int .i64 0), (.int .i64 0), (.int .i64 0)] := by kernel_rfl
theorem F_go54 : goFn Try.prog 54 := ⟨_, Try.func54, rfl, rfl⟩
theorem F_go53 : goFn Try.prog 53 := ⟨_, Try.func53, rfl, rfl⟩
theorem F_off105_6 : offT Try.prog 105 6 = some 6 := by kernel_rfl
theorem F_ok103 : tyOk Try.prog 103 = true := by kernel_rfl
theorem F_ag103 : aggT Try.prog 103 = true := by kernel_rfl
theorem F_sz103 : szT Try.prog 103 = 6 := by kernel_rfl
theorem F_arr103 : arrT Try.prog 103 = some (6, 3) := by kernel_rfl
theorem F_off105_1 : offT Try.prog 105 1 = some 1 := by kernel_rfl
theorem F_off105_2 : offT Try.prog 105 2 = some 2 := by kernel_rfl
theorem F_off105_3 : offT Try.prog 105 3 = some 3 := by kernel_rfl
theorem F_off105_4 : offT Try.prog 105 4 = some 4 := by kernel_rfl
theorem F_off105_5 : offT Try.prog 105 5 = some 5 := by kernel_rfl
theorem F_sl42 : sliceT Try.prog 42 = some 105 := by kernel_rfl
theorem F_sz105 : szT Try.prog 105 = 12 := by kernel_rfl
theorem F_ok105 : tyOk Try.prog 105 = true := by kernel_rfl
theorem F_ag105 : aggT Try.prog 105 = true := by kernel_rfl
theorem F_zero105 : zeroT Try.prog 105 = some [(.int .i64 0), (.int .i64 0), (.int .i64 0), (.int .i64 0), (.int .i64 0), (.int .i64 0), (.int .i64 0), (.int .i64 0), (.int .i64 0), (.int .i64 0), (.int .i64 0), (.int .i64 0)] := by kernel_rfl
theorem F_go57 : goFn Try.prog 57 := ⟨_, Try.func57, rfl, rfl⟩
theorem F_go56 : goFn Try.prog 56 := ⟨_, Try.func56, rfl, rfl⟩
theorem F_sl43 : sliceT Try.prog 43 = some 110 := by kernel_rfl
theorem F_sz110 : szT Try.prog 110 = 4 := by kernel_rfl
theorem F_ok110 : tyOk Try.prog 110 = true := by kernel_rfl
theorem F_ag110 : aggT Try.prog 110 = true := by kernel_rfl
theorem F_zero110 : zeroT Try.prog 110 = some [(.int .i64 0), (.int .i64 0), (.int .i64 0), (.int .i64 0)] := by kernel_rfl
theorem F_go60 : goFn Try.prog 60 := ⟨_, Try.func60, rfl, rfl⟩
theorem F_go59 : goFn Try.prog 59 := ⟨_, Try.func59, rfl, rfl⟩
theorem F_off45_0 : offT Try.prog 45 0 = some 0 := by kernel_rfl
theorem F_ok41 : tyOk Try.prog 41 = true := by kernel_rfl
theorem F_ag41 : aggT Try.prog 41 = false := by kernel_rfl
theorem F_sz41 : szT Try.prog 41 = 1 := by kernel_rfl
theorem F_off45_1 : offT Try.prog 45 1 = some 1 := by kernel_rfl
theorem F_ok42 : tyOk Try.prog 42 = true := by kernel_rfl
theorem F_ag42 : aggT Try.prog 42 = false := by kernel_rfl
theorem F_sz42 : szT Try.prog 42 = 1 := by kernel_rfl
theorem F_off45_2 : offT Try.prog 45 2 = some 2 := by kernel_rfl
theorem F_ok43 : tyOk Try.prog 43 = true := by kernel_rfl
theorem F_ag43 : aggT Try.prog 43 = false := by kernel_rfl
theorem F_sz43 : szT Try.prog 43 = 1 := by kernel_rfl
theorem F_go52 : goFn Try.prog 52 := ⟨_, Try.func52, rfl, rfl⟩
theorem F_go55 : goFn Try.prog 55 := ⟨_, Try.func55, rfl, rfl⟩
theorem F_go58 : goFn Try.prog 58 := ⟨_, Try.func58, rfl, rfl⟩
theorem F_ok45 : tyOk Try.prog 45 = true := by kernel_rfl
theorem F_ag45 : aggT Try.prog 45 = true := by kernel_rfl
theorem F_sz45 : szT Try.prog 45 = 3 := by kernel_rfl
theorem F_go29 : goFn Try.prog 29 := ⟨_, Try.func29, rfl, rfl⟩
theorem F_go31 : goFn Try.prog 31 := ⟨_, Try.func31, rfl, rfl⟩
theorem F_zero53 : zeroT Try.prog 53 = some [(.int .i64 0), (.int .i64 0), (.int .i64 0)] := by kernel_rfl
theorem F_bld53 : bldT Try.prog 53 = true := by kernel_rfl
theorem F_fld53_0 : fldT Try.prog 53 0 = some (0, 1) := by kernel_rfl
theorem F_fld53_1 : fldT Try.prog 53 1 = some (1, 1) := by kernel_rfl
theorem F_fld53_2 : fldT Try.prog 53 2 = some (2, 1) := by kernel_rfl
theorem F_sl47 : sliceT Try.prog 47 = some 53 := by kernel_rfl
theorem F_sz53 : szT Try.prog 53 = 3 := by kernel_rfl
theorem F_by53 : byT Try.prog 53 = 24 := by kernel_rfl
theorem F_go13 : goFn Try.prog 13 := ⟨_, Try.func13, rfl, rfl⟩
theorem F_go14 : goFn Try.prog 14 := ⟨_, Try.func14, rfl, rfl⟩
theorem F_go9 : goFn Try.prog 9 := ⟨_, Try.func9, rfl, rfl⟩
theorem F_go11 : goFn Try.prog 11 := ⟨_, Try.func11, rfl, rfl⟩
theorem F_off53_0 : offT Try.prog 53 0 = some 0 := by kernel_rfl
theorem F_off53_1 : offT Try.prog 53 1 = some 1 := by kernel_rfl
theorem F_off53_2 : offT Try.prog 53 2 = some 2 := by kernel_rfl
theorem inR_ (n lo hi : Int) : ACalls Try.prog 73 [iv n, iv lo, iv hi] [] (bv (inR n lo hi)) := by
 refine acalls_S (rs := [.tmp 6]) Try.func73 rfl rfl 15 [(0, .d (iv n)), (1, .d (iv lo)), (2, .d (iv hi))] rfl (by simp) rfl ?_
 refine JA fun K0 hK0 => ?_
 refine Qz F_mixed [some 6] rfl ?_
 simp only [zzK, QR, QP, QQ, JB, zz6, QO, ↓Qb]
 refine hK0 _ ?_; try clear hK0 K0
 refine kpA [0, 1, 2] ?_
 refine JA fun K0 hK0 => ?_
 refine Qz F_mixed [some 7, some 8, some 9, some 10, some 11, some 12, some 13, some 14, some 6] rfl ?_
 simp only [zzK, QR, QP, QQ, QU, JZ, zz5, Qj, Qi, Qh, and_self, JC, zz21, JM, zz31, b_leq, pure_leq, zz13, JQ, JR, JB, zz6, QO, ↓Qb]
 refine hK0 _ ?_; try clear hK0 K0
 refine kpA [6] ?_
 refine JJ ?_
 simp only [zz6, QO, ↓Qb]
 refine dnA ?_
 simp only [QD, QE, resA, JZ, QR, QP, JD, QQ, Qd, Qc, JP]
 rfl
theorem noMem_ (m : MemV) : ACalls Try.prog 53 [.agg (memC m)] [] (.d (iv m.no)) := by
 refine acalls_S (rs := [.tmp 2]) Try.func53 rfl rfl 5 [(0, .d (.agg (memC m)))] rfl (by simp) rfl ?_
 refine JA fun K0 hK0 => ?_
 refine Qz F_mixed [some 1, some 2] rfl ?_
 simp only [zzK, QR, QP, QQ, zz35, JS, zz1, zzG, zzD, zzC, QA, yyE, Qe, QS, QN, zzH, JB, memC, zz6, QO, ↓Qb]
 refine hK0 _ ?_; try clear hK0 K0
 refine kpA [1] ?_
 refine JA fun K0 hK0 => ?_
 refine Qz F_mixed [some 3, some 4, some 2] rfl ?_
 simp only [zzK, QR, QP, QQ, zz19, zz23, F_off51_0, zzH, QN, QS, F_ok3, F_ag3, F_sz3, zz8, zzD, zzC, QA, yyE, Qe, JB, zz6, QO, ↓Qb]
 refine hK0 _ ?_; try clear hK0 K0
 refine kpA [2] ?_
 refine JJ ?_
 simp only [zz6, QO, ↓Qb]
 refine dnA ?_
 simp only [QD, QE, resA, JZ, QR, QP, JD, QQ, Qd, Qc, JP]
 
theorem noInst_ (m : InstV) : ACalls Try.prog 56 [.agg (instC m)] [] (.d (iv m.no)) := by
 refine acalls_S (rs := [.tmp 2]) Try.func56 rfl rfl 5 [(0, .d (.agg (instC m)))] rfl (by simp) rfl ?_
 refine JA fun K0 hK0 => ?_
 refine Qz F_mixed [some 1, some 2] rfl ?_
 simp only [zzK, QR, QP, QQ, zz35, JS, zz1, zzG, zzD, zzC, QA, yyE, Qe, QS, QN, zzH, JB, instC, zz6, QO, ↓Qb]
 refine hK0 _ ?_; try clear hK0 K0
 refine kpA [1] ?_
 refine JA fun K0 hK0 => ?_
 refine Qz F_mixed [some 3, some 4, some 2] rfl ?_
 simp only [zzK, QR, QP, QQ, zz19, zz23, F_off105_0, zzH, QN, QS, F_ok3, F_ag3, F_sz3, zz8, zzD, zzC, QA, yyE, Qe, JB, zz6, QO, ↓Qb]
 refine hK0 _ ?_; try clear hK0 K0
 refine kpA [2] ?_
 refine JJ ?_
 simp only [zz6, QO, ↓Qb]
 refine dnA ?_
 simp only [QD, QE, resA, JZ, QR, QP, JD, QQ, Qd, Qc, JP]
 
theorem noAsset_ (m : AssetV) : ACalls Try.prog 59 [.agg (assetC m)] [] (.d (iv m.no)) := by
 refine acalls_S (rs := [.tmp 2]) Try.func59 rfl rfl 5 [(0, .d (.agg (assetC m)))] rfl (by simp) rfl ?_
 refine JA fun K0 hK0 => ?_
 refine Qz F_mixed [some 1, some 2] rfl ?_
 simp only [zzK, QR, QP, QQ, zz35, JS, zz1, zzG, zzD, zzC, QA, yyE, Qe, QS, QN, zzH, JB, assetC, zz6, QO, ↓Qb]
 refine hK0 _ ?_; try clear hK0 K0
 refine kpA [1] ?_
 refine JA fun K0 hK0 => ?_
 refine Qz F_mixed [some 3, some 4, some 2] rfl ?_
 simp only [zzK, QR, QP, QQ, zz19, zz23, F_off110_0, zzH, QN, QS, F_ok3, F_ag3, F_sz3, zz8, zzD, zzC, QA, yyE, Qe, JB, zz6, QO, ↓Qb]
 refine hK0 _ ?_; try clear hK0 K0
 refine kpA [2] ?_
 refine JJ ?_
 simp only [zz6, QO, ↓Qb]
 refine dnA ?_
 simp only [QD, QE, resA, JZ, QR, QP, JD, QQ, Qd, Qc, JP]
 
theorem memOk_ (m : MemV) : ACalls Try.prog 54 [.agg (memC m)] [] (bv (memOk m)) := by
 refine acalls_S (rs := [.tmp 2]) Try.func54 rfl rfl 22 [(0, .d (.agg (memC m)))] rfl (by simp) rfl ?_
 refine JA fun K0 hK0 => ?_
 refine Qz F_mixed [some 1, some 2] rfl ?_
 simp only [zzK, QR, QP, QQ, zz35, JS, zz1, zzG, zzD, zzC, QA, yyE, Qe, QS, QN, zzH, JB, memC, zz6, QO, ↓Qb]
 refine hK0 _ ?_; try clear hK0 K0
 refine kpA [1] ?_
 refine JA fun K0 hK0 => ?_
 refine Qz F_mixed [some 3, some 4, some 5, some 6, some 7, some 8, some 9, some 10, some 11, some 12, some 13, some 14, some 15, some 16, some 17, some 18, some 19, some 20, some 21, some 2] rfl ?_
 simp only [zzK, QR, QP, QQ, QU, JZ, zz5, Qj, Qi, Qh, zz19, zz23, F_off51_0, zzH, QN, QS, F_ok3, F_ag3, F_sz3, zz8, zzD, zzC, QA, yyE, Qe, JE, JF, JC, F_off51_1, zz13, JQ, JR, F_off51_2, F_sl25, F_zero3, zz3, JS, zz1, zzG, maxLen_le, QT, zz21, JM, zz31, JB, ints, QD, zz6, QO, ↓Qb]
 refine JT F_go73 (fun hG => inR_ m.no 1 16) (by simp [QY, QX]) (by simp) ?_
 simp only [zzK, QR, QP, QQ, QU, JZ, zz5, Qj, Qi, Qh, zz19, zz23, F_off51_0, zzH, QN, QS, F_ok3, F_ag3, F_sz3, zz8, zzD, zzC, QA, yyE, Qe, JE, JF, JC, F_off51_1, zz13, JQ, JR, F_off51_2, F_sl25, F_zero3, zz3, JS, zz1, zzG, maxLen_le, QT, zz21, JM, zz31, JB, ints, QD, zz6, QO, ↓Qb, atsL, oksG, JV, QZ, Qa, JO, Qm, QT, QS, zz9, QB, QA, S_mem, yyF, QF, zz2]
 refine JT F_go73 (fun hG => inR_ m.state 1 3) (by simp [QY, QX]) (by simp) ?_
 simp only [zzK, QR, QP, QQ, QU, JZ, zz5, Qj, Qi, Qh, zz19, zz23, F_off51_0, zzH, QN, QS, F_ok3, F_ag3, F_sz3, zz8, zzD, zzC, QA, yyE, Qe, JE, JF, JC, F_off51_1, zz13, JQ, JR, F_off51_2, F_sl25, F_zero3, zz3, JS, zz1, zzG, maxLen_le, QT, zz21, JM, zz31, JB, ints, QD, zz6, QO, ↓Qb, atsL, oksG, JV, QZ, Qa, JO, Qm, QT, QS, zz9, QB, QA, S_mem, yyF, QF, zz2]
 refine JT F_go36 (fun hG => Right_ [m.need] (by simp)) (by simp [QY, QX]) (by simp) ?_
 simp only [zzK, QR, QP, QQ, QU, JZ, zz5, Qj, Qi, Qh, zz19, zz23, F_off51_0, zzH, QN, QS, F_ok3, F_ag3, F_sz3, zz8, zzD, zzC, QA, yyE, Qe, JE, JF, JC, F_off51_1, zz13, JQ, JR, F_off51_2, F_sl25, F_zero3, zz3, JS, zz1, zzG, maxLen_le, QT, zz21, JM, zz31, JB, ints, QD, zz6, QO, ↓Qb, atsL, oksG, JV, QZ, Qa, JO, Qm, QT, QS, zz9, QB, QA, S_mem, yyF, QF, zz2]
 refine hK0 _ ?_; try clear hK0 K0
 refine kpA [2] ?_
 refine JJ ?_
 simp only [zz6, QO, ↓Qb]
 refine dnA ?_
 simp only [QD, QE, resA, JZ, QR, QP, JD, QQ, Qd, Qc, JP]
 rfl
theorem assetOk_ (m : AssetV) : ACalls Try.prog 60 [.agg (assetC m)] [] (bv (assetOk m)) := by
 refine acalls_S (rs := [.tmp 2]) Try.func60 rfl rfl 21 [(0, .d (.agg (assetC m)))] rfl (by simp) rfl ?_
 refine JA fun K0 hK0 => ?_
 refine Qz F_mixed [some 1, some 2] rfl ?_
 simp only [zzK, QR, QP, QQ, zz35, JS, zz1, zzG, zzD, zzC, QA, yyE, Qe, QS, QN, zzH, JB, assetC, zz6, QO, ↓Qb]
 refine hK0 _ ?_; try clear hK0 K0
 refine kpA [1] ?_
 refine JA fun K0 hK0 => ?_
 refine Qz F_mixed [some 3, some 4, some 5, some 6, some 7, some 8, some 9, some 10, some 11, some 12, some 13, some 14, some 15, some 16, some 17, some 18, some 19, some 20, some 2] rfl ?_
 simp only [zzK, QR, QP, QQ, QU, JZ, zz5, Qj, Qi, Qh, zz19, zz23, F_off110_0, zzH, QN, QS, F_ok3, F_ag3, F_sz3, zz8, zzD, zzC, QA, yyE, Qe, JE, JF, JC, F_off110_1, zz13, JQ, JR, F_off110_2, F_off110_3, JB, zz6, QO, ↓Qb]
 refine JT F_go73 (fun hG => inR_ m.no 1 6) (by simp [QY, QX]) (by simp) ?_
 simp only [zzK, QR, QP, QQ, QU, JZ, zz5, Qj, Qi, Qh, zz19, zz23, F_off110_0, zzH, QN, QS, F_ok3, F_ag3, F_sz3, zz8, zzD, zzC, QA, yyE, Qe, JE, JF, JC, F_off110_1, zz13, JQ, JR, F_off110_2, F_off110_3, JB, zz6, QO, ↓Qb, atsL, oksG, JV, QZ, Qa, JO, Qm, QT, QS, zz9, QB, QA, S_mem, yyF, QF, zz2]
 refine JT F_go73 (fun hG => inR_ m.cur 0 2) (by simp [QY, QX]) (by simp) ?_
 simp only [zzK, QR, QP, QQ, QU, JZ, zz5, Qj, Qi, Qh, zz19, zz23, F_off110_0, zzH, QN, QS, F_ok3, F_ag3, F_sz3, zz8, zzD, zzC, QA, yyE, Qe, JE, JF, JC, F_off110_1, zz13, JQ, JR, F_off110_2, F_off110_3, JB, zz6, QO, ↓Qb, atsL, oksG, JV, QZ, Qa, JO, Qm, QT, QS, zz9, QB, QA, S_mem, yyF, QF, zz2]
 refine JT F_go73 (fun hG => inR_ m.price 1 1073741824) (by simp [QY, QX]) (by simp) ?_
 simp only [zzK, QR, QP, QQ, QU, JZ, zz5, Qj, Qi, Qh, zz19, zz23, F_off110_0, zzH, QN, QS, F_ok3, F_ag3, F_sz3, zz8, zzD, zzC, QA, yyE, Qe, JE, JF, JC, F_off110_1, zz13, JQ, JR, F_off110_2, F_off110_3, JB, zz6, QO, ↓Qb, atsL, oksG, JV, QZ, Qa, JO, Qm, QT, QS, zz9, QB, QA, S_mem, yyF, QF, zz2]
 refine JT F_go73 (fun hG => inR_ m.cut 0 10000) (by simp [QY, QX]) (by simp) ?_
 simp only [zzK, QR, QP, QQ, QU, JZ, zz5, Qj, Qi, Qh, zz19, zz23, F_off110_0, zzH, QN, QS, F_ok3, F_ag3, F_sz3, zz8, zzD, zzC, QA, yyE, Qe, JE, JF, JC, F_off110_1, zz13, JQ, JR, F_off110_2, F_off110_3, JB, zz6, QO, ↓Qb, atsL, oksG, JV, QZ, Qa, JO, Qm, QT, QS, zz9, QB, QA, S_mem, yyF, QF, zz2]
 refine hK0 _ ?_; try clear hK0 K0
 refine kpA [2] ?_
 refine JJ ?_
 simp only [zz6, QO, ↓Qb]
 refine dnA ?_
 simp only [QD, QE, resA, JZ, QR, QP, JD, QQ, Qd, Qc, JP]
 rfl
theorem risesM_ (l : List MemV) (hl : l.length < 4611686018427387904) : ACalls Try.prog 52 [memsD l, fnD 53, fnD 54] [] (bv (chk memOk MemV.no none l)) := by
 refine acalls_S (rs := [.tmp 6]) Try.func52 rfl rfl 38 [(0, .d (memsD l)), (1, .d (fnD 53)), (2, .d (fnD 54))] rfl (by simp) rfl ?_
 refine JA fun K0 hK0 => ?_
 refine Qz F_mixed [some 6] rfl ?_
 simp only [zzK, QR, QP, QQ, JB, zz6, QO, ↓Qb]
 refine hK0 _ ?_; try clear hK0 K0
 refine kpA [0, 1, 2] ?_
 refine JA fun K0 hK0 => ?_
 refine JA fun K1 hK1 => ?_
 refine Qz F_mixed [some 9, some 10, some 11] rfl ?_
 simp only [zzK, QR, QP, QQ, JC, JE, zz12, F_sl41, Option.isSome_some, memsD, JN, zz6, QO, ↓Qb]
 refine hK1 _ ?_; try clear hK1 K1
 refine kpA [0, 1, 2, 9, 10, 11] ?_
 refine JH ?_
 refine JL (fun m s => ∃ pre post : List MemV, l = pre ++ post ∧ chk memOk MemV.no none l = chk memOk MemV.no pre.getLast? post ∧ m = post.length ∧ s = S 38 [(0, .d (memsD l)), (1, .d (fnD 53)), (2, .d (fnD 54)), (9, .d (memsD l)), (10, .d (iv l.length)), (11, .d (iv pre.length))] []) l.length _ (le_S0 (l' := [(0, .d (memsD l)), (1, .d (fnD 53)), (2, .d (fnD 54)), (9, .d (memsD l)), (10, .d (iv l.length)), (11, .d (iv ([] : List MemV).length))]) ?_ ?_) ⟨[], l, rfl, rfl, rfl, rfl⟩ ?_
 ·simp only [leL, JD, QQ, Qd, Qc, memsD, JN, List.length_nil]; trivial
 ·simp [wfV, QY]
 rintro m s ⟨pre, post, rfl, hck, rfl, rfl⟩
 refine JA fun K2 hK2 => ?_
 refine Qz F_mixed [some 12] rfl ?_
 simp only [zzK, QR, QP, QQ, zz21, JM, zz22, zz6, QO, ↓Qb]
 refine hK2 _ ?_; try clear hK2 K2
 refine kpA [0, 1, 2, 9, 10, 11, 12] ?_
 refine JA fun K2 hK2 => ?_
 refine cnA ?_ ?_
 ·intro hb
  obtain ⟨x, post, rfl⟩ := more_of hb; clear hb
  have hp : pre.length < 4611686018427387904 := by simp at hl; omega
  have hpg := prev_get memC pre post x [] hp
  refine JI ?_
  simp only [zz6, QO, ↓Qb]
  refine hK2 _ ?_; try clear hK2 K2
  refine kpA [0, 1, 2, 9, 10, 11] ?_
  refine JA fun K2 hK2 => ?_
  refine JH ?_
  refine JA fun K3 hK3 => ?_
  refine Qz F_mixed [some 13, some 14, some 15, some 8, some 7, none] rfl ?_
  simp only [zzK, QR, QP, QQ, JC, JW, zz23, zz24, F_sl41, F_sz51, QA, zzC, yyE, Qe, F_ok51, F_ag51, zz8, zzD, QS, QN, zzH, zz32, JS, F_zero51, zz10, JB, zz18, splice, QG, zz1, zzG, memsD, memC, getD_mid, JN, lt_mid, ge_mid, zz6, QO, ↓Qb]
  refine hK3 _ ?_; try clear hK3 K3
  refine kpA [0, 1, 2, 7, 8, 9, 10, 11] ?_
  refine JA fun K3 hK3 => ?_
  refine awp_draw F_mixed [some 16, some 17, some 18, some 19, some 20, some 21, some 22, some 23, some 24, some 25, some 26, some 27, some 28, some 29, some 30, some 31, some 32, some 33, some 34, some 35, some 36] rfl (by kernel_rfl) ?_
  simp only [zzK, QR, QP, QQ, QU, JZ, zz5, Qj, Qi, Qh, JC, F_ok51, F_ag51, F_sz51, zz8, zz23, zzD, QS, QN, zzH, zzC, QA, yyE, Qe, JE, JF, zz29, JM, zz30, zz21, zz25, zz33, JW, zz24, F_sl41, zz31, zz13, JQ, JR, fnD, memsD, memC, JN, hpg, QW, zz6, QO, ↓Qb]
  refine call_goT ?_ ?_ F_go54 (fun hG => memOk_ x) (by simp [QY, QX]) (by simp) ?_
  ·decide
  ·simp only [JD, QQ, Qd, Qc, bare_d, bare_wh, fnD]
  simp only [zzK, QR, QP, QQ, QU, JZ, zz5, Qj, Qi, Qh, JC, F_ok51, F_ag51, F_sz51, zz8, zz23, zzD, QS, QN, zzH, zzC, QA, yyE, Qe, JE, JF, zz29, JM, zz30, zz21, zz25, zz33, JW, zz24, F_sl41, zz31, zz13, JQ, JR, fnD, memsD, memC, JN, hpg, QW, zz6, QO, ↓Qb, QU, JZ, Gp_some, Qj, Qi, Qh, atsL, oksG, JV, QZ, Qa, JO, Qm, QT, QS, zz9, QB, QA, S_mem, yyF, QF, zz2]
  refine ⟨⟨fun _ hp2 => prev_ok pre hp hp2, fun _ _ => prev_lt pre post x hp⟩, ?_⟩
  refine call_goT ?_ ?_ F_go53 (fun hG => noMem_ (lastOr x pre)) (by simp [QY, QX]) (by simp) ?_
  ·decide
  ·simp only [JD, QQ, Qd, Qc, bare_d, bare_wh, fnD]
  simp only [zzK, QR, QP, QQ, QU, JZ, zz5, Qj, Qi, Qh, JC, F_ok51, F_ag51, F_sz51, zz8, zz23, zzD, QS, QN, zzH, zzC, QA, yyE, Qe, JE, JF, zz29, JM, zz30, zz21, zz25, zz33, JW, zz24, F_sl41, zz31, zz13, JQ, JR, fnD, memsD, memC, JN, hpg, QW, zz6, QO, ↓Qb, QU, JZ, Gp_some, Qj, Qi, Qh, atsL, oksG, JV, QZ, Qa, JO, Qm, QT, QS, zz9, QB, QA, S_mem, yyF, QF, zz2]
  refine call_goT ?_ ?_ F_go53 (fun hG => noMem_ x) (by simp [QY, QX]) (by simp) ?_
  ·decide
  ·simp only [JD, QQ, Qd, Qc, bare_d, bare_wh, fnD]
  simp only [zzK, QR, QP, QQ, QU, JZ, zz5, Qj, Qi, Qh, JC, F_ok51, F_ag51, F_sz51, zz8, zz23, zzD, QS, QN, zzH, zzC, QA, yyE, Qe, JE, JF, zz29, JM, zz30, zz21, zz25, zz33, JW, zz24, F_sl41, zz31, zz13, JQ, JR, fnD, memsD, memC, JN, hpg, QW, zz6, QO, ↓Qb, QU, JZ, Gp_some, Qj, Qi, Qh, atsL, oksG, JV, QZ, Qa, JO, Qm, QT, QS, zz9, QB, QA, S_mem, yyF, QF, zz2]
  refine hK3 _ ?_; try clear hK3 K3
  refine kpA [0, 1, 2, 9, 10, 11, 36] ?_
  refine cnA ?_ ?_
  ·intro hb
   refine JA fun K4 hK4 => ?_
   refine Qz F_mixed [some 6] rfl ?_
   simp only [zzK, QR, QP, QQ, JB, zz6, QO, ↓Qb]
   refine hK4 _ ?_; try clear hK4 K4
   refine kpA [6] ?_
   refine JJ ?_
   simp only [zz6, QO, ↓Qb]
   refine dnA ?_
   simp only [QD, QE, resA, JZ, QR, QP, JD, QQ, Qd, Qc, JP]
   rw [hck, chk_step, hb]; simp
  ·intro hb
   refine JI ?_
   simp only [zz6, QO, ↓Qb]
   refine hK2 _ ?_; try clear hK2 K2
   refine kpA [0, 1, 2, 9, 10, 11] ?_
   refine Qz F_mixed [some 37, some 11] rfl ?_
   simp only [zzK, QR, QP, QQ, zz21, JM, zz26, JC, zz6, QO, ↓Qb]
   refine ⟨post.length, _, by simp, le_S0 (l' := [(0, .d (memsD (pre ++ x :: post))), (1, .d (fnD 53)), (2, .d (fnD 54)), (9, .d (memsD (pre ++ x :: post))), (10, .d (iv (pre ++ x :: post).length)), (11, .d (iv (pre ++ [x]).length))]) ?_ ?_, pre ++ [x], post, by simp, by rw [hck, chk_step, hb]; simp, rfl, rfl⟩
   ·simp only [leL, JD, QQ, Qd, Qc, wrap_len pre x (by simp at hl; omega), memsD, fnD]; trivial
   ·simp [wfV, QY]
 ·intro hb
  obtain rfl := none_of hb; clear hb
  refine JK ?_
  simp only [zz6, QO, ↓Qb]
  refine hK0 _ ?_; try clear hK0 K0
  refine kpA [] ?_
  refine JA fun K0 hK0 => ?_
  refine Qz F_mixed [some 6] rfl ?_
  simp only [zzK, QR, QP, QQ, JB, zz6, QO, ↓Qb]
  refine hK0 _ ?_; try clear hK0 K0
  refine kpA [6] ?_
  refine JJ ?_
  simp only [zz6, QO, ↓Qb]
  refine dnA ?_
  simp only [QD, QE, resA, JZ, QR, QP, JD, QQ, Qd, Qc, JP]
  rw [hck]; rfl
theorem instOk_ (i : InstV) : ACalls Try.prog 57 [.agg (instC i)] [] (bv (instOk i)) := by
 refine acalls_S (rs := [.tmp 2]) Try.func57 rfl rfl 42 [(0, .d (.agg (instC i)))] rfl (by simp) rfl ?_
 refine JA fun K0 hK0 => ?_
 refine Qz F_mixed [some 1, some 2] rfl ?_
 simp only [zzK, QR, QP, QQ, zz35, JS, zz1, zzG, zzD, zzC, QA, yyE, Qe, QS, QN, zzH, JB, instC, zz6, QO, ↓Qb]
 refine hK0 _ ?_; try clear hK0 K0
 refine kpA [1] ?_
 refine JA fun K0 hK0 => ?_
 refine JA fun K1 hK1 => ?_
 refine Qz F_mixed [some 5, some 6, some 7] rfl ?_
 simp only [zzK, QR, QP, QQ, zz19, zz23, F_off105_6, zzH, QN, QS, F_ok103, F_ag103, F_sz103, zz8, zzD, zzC, QA, yyE, Qe, JC, zz6, QO, ↓Qb]
 refine hK1 _ ?_; try clear hK1 K1
 refine kpA [1, 6, 7] ?_
 refine JH ?_
 refine JL (fun m s => (m = 6 ∧ s = S 42 [(1, .ptr 1 0 0), (6, .ag [.d (iv i.s0), .d (iv i.s1), .d (iv i.s2), .d (iv i.s3), .d (iv i.s4), .d (iv i.s5)]), (7, .d (iv 0))] [(1, (⟨True, 105, 12, true, false, 1, [[.d (iv i.no), .d (iv i.cur), .d (iv i.mult), .d (iv i.add), .d (iv i.set), .d (iv i.price), .d (iv i.s0), .d (iv i.s1), .d (iv i.s2), .d (iv i.s3), .d (iv i.s4), .d (iv i.s5)]]⟩ : ARow))]) ∨ (m = 5 ∧ shOk i.s0 = true ∧ s = S 42 [(1, .ptr 1 0 0), (6, .ag [.d (iv i.s0), .d (iv i.s1), .d (iv i.s2), .d (iv i.s3), .d (iv i.s4), .d (iv i.s5)]), (7, .d (iv 1))] [(1, (⟨True, 105, 12, true, false, 1, [[.d (iv i.no), .d (iv i.cur), .d (iv i.mult), .d (iv i.add), .d (iv i.set), .d (iv i.price), .d (iv i.s0), .d (iv i.s1), .d (iv i.s2), .d (iv i.s3), .d (iv i.s4), .d (iv i.s5)]]⟩ : ARow))]) ∨ (m = 4 ∧ shOk i.s0 = true ∧ shOk i.s1 = true ∧ s = S 42 [(1, .ptr 1 0 0), (6, .ag [.d (iv i.s0), .d (iv i.s1), .d (iv i.s2), .d (iv i.s3), .d (iv i.s4), .d (iv i.s5)]), (7, .d (iv 2))] [(1, (⟨True, 105, 12, true, false, 1, [[.d (iv i.no), .d (iv i.cur), .d (iv i.mult), .d (iv i.add), .d (iv i.set), .d (iv i.price), .d (iv i.s0), .d (iv i.s1), .d (iv i.s2), .d (iv i.s3), .d (iv i.s4), .d (iv i.s5)]]⟩ : ARow))]) ∨ (m = 3 ∧ shOk i.s0 = true ∧ shOk i.s1 = true ∧ shOk i.s2 = true ∧ s = S 42 [(1, .ptr 1 0 0), (6, .ag [.d (iv i.s0), .d (iv i.s1), .d (iv i.s2), .d (iv i.s3), .d (iv i.s4), .d (iv i.s5)]), (7, .d (iv 3))] [(1, (⟨True, 105, 12, true, false, 1, [[.d (iv i.no), .d (iv i.cur), .d (iv i.mult), .d (iv i.add), .d (iv i.set), .d (iv i.price), .d (iv i.s0), .d (iv i.s1), .d (iv i.s2), .d (iv i.s3), .d (iv i.s4), .d (iv i.s5)]]⟩ : ARow))]) ∨ (m = 2 ∧ shOk i.s0 = true ∧ shOk i.s1 = true ∧ shOk i.s2 = true ∧ shOk i.s3 = true ∧ s = S 42 [(1, .ptr 1 0 0), (6, .ag [.d (iv i.s0), .d (iv i.s1), .d (iv i.s2), .d (iv i.s3), .d (iv i.s4), .d (iv i.s5)]), (7, .d (iv 4))] [(1, (⟨True, 105, 12, true, false, 1, [[.d (iv i.no), .d (iv i.cur), .d (iv i.mult), .d (iv i.add), .d (iv i.set), .d (iv i.price), .d (iv i.s0), .d (iv i.s1), .d (iv i.s2), .d (iv i.s3), .d (iv i.s4), .d (iv i.s5)]]⟩ : ARow))]) ∨ (m = 1 ∧ shOk i.s0 = true ∧ shOk i.s1 = true ∧ shOk i.s2 = true ∧ shOk i.s3 = true ∧ shOk i.s4 = true ∧ s = S 42 [(1, .ptr 1 0 0), (6, .ag [.d (iv i.s0), .d (iv i.s1), .d (iv i.s2), .d (iv i.s3), .d (iv i.s4), .d (iv i.s5)]), (7, .d (iv 5))] [(1, (⟨True, 105, 12, true, false, 1, [[.d (iv i.no), .d (iv i.cur), .d (iv i.mult), .d (iv i.add), .d (iv i.set), .d (iv i.price), .d (iv i.s0), .d (iv i.s1), .d (iv i.s2), .d (iv i.s3), .d (iv i.s4), .d (iv i.s5)]]⟩ : ARow))]) ∨ (m = 0 ∧ shOk i.s0 = true ∧ shOk i.s1 = true ∧ shOk i.s2 = true ∧ shOk i.s3 = true ∧ shOk i.s4 = true ∧ shOk i.s5 = true ∧ s = S 42 [(1, .ptr 1 0 0), (6, .ag [.d (iv i.s0), .d (iv i.s1), .d (iv i.s2), .d (iv i.s3), .d (iv i.s4), .d (iv i.s5)]), (7, .d (iv 6))] [(1, (⟨True, 105, 12, true, false, 1, [[.d (iv i.no), .d (iv i.cur), .d (iv i.mult), .d (iv i.add), .d (iv i.set), .d (iv i.price), .d (iv i.s0), .d (iv i.s1), .d (iv i.s2), .d (iv i.s3), .d (iv i.s4), .d (iv i.s5)]]⟩ : ARow))])) 6 _ (le_SK id [] rfl (l' := [(1, .ptr 1 0 0), (6, .ag [.d (iv i.s0), .d (iv i.s1), .d (iv i.s2), .d (iv i.s3), .d (iv i.s4), .d (iv i.s5)]), (7, .d (iv 0))]) (m' := [(1, (⟨True, 105, 12, true, false, 1, [[.d (iv i.no), .d (iv i.cur), .d (iv i.mult), .d (iv i.add), .d (iv i.set), .d (iv i.price), .d (iv i.s0), .d (iv i.s1), .d (iv i.s2), .d (iv i.s3), .d (iv i.s4), .d (iv i.s5)]]⟩ : ARow))]) ?_ ?_ ?_ ?_) (.inl (⟨rfl, rfl⟩)) ?_
 ·simp only [leV, JD, QQ, Qd, Qc]; exact ⟨Qn _, Qn _, Qn _, trivial⟩
 ·exact ⟨fun _ => ⟨_, rfl, ⟨id, rfl, rfl, fun _ => rfl, id, .inl, VLess.refl _⟩⟩, fun h => by simp at h, trivial⟩
 ·simp [wfV, QY, QX, lookR]
 ·simp [wfR, QX, QY]
 rintro m s (⟨rfl, rfl⟩ | ⟨rfl, h0, rfl⟩ | ⟨rfl, h0, h1, rfl⟩ | ⟨rfl, h0, h1, h2, rfl⟩ | ⟨rfl, h0, h1, h2, h3, rfl⟩ | ⟨rfl, h0, h1, h2, h3, h4, rfl⟩ | ⟨rfl, h0, h1, h2, h3, h4, h5, rfl⟩)
 ·skip
  refine JA fun K2 hK2 => ?_
  refine Qz F_mixed [some 8] rfl ?_
  simp only [zzK, QR, QP, QQ, zz21, JM, zz22, zz6, QO, ↓Qb]
  refine hK2 _ ?_; try clear hK2 K2
  refine kpA [1, 6, 7, 8] ?_
  refine JA fun K2 hK2 => ?_
  refine cnA ?_ ?_
  ·intro hb
   clear hb
   refine JI ?_
   simp only [zz6, QO, ↓Qb]
   refine hK2 _ ?_; try clear hK2 K2
   refine kpA [1, 6, 7] ?_
   refine JA fun K2 hK2 => ?_
   refine JH ?_
   refine JA fun K3 hK3 => ?_
   refine Qz F_mixed [some 9, some 4] rfl ?_
   simp only [zzK, QR, QP, QQ, evS_index, evIv_int, ixB_some, ixV_ag, ixV_agg, F_arr103, F_ok3, F_ag3, F_sz3, zzG, zzD, QS, QN, zzH, JB, Int.reduceToNat, Int.reduceLT, Int.reduceLE, cast6, zz6, QO, ↓Qb]
   refine hK3 _ ?_; try clear hK3 K3
   refine kpA [1, 4, 6, 7] ?_
   refine JA fun K3 hK3 => ?_
   refine Qz F_mixed [some 10, some 11, some 12] rfl ?_
   simp only [zzK, QR, QP, QQ, JC, JE, JF, zz29, JM, zz30, zz6, QO, ↓Qb]
   refine JT F_go73 (fun hG => inR_ i.s0 (-1073741824) 1073741824) (by simp [QY, QX]) (by simp) ?_
   simp only [zzK, QR, QP, QQ, JC, JE, JF, zz29, JM, zz30, zz6, QO, ↓Qb, atsL, oksG, JV, QZ, Qa, JO, Qm, QT, QS, zz9, QB, QA, zzC, yyF, zzD, zz2]
   refine hK3 _ ?_; try clear hK3 K3
   refine kpA [1, 6, 7, 12] ?_
   refine cnA ?_ ?_
   ·intro hb
    simp only [Bool.not_eq_true'] at hb
    refine JA fun K4 hK4 => ?_
    refine Qz F_mixed [some 2] rfl ?_
    simp only [zzK, QR, QP, QQ, JB, zz6, QO, ↓Qb]
    refine hK4 _ ?_; try clear hK4 K4
    refine kpA [2] ?_
    refine JJ ?_
    simp only [zz6, QO, ↓Qb]
    refine dnA ?_
    simp only [QD, QE, resA, JZ, QR, QP, JD, QQ, Qd, Qc, JP]
    have e : instOk i = false := by simp [instOk, shOk, hb]
    rw [e]
   ·intro hb
    simp only [Bool.not_eq_false'] at hb
    refine JI ?_
    simp only [zz6, QO, ↓Qb]
    refine hK2 _ ?_; try clear hK2 K2
    refine kpA [1, 6, 7] ?_
    refine Qz F_mixed [some 13, some 7] rfl ?_
    simp only [zzK, QR, QP, QQ, zz21, JM, zz26, JC, zz6, QO, ↓Qb]
    refine ⟨5, _, by decide, le_SK id [] rfl (l' := [(1, .ptr 1 0 0), (6, .ag [.d (iv i.s0), .d (iv i.s1), .d (iv i.s2), .d (iv i.s3), .d (iv i.s4), .d (iv i.s5)]), (7, .d (iv 1))]) (m' := [(1, (⟨True, 105, 12, true, false, 1, [[.d (iv i.no), .d (iv i.cur), .d (iv i.mult), .d (iv i.add), .d (iv i.set), .d (iv i.price), .d (iv i.s0), .d (iv i.s1), .d (iv i.s2), .d (iv i.s3), .d (iv i.s4), .d (iv i.s5)]]⟩ : ARow))]) ?_ ?_ ?_ ?_, .inr (.inl (⟨rfl, hb, rfl⟩))⟩
    ·simp only [leV, JD, QQ, Qd, Qc]; exact ⟨Qn _, Qn _, Qn _, trivial⟩
    ·exact ⟨fun _ => ⟨_, rfl, ⟨id, rfl, rfl, fun _ => rfl, id, .inl, VLess.refl _⟩⟩, fun h => by simp at h, trivial⟩
    ·simp [wfV, QY, QX, lookR]
    ·simp [wfR, QX, QY]
  ·intro hb
   simp at hb
 ·skip
  refine JA fun K2 hK2 => ?_
  refine Qz F_mixed [some 8] rfl ?_
  simp only [zzK, QR, QP, QQ, zz21, JM, zz22, zz6, QO, ↓Qb]
  refine hK2 _ ?_; try clear hK2 K2
  refine kpA [1, 6, 7, 8] ?_
  refine JA fun K2 hK2 => ?_
  refine cnA ?_ ?_
  ·intro hb
   clear hb
   refine JI ?_
   simp only [zz6, QO, ↓Qb]
   refine hK2 _ ?_; try clear hK2 K2
   refine kpA [1, 6, 7] ?_
   refine JA fun K2 hK2 => ?_
   refine JH ?_
   refine JA fun K3 hK3 => ?_
   refine Qz F_mixed [some 9, some 4] rfl ?_
   simp only [zzK, QR, QP, QQ, evS_index, evIv_int, ixB_some, ixV_ag, ixV_agg, F_arr103, F_ok3, F_ag3, F_sz3, zzG, zzD, QS, QN, zzH, JB, Int.reduceToNat, Int.reduceLT, Int.reduceLE, cast6, zz6, QO, ↓Qb]
   refine hK3 _ ?_; try clear hK3 K3
   refine kpA [1, 4, 6, 7] ?_
   refine JA fun K3 hK3 => ?_
   refine Qz F_mixed [some 10, some 11, some 12] rfl ?_
   simp only [zzK, QR, QP, QQ, JC, JE, JF, zz29, JM, zz30, zz6, QO, ↓Qb]
   refine JT F_go73 (fun hG => inR_ i.s1 (-1073741824) 1073741824) (by simp [QY, QX]) (by simp) ?_
   simp only [zzK, QR, QP, QQ, JC, JE, JF, zz29, JM, zz30, zz6, QO, ↓Qb, atsL, oksG, JV, QZ, Qa, JO, Qm, QT, QS, zz9, QB, QA, zzC, yyF, zzD, zz2]
   refine hK3 _ ?_; try clear hK3 K3
   refine kpA [1, 6, 7, 12] ?_
   refine cnA ?_ ?_
   ·intro hb
    simp only [Bool.not_eq_true'] at hb
    refine JA fun K4 hK4 => ?_
    refine Qz F_mixed [some 2] rfl ?_
    simp only [zzK, QR, QP, QQ, JB, zz6, QO, ↓Qb]
    refine hK4 _ ?_; try clear hK4 K4
    refine kpA [2] ?_
    refine JJ ?_
    simp only [zz6, QO, ↓Qb]
    refine dnA ?_
    simp only [QD, QE, resA, JZ, QR, QP, JD, QQ, Qd, Qc, JP]
    have e : instOk i = false := by simp [instOk, shOk, hb]
    rw [e]
   ·intro hb
    simp only [Bool.not_eq_false'] at hb
    refine JI ?_
    simp only [zz6, QO, ↓Qb]
    refine hK2 _ ?_; try clear hK2 K2
    refine kpA [1, 6, 7] ?_
    refine Qz F_mixed [some 13, some 7] rfl ?_
    simp only [zzK, QR, QP, QQ, zz21, JM, zz26, JC, zz6, QO, ↓Qb]
    refine ⟨4, _, by decide, le_SK id [] rfl (l' := [(1, .ptr 1 0 0), (6, .ag [.d (iv i.s0), .d (iv i.s1), .d (iv i.s2), .d (iv i.s3), .d (iv i.s4), .d (iv i.s5)]), (7, .d (iv 2))]) (m' := [(1, (⟨True, 105, 12, true, false, 1, [[.d (iv i.no), .d (iv i.cur), .d (iv i.mult), .d (iv i.add), .d (iv i.set), .d (iv i.price), .d (iv i.s0), .d (iv i.s1), .d (iv i.s2), .d (iv i.s3), .d (iv i.s4), .d (iv i.s5)]]⟩ : ARow))]) ?_ ?_ ?_ ?_, .inr (.inr (.inl (⟨rfl, h0, hb, rfl⟩)))⟩
    ·simp only [leV, JD, QQ, Qd, Qc]; exact ⟨Qn _, Qn _, Qn _, trivial⟩
    ·exact ⟨fun _ => ⟨_, rfl, ⟨id, rfl, rfl, fun _ => rfl, id, .inl, VLess.refl _⟩⟩, fun h => by simp at h, trivial⟩
    ·simp [wfV, QY, QX, lookR]
    ·simp [wfR, QX, QY]
  ·intro hb
   simp at hb
 ·skip
  refine JA fun K2 hK2 => ?_
  refine Qz F_mixed [some 8] rfl ?_
  simp only [zzK, QR, QP, QQ, zz21, JM, zz22, zz6, QO, ↓Qb]
  refine hK2 _ ?_; try clear hK2 K2
  refine kpA [1, 6, 7, 8] ?_
  refine JA fun K2 hK2 => ?_
  refine cnA ?_ ?_
  ·intro hb
   clear hb
   refine JI ?_
   simp only [zz6, QO, ↓Qb]
   refine hK2 _ ?_; try clear hK2 K2
   refine kpA [1, 6, 7] ?_
   refine JA fun K2 hK2 => ?_
   refine JH ?_
   refine JA fun K3 hK3 => ?_
   refine Qz F_mixed [some 9, some 4] rfl ?_
   simp only [zzK, QR, QP, QQ, evS_index, evIv_int, ixB_some, ixV_ag, ixV_agg, F_arr103, F_ok3, F_ag3, F_sz3, zzG, zzD, QS, QN, zzH, JB, Int.reduceToNat, Int.reduceLT, Int.reduceLE, cast6, zz6, QO, ↓Qb]
   refine hK3 _ ?_; try clear hK3 K3
   refine kpA [1, 4, 6, 7] ?_
   refine JA fun K3 hK3 => ?_
   refine Qz F_mixed [some 10, some 11, some 12] rfl ?_
   simp only [zzK, QR, QP, QQ, JC, JE, JF, zz29, JM, zz30, zz6, QO, ↓Qb]
   refine JT F_go73 (fun hG => inR_ i.s2 (-1073741824) 1073741824) (by simp [QY, QX]) (by simp) ?_
   simp only [zzK, QR, QP, QQ, JC, JE, JF, zz29, JM, zz30, zz6, QO, ↓Qb, atsL, oksG, JV, QZ, Qa, JO, Qm, QT, QS, zz9, QB, QA, zzC, yyF, zzD, zz2]
   refine hK3 _ ?_; try clear hK3 K3
   refine kpA [1, 6, 7, 12] ?_
   refine cnA ?_ ?_
   ·intro hb
    simp only [Bool.not_eq_true'] at hb
    refine JA fun K4 hK4 => ?_
    refine Qz F_mixed [some 2] rfl ?_
    simp only [zzK, QR, QP, QQ, JB, zz6, QO, ↓Qb]
    refine hK4 _ ?_; try clear hK4 K4
    refine kpA [2] ?_
    refine JJ ?_
    simp only [zz6, QO, ↓Qb]
    refine dnA ?_
    simp only [QD, QE, resA, JZ, QR, QP, JD, QQ, Qd, Qc, JP]
    have e : instOk i = false := by simp [instOk, shOk, hb]
    rw [e]
   ·intro hb
    simp only [Bool.not_eq_false'] at hb
    refine JI ?_
    simp only [zz6, QO, ↓Qb]
    refine hK2 _ ?_; try clear hK2 K2
    refine kpA [1, 6, 7] ?_
    refine Qz F_mixed [some 13, some 7] rfl ?_
    simp only [zzK, QR, QP, QQ, zz21, JM, zz26, JC, zz6, QO, ↓Qb]
    refine ⟨3, _, by decide, le_SK id [] rfl (l' := [(1, .ptr 1 0 0), (6, .ag [.d (iv i.s0), .d (iv i.s1), .d (iv i.s2), .d (iv i.s3), .d (iv i.s4), .d (iv i.s5)]), (7, .d (iv 3))]) (m' := [(1, (⟨True, 105, 12, true, false, 1, [[.d (iv i.no), .d (iv i.cur), .d (iv i.mult), .d (iv i.add), .d (iv i.set), .d (iv i.price), .d (iv i.s0), .d (iv i.s1), .d (iv i.s2), .d (iv i.s3), .d (iv i.s4), .d (iv i.s5)]]⟩ : ARow))]) ?_ ?_ ?_ ?_, .inr (.inr (.inr (.inl (⟨rfl, h0, h1, hb, rfl⟩))))⟩
    ·simp only [leV, JD, QQ, Qd, Qc]; exact ⟨Qn _, Qn _, Qn _, trivial⟩
    ·exact ⟨fun _ => ⟨_, rfl, ⟨id, rfl, rfl, fun _ => rfl, id, .inl, VLess.refl _⟩⟩, fun h => by simp at h, trivial⟩
    ·simp [wfV, QY, QX, lookR]
    ·simp [wfR, QX, QY]
  ·intro hb
   simp at hb
 ·skip
  refine JA fun K2 hK2 => ?_
  refine Qz F_mixed [some 8] rfl ?_
  simp only [zzK, QR, QP, QQ, zz21, JM, zz22, zz6, QO, ↓Qb]
  refine hK2 _ ?_; try clear hK2 K2
  refine kpA [1, 6, 7, 8] ?_
  refine JA fun K2 hK2 => ?_
  refine cnA ?_ ?_
  ·intro hb
   clear hb
   refine JI ?_
   simp only [zz6, QO, ↓Qb]
   refine hK2 _ ?_; try clear hK2 K2
   refine kpA [1, 6, 7] ?_
   refine JA fun K2 hK2 => ?_
   refine JH ?_
   refine JA fun K3 hK3 => ?_
   refine Qz F_mixed [some 9, some 4] rfl ?_
   simp only [zzK, QR, QP, QQ, evS_index, evIv_int, ixB_some, ixV_ag, ixV_agg, F_arr103, F_ok3, F_ag3, F_sz3, zzG, zzD, QS, QN, zzH, JB, Int.reduceToNat, Int.reduceLT, Int.reduceLE, cast6, zz6, QO, ↓Qb]
   refine hK3 _ ?_; try clear hK3 K3
   refine kpA [1, 4, 6, 7] ?_
   refine JA fun K3 hK3 => ?_
   refine Qz F_mixed [some 10, some 11, some 12] rfl ?_
   simp only [zzK, QR, QP, QQ, JC, JE, JF, zz29, JM, zz30, zz6, QO, ↓Qb]
   refine JT F_go73 (fun hG => inR_ i.s3 (-1073741824) 1073741824) (by simp [QY, QX]) (by simp) ?_
   simp only [zzK, QR, QP, QQ, JC, JE, JF, zz29, JM, zz30, zz6, QO, ↓Qb, atsL, oksG, JV, QZ, Qa, JO, Qm, QT, QS, zz9, QB, QA, zzC, yyF, zzD, zz2]
   refine hK3 _ ?_; try clear hK3 K3
   refine kpA [1, 6, 7, 12] ?_
   refine cnA ?_ ?_
   ·intro hb
    simp only [Bool.not_eq_true'] at hb
    refine JA fun K4 hK4 => ?_
    refine Qz F_mixed [some 2] rfl ?_
    simp only [zzK, QR, QP, QQ, JB, zz6, QO, ↓Qb]
    refine hK4 _ ?_; try clear hK4 K4
    refine kpA [2] ?_
    refine JJ ?_
    simp only [zz6, QO, ↓Qb]
    refine dnA ?_
    simp only [QD, QE, resA, JZ, QR, QP, JD, QQ, Qd, Qc, JP]
    have e : instOk i = false := by simp [instOk, shOk, hb]
    rw [e]
   ·intro hb
    simp only [Bool.not_eq_false'] at hb
    refine JI ?_
    simp only [zz6, QO, ↓Qb]
    refine hK2 _ ?_; try clear hK2 K2
    refine kpA [1, 6, 7] ?_
    refine Qz F_mixed [some 13, some 7] rfl ?_
    simp only [zzK, QR, QP, QQ, zz21, JM, zz26, JC, zz6, QO, ↓Qb]
    refine ⟨2, _, by decide, le_SK id [] rfl (l' := [(1, .ptr 1 0 0), (6, .ag [.d (iv i.s0), .d (iv i.s1), .d (iv i.s2), .d (iv i.s3), .d (iv i.s4), .d (iv i.s5)]), (7, .d (iv 4))]) (m' := [(1, (⟨True, 105, 12, true, false, 1, [[.d (iv i.no), .d (iv i.cur), .d (iv i.mult), .d (iv i.add), .d (iv i.set), .d (iv i.price), .d (iv i.s0), .d (iv i.s1), .d (iv i.s2), .d (iv i.s3), .d (iv i.s4), .d (iv i.s5)]]⟩ : ARow))]) ?_ ?_ ?_ ?_, .inr (.inr (.inr (.inr (.inl (⟨rfl, h0, h1, h2, hb, rfl⟩)))))⟩
    ·simp only [leV, JD, QQ, Qd, Qc]; exact ⟨Qn _, Qn _, Qn _, trivial⟩
    ·exact ⟨fun _ => ⟨_, rfl, ⟨id, rfl, rfl, fun _ => rfl, id, .inl, VLess.refl _⟩⟩, fun h => by simp at h, trivial⟩
    ·simp [wfV, QY, QX, lookR]
    ·simp [wfR, QX, QY]
  ·intro hb
   simp at hb
 ·skip
  refine JA fun K2 hK2 => ?_
  refine Qz F_mixed [some 8] rfl ?_
  simp only [zzK, QR, QP, QQ, zz21, JM, zz22, zz6, QO, ↓Qb]
  refine hK2 _ ?_; try clear hK2 K2
  refine kpA [1, 6, 7, 8] ?_
  refine JA fun K2 hK2 => ?_
  refine cnA ?_ ?_
  ·intro hb
   clear hb
   refine JI ?_
   simp only [zz6, QO, ↓Qb]
   refine hK2 _ ?_; try clear hK2 K2
   refine kpA [1, 6, 7] ?_
   refine JA fun K2 hK2 => ?_
   refine JH ?_
   refine JA fun K3 hK3 => ?_
   refine Qz F_mixed [some 9, some 4] rfl ?_
   simp only [zzK, QR, QP, QQ, evS_index, evIv_int, ixB_some, ixV_ag, ixV_agg, F_arr103, F_ok3, F_ag3, F_sz3, zzG, zzD, QS, QN, zzH, JB, Int.reduceToNat, Int.reduceLT, Int.reduceLE, cast6, zz6, QO, ↓Qb]
   refine hK3 _ ?_; try clear hK3 K3
   refine kpA [1, 4, 6, 7] ?_
   refine JA fun K3 hK3 => ?_
   refine Qz F_mixed [some 10, some 11, some 12] rfl ?_
   simp only [zzK, QR, QP, QQ, JC, JE, JF, zz29, JM, zz30, zz6, QO, ↓Qb]
   refine JT F_go73 (fun hG => inR_ i.s4 (-1073741824) 1073741824) (by simp [QY, QX]) (by simp) ?_
   simp only [zzK, QR, QP, QQ, JC, JE, JF, zz29, JM, zz30, zz6, QO, ↓Qb, atsL, oksG, JV, QZ, Qa, JO, Qm, QT, QS, zz9, QB, QA, zzC, yyF, zzD, zz2]
   refine hK3 _ ?_; try clear hK3 K3
   refine kpA [1, 6, 7, 12] ?_
   refine cnA ?_ ?_
   ·intro hb
    simp only [Bool.not_eq_true'] at hb
    refine JA fun K4 hK4 => ?_
    refine Qz F_mixed [some 2] rfl ?_
    simp only [zzK, QR, QP, QQ, JB, zz6, QO, ↓Qb]
    refine hK4 _ ?_; try clear hK4 K4
    refine kpA [2] ?_
    refine JJ ?_
    simp only [zz6, QO, ↓Qb]
    refine dnA ?_
    simp only [QD, QE, resA, JZ, QR, QP, JD, QQ, Qd, Qc, JP]
    have e : instOk i = false := by simp [instOk, shOk, hb]
    rw [e]
   ·intro hb
    simp only [Bool.not_eq_false'] at hb
    refine JI ?_
    simp only [zz6, QO, ↓Qb]
    refine hK2 _ ?_; try clear hK2 K2
    refine kpA [1, 6, 7] ?_
    refine Qz F_mixed [some 13, some 7] rfl ?_
    simp only [zzK, QR, QP, QQ, zz21, JM, zz26, JC, zz6, QO, ↓Qb]
    refine ⟨1, _, by decide, le_SK id [] rfl (l' := [(1, .ptr 1 0 0), (6, .ag [.d (iv i.s0), .d (iv i.s1), .d (iv i.s2), .d (iv i.s3), .d (iv i.s4), .d (iv i.s5)]), (7, .d (iv 5))]) (m' := [(1, (⟨True, 105, 12, true, false, 1, [[.d (iv i.no), .d (iv i.cur), .d (iv i.mult), .d (iv i.add), .d (iv i.set), .d (iv i.price), .d (iv i.s0), .d (iv i.s1), .d (iv i.s2), .d (iv i.s3), .d (iv i.s4), .d (iv i.s5)]]⟩ : ARow))]) ?_ ?_ ?_ ?_, .inr (.inr (.inr (.inr (.inr (.inl (⟨rfl, h0, h1, h2, h3, hb, rfl⟩))))))⟩
    ·simp only [leV, JD, QQ, Qd, Qc]; exact ⟨Qn _, Qn _, Qn _, trivial⟩
    ·exact ⟨fun _ => ⟨_, rfl, ⟨id, rfl, rfl, fun _ => rfl, id, .inl, VLess.refl _⟩⟩, fun h => by simp at h, trivial⟩
    ·simp [wfV, QY, QX, lookR]
    ·simp [wfR, QX, QY]
  ·intro hb
   simp at hb
 ·skip
  refine JA fun K2 hK2 => ?_
  refine Qz F_mixed [some 8] rfl ?_
  simp only [zzK, QR, QP, QQ, zz21, JM, zz22, zz6, QO, ↓Qb]
  refine hK2 _ ?_; try clear hK2 K2
  refine kpA [1, 6, 7, 8] ?_
  refine JA fun K2 hK2 => ?_
  refine cnA ?_ ?_
  ·intro hb
   clear hb
   refine JI ?_
   simp only [zz6, QO, ↓Qb]
   refine hK2 _ ?_; try clear hK2 K2
   refine kpA [1, 6, 7] ?_
   refine JA fun K2 hK2 => ?_
   refine JH ?_
   refine JA fun K3 hK3 => ?_
   refine Qz F_mixed [some 9, some 4] rfl ?_
   simp only [zzK, QR, QP, QQ, evS_index, evIv_int, ixB_some, ixV_ag, ixV_agg, F_arr103, F_ok3, F_ag3, F_sz3, zzG, zzD, QS, QN, zzH, JB, Int.reduceToNat, Int.reduceLT, Int.reduceLE, cast6, zz6, QO, ↓Qb]
   refine hK3 _ ?_; try clear hK3 K3
   refine kpA [1, 4, 6, 7] ?_
   refine JA fun K3 hK3 => ?_
   refine Qz F_mixed [some 10, some 11, some 12] rfl ?_
   simp only [zzK, QR, QP, QQ, JC, JE, JF, zz29, JM, zz30, zz6, QO, ↓Qb]
   refine JT F_go73 (fun hG => inR_ i.s5 (-1073741824) 1073741824) (by simp [QY, QX]) (by simp) ?_
   simp only [zzK, QR, QP, QQ, JC, JE, JF, zz29, JM, zz30, zz6, QO, ↓Qb, atsL, oksG, JV, QZ, Qa, JO, Qm, QT, QS, zz9, QB, QA, zzC, yyF, zzD, zz2]
   refine hK3 _ ?_; try clear hK3 K3
   refine kpA [1, 6, 7, 12] ?_
   refine cnA ?_ ?_
   ·intro hb
    simp only [Bool.not_eq_true'] at hb
    refine JA fun K4 hK4 => ?_
    refine Qz F_mixed [some 2] rfl ?_
    simp only [zzK, QR, QP, QQ, JB, zz6, QO, ↓Qb]
    refine hK4 _ ?_; try clear hK4 K4
    refine kpA [2] ?_
    refine JJ ?_
    simp only [zz6, QO, ↓Qb]
    refine dnA ?_
    simp only [QD, QE, resA, JZ, QR, QP, JD, QQ, Qd, Qc, JP]
    have e : instOk i = false := by simp [instOk, shOk, hb]
    rw [e]
   ·intro hb
    simp only [Bool.not_eq_false'] at hb
    refine JI ?_
    simp only [zz6, QO, ↓Qb]
    refine hK2 _ ?_; try clear hK2 K2
    refine kpA [1, 6, 7] ?_
    refine Qz F_mixed [some 13, some 7] rfl ?_
    simp only [zzK, QR, QP, QQ, zz21, JM, zz26, JC, zz6, QO, ↓Qb]
    refine ⟨0, _, by decide, le_SK id [] rfl (l' := [(1, .ptr 1 0 0), (6, .ag [.d (iv i.s0), .d (iv i.s1), .d (iv i.s2), .d (iv i.s3), .d (iv i.s4), .d (iv i.s5)]), (7, .d (iv 6))]) (m' := [(1, (⟨True, 105, 12, true, false, 1, [[.d (iv i.no), .d (iv i.cur), .d (iv i.mult), .d (iv i.add), .d (iv i.set), .d (iv i.price), .d (iv i.s0), .d (iv i.s1), .d (iv i.s2), .d (iv i.s3), .d (iv i.s4), .d (iv i.s5)]]⟩ : ARow))]) ?_ ?_ ?_ ?_, .inr (.inr (.inr (.inr (.inr (.inr (⟨rfl, h0, h1, h2, h3, h4, hb, rfl⟩))))))⟩
    ·simp only [leV, JD, QQ, Qd, Qc]; exact ⟨Qn _, Qn _, Qn _, trivial⟩
    ·exact ⟨fun _ => ⟨_, rfl, ⟨id, rfl, rfl, fun _ => rfl, id, .inl, VLess.refl _⟩⟩, fun h => by simp at h, trivial⟩
    ·simp [wfV, QY, QX, lookR]
    ·simp [wfR, QX, QY]
  ·intro hb
   simp at hb
 ·skip
  refine JA fun K2 hK2 => ?_
  refine Qz F_mixed [some 8] rfl ?_
  simp only [zzK, QR, QP, QQ, zz21, JM, zz22, zz6, QO, ↓Qb]
  refine hK2 _ ?_; try clear hK2 K2
  refine kpA [1, 6, 7, 8] ?_
  refine JA fun K2 hK2 => ?_
  refine cnA ?_ ?_
  ·intro hb
   simp at hb
  ·intro hb
   clear hb
   refine JK ?_
   simp only [zz6, QO, ↓Qb]
   refine hK0 _ ?_; try clear hK0 K0
   refine kpA [1] ?_
   refine JA fun K0 hK0 => ?_
   refine Qz F_mixed [some 14, some 15, some 16, some 17, some 18, some 19, some 20, some 21, some 22, some 23, some 24, some 25, some 26, some 27, some 28, some 29, some 30, some 31, some 32, some 33, some 34, some 35, some 36, some 37, some 38, some 39, some 40, some 41, some 2] rfl ?_
   simp only [zzK, QR, QP, QQ, QU, JZ, zz5, Qj, Qi, Qh, zz19, zz23, F_off105_0, zzH, QN, QS, F_ok3, F_ag3, F_sz3, zz8, zzD, zzC, QA, yyE, Qe, JE, JF, JC, F_off105_1, zz13, JQ, JR, F_off105_2, F_off105_3, F_off105_4, F_off105_5, JB, zz6, QO, ↓Qb]
   refine JT F_go73 (fun hG => inR_ i.no 1 8) (by simp [QY, QX]) (by simp) ?_
   simp only [zzK, QR, QP, QQ, QU, JZ, zz5, Qj, Qi, Qh, zz19, zz23, F_off105_0, zzH, QN, QS, F_ok3, F_ag3, F_sz3, zz8, zzD, zzC, QA, yyE, Qe, JE, JF, JC, F_off105_1, zz13, JQ, JR, F_off105_2, F_off105_3, F_off105_4, F_off105_5, JB, zz6, QO, ↓Qb, atsL, oksG, JV, QZ, Qa, JO, Qm, QT, QS, zz9, QB, QA, S_mem, yyF, QF, zz2]
   refine JT F_go73 (fun hG => inR_ i.cur 0 2) (by simp [QY, QX]) (by simp) ?_
   simp only [zzK, QR, QP, QQ, QU, JZ, zz5, Qj, Qi, Qh, zz19, zz23, F_off105_0, zzH, QN, QS, F_ok3, F_ag3, F_sz3, zz8, zzD, zzC, QA, yyE, Qe, JE, JF, JC, F_off105_1, zz13, JQ, JR, F_off105_2, F_off105_3, F_off105_4, F_off105_5, JB, zz6, QO, ↓Qb, atsL, oksG, JV, QZ, Qa, JO, Qm, QT, QS, zz9, QB, QA, S_mem, yyF, QF, zz2]
   refine JT F_go73 (fun hG => inR_ i.mult 1 1024) (by simp [QY, QX]) (by simp) ?_
   simp only [zzK, QR, QP, QQ, QU, JZ, zz5, Qj, Qi, Qh, zz19, zz23, F_off105_0, zzH, QN, QS, F_ok3, F_ag3, F_sz3, zz8, zzD, zzC, QA, yyE, Qe, JE, JF, JC, F_off105_1, zz13, JQ, JR, F_off105_2, F_off105_3, F_off105_4, F_off105_5, JB, zz6, QO, ↓Qb, atsL, oksG, JV, QZ, Qa, JO, Qm, QT, QS, zz9, QB, QA, S_mem, yyF, QF, zz2]
   refine JT F_go73 (fun hG => inR_ i.add 0 1073741824) (by simp [QY, QX]) (by simp) ?_
   simp only [zzK, QR, QP, QQ, QU, JZ, zz5, Qj, Qi, Qh, zz19, zz23, F_off105_0, zzH, QN, QS, F_ok3, F_ag3, F_sz3, zz8, zzD, zzC, QA, yyE, Qe, JE, JF, JC, F_off105_1, zz13, JQ, JR, F_off105_2, F_off105_3, F_off105_4, F_off105_5, JB, zz6, QO, ↓Qb, atsL, oksG, JV, QZ, Qa, JO, Qm, QT, QS, zz9, QB, QA, S_mem, yyF, QF, zz2]
   refine JT F_go73 (fun hG => inR_ i.set 0 1073741824) (by simp [QY, QX]) (by simp) ?_
   simp only [zzK, QR, QP, QQ, QU, JZ, zz5, Qj, Qi, Qh, zz19, zz23, F_off105_0, zzH, QN, QS, F_ok3, F_ag3, F_sz3, zz8, zzD, zzC, QA, yyE, Qe, JE, JF, JC, F_off105_1, zz13, JQ, JR, F_off105_2, F_off105_3, F_off105_4, F_off105_5, JB, zz6, QO, ↓Qb, atsL, oksG, JV, QZ, Qa, JO, Qm, QT, QS, zz9, QB, QA, S_mem, yyF, QF, zz2]
   refine JT F_go73 (fun hG => inR_ i.price 0 1073741824) (by simp [QY, QX]) (by simp) ?_
   simp only [zzK, QR, QP, QQ, QU, JZ, zz5, Qj, Qi, Qh, zz19, zz23, F_off105_0, zzH, QN, QS, F_ok3, F_ag3, F_sz3, zz8, zzD, zzC, QA, yyE, Qe, JE, JF, JC, F_off105_1, zz13, JQ, JR, F_off105_2, F_off105_3, F_off105_4, F_off105_5, JB, zz6, QO, ↓Qb, atsL, oksG, JV, QZ, Qa, JO, Qm, QT, QS, zz9, QB, QA, S_mem, yyF, QF, zz2]
   refine hK0 _ ?_; try clear hK0 K0
   refine kpA [2] ?_
   refine JJ ?_
   simp only [zz6, QO, ↓Qb]
   refine dnA ?_
   simp only [QD, QE, resA, JZ, QR, QP, JD, QQ, Qd, Qc, JP]
   simp only [instOk, h0, h1, h2, h3, h4, h5, Bool.true_and]
theorem risesI_ (l : List InstV) (hl : l.length < 4611686018427387904) : ACalls Try.prog 55 [instsD l, fnD 56, fnD 57] [] (bv (chk instOk InstV.no none l)) := by
 refine acalls_S (rs := [.tmp 6]) Try.func55 rfl rfl 38 [(0, .d (instsD l)), (1, .d (fnD 56)), (2, .d (fnD 57))] rfl (by simp) rfl ?_
 refine JA fun K0 hK0 => ?_
 refine Qz F_mixed [some 6] rfl ?_
 simp only [zzK, QR, QP, QQ, JB, zz6, QO, ↓Qb]
 refine hK0 _ ?_; try clear hK0 K0
 refine kpA [0, 1, 2] ?_
 refine JA fun K0 hK0 => ?_
 refine JA fun K1 hK1 => ?_
 refine Qz F_mixed [some 9, some 10, some 11] rfl ?_
 simp only [zzK, QR, QP, QQ, JC, JE, zz12, F_sl42, Option.isSome_some, instsD, JN, zz6, QO, ↓Qb]
 refine hK1 _ ?_; try clear hK1 K1
 refine kpA [0, 1, 2, 9, 10, 11] ?_
 refine JH ?_
 refine JL (fun m s => ∃ pre post : List InstV, l = pre ++ post ∧ chk instOk InstV.no none l = chk instOk InstV.no pre.getLast? post ∧ m = post.length ∧ s = S 38 [(0, .d (instsD l)), (1, .d (fnD 56)), (2, .d (fnD 57)), (9, .d (instsD l)), (10, .d (iv l.length)), (11, .d (iv pre.length))] []) l.length _ (le_S0 (l' := [(0, .d (instsD l)), (1, .d (fnD 56)), (2, .d (fnD 57)), (9, .d (instsD l)), (10, .d (iv l.length)), (11, .d (iv ([] : List InstV).length))]) ?_ ?_) ⟨[], l, rfl, rfl, rfl, rfl⟩ ?_
 ·simp only [leL, JD, QQ, Qd, Qc, instsD, JN, List.length_nil]; trivial
 ·simp [wfV, QY]
 rintro m s ⟨pre, post, rfl, hck, rfl, rfl⟩
 refine JA fun K2 hK2 => ?_
 refine Qz F_mixed [some 12] rfl ?_
 simp only [zzK, QR, QP, QQ, zz21, JM, zz22, zz6, QO, ↓Qb]
 refine hK2 _ ?_; try clear hK2 K2
 refine kpA [0, 1, 2, 9, 10, 11, 12] ?_
 refine JA fun K2 hK2 => ?_
 refine cnA ?_ ?_
 ·intro hb
  obtain ⟨x, post, rfl⟩ := more_of hb; clear hb
  have hp : pre.length < 4611686018427387904 := by simp at hl; omega
  have hpg := prev_get instC pre post x [] hp
  refine JI ?_
  simp only [zz6, QO, ↓Qb]
  refine hK2 _ ?_; try clear hK2 K2
  refine kpA [0, 1, 2, 9, 10, 11] ?_
  refine JA fun K2 hK2 => ?_
  refine JH ?_
  refine JA fun K3 hK3 => ?_
  refine Qz F_mixed [some 13, some 14, some 15, some 8, some 7, none] rfl ?_
  simp only [zzK, QR, QP, QQ, JC, JW, zz23, zz24, F_sl42, F_sz105, QA, zzC, yyE, Qe, F_ok105, F_ag105, zz8, zzD, QS, QN, zzH, zz32, JS, F_zero105, zz10, JB, zz18, splice, QG, zz1, zzG, instsD, instC, getD_mid, JN, lt_mid, ge_mid, zz6, QO, ↓Qb]
  refine hK3 _ ?_; try clear hK3 K3
  refine kpA [0, 1, 2, 7, 8, 9, 10, 11] ?_
  refine JA fun K3 hK3 => ?_
  refine awp_draw F_mixed [some 16, some 17, some 18, some 19, some 20, some 21, some 22, some 23, some 24, some 25, some 26, some 27, some 28, some 29, some 30, some 31, some 32, some 33, some 34, some 35, some 36] rfl (by kernel_rfl) ?_
  simp only [zzK, QR, QP, QQ, QU, JZ, zz5, Qj, Qi, Qh, JC, F_ok105, F_ag105, F_sz105, zz8, zz23, zzD, QS, QN, zzH, zzC, QA, yyE, Qe, JE, JF, zz29, JM, zz30, zz21, zz25, zz33, JW, zz24, F_sl42, zz31, zz13, JQ, JR, fnD, instsD, instC, JN, hpg, QW, zz6, QO, ↓Qb]
  refine call_goT ?_ ?_ F_go57 (fun hG => instOk_ x) (by simp [QY, QX]) (by simp) ?_
  ·decide
  ·simp only [JD, QQ, Qd, Qc, bare_d, bare_wh, fnD]
  simp only [zzK, QR, QP, QQ, QU, JZ, zz5, Qj, Qi, Qh, JC, F_ok105, F_ag105, F_sz105, zz8, zz23, zzD, QS, QN, zzH, zzC, QA, yyE, Qe, JE, JF, zz29, JM, zz30, zz21, zz25, zz33, JW, zz24, F_sl42, zz31, zz13, JQ, JR, fnD, instsD, instC, JN, hpg, QW, zz6, QO, ↓Qb, QU, JZ, Gp_some, Qj, Qi, Qh, atsL, oksG, JV, QZ, Qa, JO, Qm, QT, QS, zz9, QB, QA, S_mem, yyF, QF, zz2]
  refine ⟨⟨fun _ hp2 => prev_ok pre hp hp2, fun _ _ => prev_lt pre post x hp⟩, ?_⟩
  refine call_goT ?_ ?_ F_go56 (fun hG => noInst_ (lastOr x pre)) (by simp [QY, QX]) (by simp) ?_
  ·decide
  ·simp only [JD, QQ, Qd, Qc, bare_d, bare_wh, fnD]
  simp only [zzK, QR, QP, QQ, QU, JZ, zz5, Qj, Qi, Qh, JC, F_ok105, F_ag105, F_sz105, zz8, zz23, zzD, QS, QN, zzH, zzC, QA, yyE, Qe, JE, JF, zz29, JM, zz30, zz21, zz25, zz33, JW, zz24, F_sl42, zz31, zz13, JQ, JR, fnD, instsD, instC, JN, hpg, QW, zz6, QO, ↓Qb, QU, JZ, Gp_some, Qj, Qi, Qh, atsL, oksG, JV, QZ, Qa, JO, Qm, QT, QS, zz9, QB, QA, S_mem, yyF, QF, zz2]
  refine call_goT ?_ ?_ F_go56 (fun hG => noInst_ x) (by simp [QY, QX]) (by simp) ?_
  ·decide
  ·simp only [JD, QQ, Qd, Qc, bare_d, bare_wh, fnD]
  simp only [zzK, QR, QP, QQ, QU, JZ, zz5, Qj, Qi, Qh, JC, F_ok105, F_ag105, F_sz105, zz8, zz23, zzD, QS, QN, zzH, zzC, QA, yyE, Qe, JE, JF, zz29, JM, zz30, zz21, zz25, zz33, JW, zz24, F_sl42, zz31, zz13, JQ, JR, fnD, instsD, instC, JN, hpg, QW, zz6, QO, ↓Qb, QU, JZ, Gp_some, Qj, Qi, Qh, atsL, oksG, JV, QZ, Qa, JO, Qm, QT, QS, zz9, QB, QA, S_mem, yyF, QF, zz2]
  refine hK3 _ ?_; try clear hK3 K3
  refine kpA [0, 1, 2, 9, 10, 11, 36] ?_
  refine cnA ?_ ?_
  ·intro hb
   refine JA fun K4 hK4 => ?_
   refine Qz F_mixed [some 6] rfl ?_
   simp only [zzK, QR, QP, QQ, JB, zz6, QO, ↓Qb]
   refine hK4 _ ?_; try clear hK4 K4
   refine kpA [6] ?_
   refine JJ ?_
   simp only [zz6, QO, ↓Qb]
   refine dnA ?_
   simp only [QD, QE, resA, JZ, QR, QP, JD, QQ, Qd, Qc, JP]
   rw [hck, chk_step, hb]; simp
  ·intro hb
   refine JI ?_
   simp only [zz6, QO, ↓Qb]
   refine hK2 _ ?_; try clear hK2 K2
   refine kpA [0, 1, 2, 9, 10, 11] ?_
   refine Qz F_mixed [some 37, some 11] rfl ?_
   simp only [zzK, QR, QP, QQ, zz21, JM, zz26, JC, zz6, QO, ↓Qb]
   refine ⟨post.length, _, by simp, le_S0 (l' := [(0, .d (instsD (pre ++ x :: post))), (1, .d (fnD 56)), (2, .d (fnD 57)), (9, .d (instsD (pre ++ x :: post))), (10, .d (iv (pre ++ x :: post).length)), (11, .d (iv (pre ++ [x]).length))]) ?_ ?_, pre ++ [x], post, by simp, by rw [hck, chk_step, hb]; simp, rfl, rfl⟩
   ·simp only [leL, JD, QQ, Qd, Qc, wrap_len pre x (by simp at hl; omega), instsD, fnD]; trivial
   ·simp [wfV, QY]
 ·intro hb
  obtain rfl := none_of hb; clear hb
  refine JK ?_
  simp only [zz6, QO, ↓Qb]
  refine hK0 _ ?_; try clear hK0 K0
  refine kpA [] ?_
  refine JA fun K0 hK0 => ?_
  refine Qz F_mixed [some 6] rfl ?_
  simp only [zzK, QR, QP, QQ, JB, zz6, QO, ↓Qb]
  refine hK0 _ ?_; try clear hK0 K0
  refine kpA [6] ?_
  refine JJ ?_
  simp only [zz6, QO, ↓Qb]
  refine dnA ?_
  simp only [QD, QE, resA, JZ, QR, QP, JD, QQ, Qd, Qc, JP]
  rw [hck]; rfl
theorem risesA_ (l : List AssetV) (hl : l.length < 4611686018427387904) : ACalls Try.prog 58 [assetsD l, fnD 59, fnD 60] [] (bv (chk assetOk AssetV.no none l)) := by
 refine acalls_S (rs := [.tmp 6]) Try.func58 rfl rfl 38 [(0, .d (assetsD l)), (1, .d (fnD 59)), (2, .d (fnD 60))] rfl (by simp) rfl ?_
 refine JA fun K0 hK0 => ?_
 refine Qz F_mixed [some 6] rfl ?_
 simp only [zzK, QR, QP, QQ, JB, zz6, QO, ↓Qb]
 refine hK0 _ ?_; try clear hK0 K0
 refine kpA [0, 1, 2] ?_
 refine JA fun K0 hK0 => ?_
 refine JA fun K1 hK1 => ?_
 refine Qz F_mixed [some 9, some 10, some 11] rfl ?_
 simp only [zzK, QR, QP, QQ, JC, JE, zz12, F_sl43, Option.isSome_some, assetsD, JN, zz6, QO, ↓Qb]
 refine hK1 _ ?_; try clear hK1 K1
 refine kpA [0, 1, 2, 9, 10, 11] ?_
 refine JH ?_
 refine JL (fun m s => ∃ pre post : List AssetV, l = pre ++ post ∧ chk assetOk AssetV.no none l = chk assetOk AssetV.no pre.getLast? post ∧ m = post.length ∧ s = S 38 [(0, .d (assetsD l)), (1, .d (fnD 59)), (2, .d (fnD 60)), (9, .d (assetsD l)), (10, .d (iv l.length)), (11, .d (iv pre.length))] []) l.length _ (le_S0 (l' := [(0, .d (assetsD l)), (1, .d (fnD 59)), (2, .d (fnD 60)), (9, .d (assetsD l)), (10, .d (iv l.length)), (11, .d (iv ([] : List AssetV).length))]) ?_ ?_) ⟨[], l, rfl, rfl, rfl, rfl⟩ ?_
 ·simp only [leL, JD, QQ, Qd, Qc, assetsD, JN, List.length_nil]; trivial
 ·simp [wfV, QY]
 rintro m s ⟨pre, post, rfl, hck, rfl, rfl⟩
 refine JA fun K2 hK2 => ?_
 refine Qz F_mixed [some 12] rfl ?_
 simp only [zzK, QR, QP, QQ, zz21, JM, zz22, zz6, QO, ↓Qb]
 refine hK2 _ ?_; try clear hK2 K2
 refine kpA [0, 1, 2, 9, 10, 11, 12] ?_
 refine JA fun K2 hK2 => ?_
 refine cnA ?_ ?_
 ·intro hb
  obtain ⟨x, post, rfl⟩ := more_of hb; clear hb
  have hp : pre.length < 4611686018427387904 := by simp at hl; omega
  have hpg := prev_get assetC pre post x [] hp
  refine JI ?_
  simp only [zz6, QO, ↓Qb]
  refine hK2 _ ?_; try clear hK2 K2
  refine kpA [0, 1, 2, 9, 10, 11] ?_
  refine JA fun K2 hK2 => ?_
  refine JH ?_
  refine JA fun K3 hK3 => ?_
  refine Qz F_mixed [some 13, some 14, some 15, some 8, some 7, none] rfl ?_
  simp only [zzK, QR, QP, QQ, JC, JW, zz23, zz24, F_sl43, F_sz110, QA, zzC, yyE, Qe, F_ok110, F_ag110, zz8, zzD, QS, QN, zzH, zz32, JS, F_zero110, zz10, JB, zz18, splice, QG, zz1, zzG, assetsD, assetC, getD_mid, JN, lt_mid, ge_mid, zz6, QO, ↓Qb]
  refine hK3 _ ?_; try clear hK3 K3
  refine kpA [0, 1, 2, 7, 8, 9, 10, 11] ?_
  refine JA fun K3 hK3 => ?_
  refine awp_draw F_mixed [some 16, some 17, some 18, some 19, some 20, some 21, some 22, some 23, some 24, some 25, some 26, some 27, some 28, some 29, some 30, some 31, some 32, some 33, some 34, some 35, some 36] rfl (by kernel_rfl) ?_
  simp only [zzK, QR, QP, QQ, QU, JZ, zz5, Qj, Qi, Qh, JC, F_ok110, F_ag110, F_sz110, zz8, zz23, zzD, QS, QN, zzH, zzC, QA, yyE, Qe, JE, JF, zz29, JM, zz30, zz21, zz25, zz33, JW, zz24, F_sl43, zz31, zz13, JQ, JR, fnD, assetsD, assetC, JN, hpg, QW, zz6, QO, ↓Qb]
  refine call_goT ?_ ?_ F_go60 (fun hG => assetOk_ x) (by simp [QY, QX]) (by simp) ?_
  ·decide
  ·simp only [JD, QQ, Qd, Qc, bare_d, bare_wh, fnD]
  simp only [zzK, QR, QP, QQ, QU, JZ, zz5, Qj, Qi, Qh, JC, F_ok110, F_ag110, F_sz110, zz8, zz23, zzD, QS, QN, zzH, zzC, QA, yyE, Qe, JE, JF, zz29, JM, zz30, zz21, zz25, zz33, JW, zz24, F_sl43, zz31, zz13, JQ, JR, fnD, assetsD, assetC, JN, hpg, QW, zz6, QO, ↓Qb, QU, JZ, Gp_some, Qj, Qi, Qh, atsL, oksG, JV, QZ, Qa, JO, Qm, QT, QS, zz9, QB, QA, S_mem, yyF, QF, zz2]
  refine ⟨⟨fun _ hp2 => prev_ok pre hp hp2, fun _ _ => prev_lt pre post x hp⟩, ?_⟩
  refine call_goT ?_ ?_ F_go59 (fun hG => noAsset_ (lastOr x pre)) (by simp [QY, QX]) (by simp) ?_
  ·decide
  ·simp only [JD, QQ, Qd, Qc, bare_d, bare_wh, fnD]
  simp only [zzK, QR, QP, QQ, QU, JZ, zz5, Qj, Qi, Qh, JC, F_ok110, F_ag110, F_sz110, zz8, zz23, zzD, QS, QN, zzH, zzC, QA, yyE, Qe, JE, JF, zz29, JM, zz30, zz21, zz25, zz33, JW, zz24, F_sl43, zz31, zz13, JQ, JR, fnD, assetsD, assetC, JN, hpg, QW, zz6, QO, ↓Qb, QU, JZ, Gp_some, Qj, Qi, Qh, atsL, oksG, JV, QZ, Qa, JO, Qm, QT, QS, zz9, QB, QA, S_mem, yyF, QF, zz2]
  refine call_goT ?_ ?_ F_go59 (fun hG => noAsset_ x) (by simp [QY, QX]) (by simp) ?_
  ·decide
  ·simp only [JD, QQ, Qd, Qc, bare_d, bare_wh, fnD]
  simp only [zzK, QR, QP, QQ, QU, JZ, zz5, Qj, Qi, Qh, JC, F_ok110, F_ag110, F_sz110, zz8, zz23, zzD, QS, QN, zzH, zzC, QA, yyE, Qe, JE, JF, zz29, JM, zz30, zz21, zz25, zz33, JW, zz24, F_sl43, zz31, zz13, JQ, JR, fnD, assetsD, assetC, JN, hpg, QW, zz6, QO, ↓Qb, QU, JZ, Gp_some, Qj, Qi, Qh, atsL, oksG, JV, QZ, Qa, JO, Qm, QT, QS, zz9, QB, QA, S_mem, yyF, QF, zz2]
  refine hK3 _ ?_; try clear hK3 K3
  refine kpA [0, 1, 2, 9, 10, 11, 36] ?_
  refine cnA ?_ ?_
  ·intro hb
   refine JA fun K4 hK4 => ?_
   refine Qz F_mixed [some 6] rfl ?_
   simp only [zzK, QR, QP, QQ, JB, zz6, QO, ↓Qb]
   refine hK4 _ ?_; try clear hK4 K4
   refine kpA [6] ?_
   refine JJ ?_
   simp only [zz6, QO, ↓Qb]
   refine dnA ?_
   simp only [QD, QE, resA, JZ, QR, QP, JD, QQ, Qd, Qc, JP]
   rw [hck, chk_step, hb]; simp
  ·intro hb
   refine JI ?_
   simp only [zz6, QO, ↓Qb]
   refine hK2 _ ?_; try clear hK2 K2
   refine kpA [0, 1, 2, 9, 10, 11] ?_
   refine Qz F_mixed [some 37, some 11] rfl ?_
   simp only [zzK, QR, QP, QQ, zz21, JM, zz26, JC, zz6, QO, ↓Qb]
   refine ⟨post.length, _, by simp, le_S0 (l' := [(0, .d (assetsD (pre ++ x :: post))), (1, .d (fnD 59)), (2, .d (fnD 60)), (9, .d (assetsD (pre ++ x :: post))), (10, .d (iv (pre ++ x :: post).length)), (11, .d (iv (pre ++ [x]).length))]) ?_ ?_, pre ++ [x], post, by simp, by rw [hck, chk_step, hb]; simp, rfl, rfl⟩
   ·simp only [leL, JD, QQ, Qd, Qc, wrap_len pre x (by simp at hl; omega), assetsD, fnD]; trivial
   ·simp [wfV, QY]
 ·intro hb
  obtain rfl := none_of hb; clear hb
  refine JK ?_
  simp only [zz6, QO, ↓Qb]
  refine hK0 _ ?_; try clear hK0 K0
  refine kpA [] ?_
  refine JA fun K0 hK0 => ?_
  refine Qz F_mixed [some 6] rfl ?_
  simp only [zzK, QR, QP, QQ, JB, zz6, QO, ↓Qb]
  refine hK0 _ ?_; try clear hK0 K0
  refine kpA [6] ?_
  refine JJ ?_
  simp only [zz6, QO, ↓Qb]
  refine dnA ?_
  simp only [QD, QE, resA, JZ, QR, QP, JD, QQ, Qd, Qc, JP]
  rw [hck]; rfl
theorem check_ (r : RollV) (h : r.Small) : ACalls Try.prog 29 [.agg (rollC r)] [] (.d (iv (rollE r))) := by
 refine acalls_S (rs := [.tmp 2]) Try.func29 rfl rfl 19 [(0, .d (.agg (rollC r)))] rfl (by simp) rfl ?_
 refine JA fun K0 hK0 => ?_
 refine Qz F_mixed [some 1, some 2] rfl ?_
 simp only [zzK, QR, QP, QQ, zz35, JS, zz1, zzG, zzD, zzC, QA, yyE, Qe, QS, QN, zzH, JB, rollC, memsD, instsD, assetsD, zz6, QO, ↓Qb]
 refine hK0 _ ?_; try clear hK0 K0
 refine kpA [1] ?_
 refine JA fun K0 hK0 => ?_
 refine JA fun K1 hK1 => ?_
 refine Qz F_mixed [some 3, some 4, some 5, some 6, some 7, some 8, some 9, some 10, some 11, some 12, some 13, some 14, some 15, some 16, some 17, some 18] rfl ?_
 simp only [zzK, QR, QP, QQ, QU, JZ, zz5, Qj, Qi, Qh, zz19, zz23, F_off45_0, zzH, QN, QS, F_ok41, F_ag41, F_sz41, zz8, zzD, zzC, QA, yyE, Qe, JE, JF, zz29, JM, zz30, JC, F_off45_1, F_ok42, F_ag42, F_sz42, zz13, JQ, JR, F_off45_2, F_ok43, F_ag43, F_sz43, memsD, instsD, assetsD, fnD, zz6, QO, ↓Qb]
 refine JT F_go52 (fun hG => risesM_ r.mems (by have := h.mems; omega)) (by simp [QY, QX]) (by simp) ?_
 simp only [zzK, QR, QP, QQ, QU, JZ, zz5, Qj, Qi, Qh, zz19, zz23, F_off45_0, zzH, QN, QS, F_ok41, F_ag41, F_sz41, zz8, zzD, zzC, QA, yyE, Qe, JE, JF, zz29, JM, zz30, JC, F_off45_1, F_ok42, F_ag42, F_sz42, zz13, JQ, JR, F_off45_2, F_ok43, F_ag43, F_sz43, memsD, instsD, assetsD, fnD, zz6, QO, ↓Qb, atsL, oksG, JV, QZ, Qa, JO, Qm, QT, QS, zz9, QB, QA, S_mem, yyF, QF, zz2]
 refine JT F_go55 (fun hG => risesI_ r.insts (by have := h.insts; omega)) (by simp [QY, QX]) (by simp) ?_
 simp only [zzK, QR, QP, QQ, QU, JZ, zz5, Qj, Qi, Qh, zz19, zz23, F_off45_0, zzH, QN, QS, F_ok41, F_ag41, F_sz41, zz8, zzD, zzC, QA, yyE, Qe, JE, JF, zz29, JM, zz30, JC, F_off45_1, F_ok42, F_ag42, F_sz42, zz13, JQ, JR, F_off45_2, F_ok43, F_ag43, F_sz43, memsD, instsD, assetsD, fnD, zz6, QO, ↓Qb, atsL, oksG, JV, QZ, Qa, JO, Qm, QT, QS, zz9, QB, QA, S_mem, yyF, QF, zz2]
 refine JT F_go58 (fun hG => risesA_ r.assets (by have := h.assets; omega)) (by simp [QY, QX]) (by simp) ?_
 simp only [zzK, QR, QP, QQ, QU, JZ, zz5, Qj, Qi, Qh, zz19, zz23, F_off45_0, zzH, QN, QS, F_ok41, F_ag41, F_sz41, zz8, zzD, zzC, QA, yyE, Qe, JE, JF, zz29, JM, zz30, JC, F_off45_1, F_ok42, F_ag42, F_sz42, zz13, JQ, JR, F_off45_2, F_ok43, F_ag43, F_sz43, memsD, instsD, assetsD, fnD, zz6, QO, ↓Qb, atsL, oksG, JV, QZ, Qa, JO, Qm, QT, QS, zz9, QB, QA, S_mem, yyF, QF, zz2]
 refine hK1 _ ?_; try clear hK1 K1
 refine kpA [18] ?_
 refine cnA ?_ ?_
 ·intro hb
  refine JA fun K2 hK2 => ?_
  refine Qz F_mixed [some 2] rfl ?_
  simp only [zzK, QR, QP, QQ, JB, zz6, QO, ↓Qb]
  refine hK2 _ ?_; try clear hK2 K2
  refine kpA [2] ?_
  refine JJ ?_
  simp only [zz6, QO, ↓Qb]
  refine dnA ?_
  simp only [QD, QE, resA, JZ, QR, QP, JD, QQ, Qd, Qc, JP]
  have e : rollOk r = false := by
   cases hk : rollOk r
   ·rfl
   ·simp [rollOk] at hk; simp [hk] at hb
  simp only [rollE, e, Qc]
 ·intro hb
  refine JI ?_
  simp only [zz6, QO, ↓Qb]
  refine hK0 _ ?_; try clear hK0 K0
  refine kpA [] ?_
  refine JA fun K0 hK0 => ?_
  refine Qz F_mixed [some 2] rfl ?_
  simp only [zzK, QR, QP, QQ, JB, zz6, QO, ↓Qb]
  refine hK0 _ ?_; try clear hK0 K0
  refine kpA [2] ?_
  refine JJ ?_
  simp only [zz6, QO, ↓Qb]
  refine dnA ?_
  simp only [QD, QE, resA, JZ, QR, QP, JD, QQ, Qd, Qc, JP]
  have e : rollOk r = true := by simp only [Bool.or_eq_false_iff, Bool.not_eq_false'] at hb; simp [rollOk, hb]
  simp only [rollE, e, Qd]
theorem heavy_ (r : RollV) : ACalls Try.prog 13 [.agg (rollC r)] [] (bv (heavy r)) := by
 refine acalls_S (rs := [.tmp 2]) Try.func13 rfl rfl 19 [(0, .d (.agg (rollC r)))] rfl (by simp) rfl ?_
 refine JA fun K0 hK0 => ?_
 refine Qz F_mixed [some 1, some 2] rfl ?_
 simp only [zzK, QR, QP, QQ, zz35, JS, zz1, zzG, zzD, zzC, QA, yyE, Qe, QS, QN, zzH, JB, rollC, memsD, instsD, assetsD, zz6, QO, ↓Qb]
 refine hK0 _ ?_; try clear hK0 K0
 refine kpA [1] ?_
 refine JA fun K0 hK0 => ?_
 refine Qz F_mixed [some 3, some 4, some 5, some 6, some 7, some 8, some 9, some 10, some 11, some 12, some 13, some 14, some 15, some 16, some 17, some 18, some 2] rfl ?_
 simp only [zzK, QR, QP, QQ, QU, JZ, zz5, Qj, Qi, Qh, zz19, zz23, F_off45_0, zzH, QN, QS, F_ok41, F_ag41, F_sz41, zz8, zzD, zzC, QA, yyE, Qe, JE, zz12, F_sl41, Option.isSome_some, zz21, JM, zz25, JC, F_off45_1, F_ok42, F_ag42, F_sz42, F_sl42, zz13, JQ, JR, F_off45_2, F_ok43, F_ag43, F_sz43, F_sl43, JB, memsD, instsD, assetsD, JN, zz6, QO, ↓Qb]
 refine hK0 _ ?_; try clear hK0 K0
 refine kpA [2] ?_
 refine JJ ?_
 simp only [zz6, QO, ↓Qb]
 refine dnA ?_
 simp only [QD, QE, resA, JZ, QR, QP, JD, QQ, Qd, Qc, JP]
 rfl
theorem Move_ (a b : AcV) (n : Int) : ACalls Try.prog 31 [.agg (acC a), .agg (acC b), iv n] [⟨34, 4, (moveL a b n).map legC⟩] (.ref 0 2) := by
 refine acalls_S (rs := [.tmp 6]) Try.func31 rfl rfl 19 [(0, .d (.agg (acC a))), (1, .d (.agg (acC b))), (2, .d (iv n))] rfl (by simp) rfl ?_
 refine JA fun K0 hK0 => ?_
 refine Qz F_mixed [some 3, some 4, some 6] rfl ?_
 simp only [zzK, QR, QP, QQ, zz35, JS, zz1, zzG, zzD, zzC, QA, yyE, Qe, QS, QN, zzH, JB, acC, zz6, QO, ↓Qb]
 refine hK0 _ ?_; try clear hK0 K0
 refine kpA [2, 3, 4] ?_
 refine JA fun K0 hK0 => ?_
 refine JA fun K1 hK1 => ?_
 refine Qz F_mixed [some 7, some 8, some 9, some 10] rfl ?_
 simp only [zzK, QR, QP, QQ, JC, F_sl25, F_zero3, F_sz3, zz3, JS, zz1, zzG, zzD, zzC, QA, yyE, Qe, QS, QN, zzH, maxLen_le, QT, JE, JF, zz29, JM, zz30, ints, QD, D.sl.injEq, zz6, QO, ↓Qb]
 refine JT F_go36 (fun hG => Right_ [n] (by simp)) (by simp [QY, QX]) (by simp) ?_
 simp only [zzK, QR, QP, QQ, JC, F_sl25, F_zero3, F_sz3, zz3, JS, zz1, zzG, zzD, zzC, QA, yyE, Qe, QS, QN, zzH, maxLen_le, QT, JE, JF, zz29, JM, zz30, ints, QD, zz6, QO, ↓Qb, atsL, oksG, JV, QZ, Qa, JO, Qm, QT, QS, zz9, QB, QA, S_mem, yyF, QF, zz2]
 refine hK1 _ ?_; try clear hK1 K1
 refine kpA [2, 3, 4, 10] ?_
 refine cnA ?_ ?_
 ·intro hb
  have e : rightN n = false := by simpa using hb
  clear hb
  have hw : Ql .i64 (0 - 0) = 0 - 0 := wrapI (by omega) (by omega)
  refine Qz F_mixed [some 2] rfl ?_
  simp only [zzK, QR, QP, QQ, JB, zz6, QO, ↓Qb]
  refine hK0 _ ?_; try clear hK0 K0
  refine kpA [2, 3, 4] ?_
  refine JA fun K0 hK0 => ?_
  refine Qz F_mixed [some 11, some 12, some 13, some 14, some 15, some 16, some 17, some 18, some 6] rfl ?_
  simp only [zzK, QR, QP, QQ, F_ok32, F_ag32, F_sz32, zz8, zz23, zzD, QS, QN, zzH, zzC, QA, yyE, Qe, JC, zz29, JM, zz37, F_zero34, F_bld34, zz7, splice, Option.getD_some, QG, zz1, zzG, zz10, F_fld34_0, F_fld34_1, F_sl26, F_sz34, zz3, JS, maxLen_le, QT, JB, hw, zz6, QO, ↓Qb]
  refine hK0 _ ?_; try clear hK0 K0
  refine kpA [6] ?_
  refine JJ ?_
  simp only [zz6, QO, ↓Qb]
  rw [moveL, e]
  refine done1 18 (by simp only [resCs, resC]; trivial) ?_ (by simp [Ja, Jb, Jc, legC]) (by simp [QY, QX, legC]) (by rfl) trivial rfl rfl ?_ (by simp [flatDs, Jc, legC])
  ·simp only [QD, QE, resA, JZ, QR, QP, JD, QQ, Qd, Qc, JP]; rfl
  ·simp only [QD, QE, legC, Qd, Qc]
 ·intro hb
  have e : rightN n = true := by simpa using hb
  clear hb
  have hn : -4611686018427387904 ≤ n ∧ n ≤ 4611686018427387904 := by simpa [rightN] using e
  have hw : Ql .i64 (0 - n) = 0 - n := wrapI (by omega) (by omega)
  refine JI ?_
  simp only [zz6, QO, ↓Qb]
  refine hK0 _ ?_; try clear hK0 K0
  refine kpA [2, 3, 4] ?_
  refine JA fun K0 hK0 => ?_
  refine Qz F_mixed [some 11, some 12, some 13, some 14, some 15, some 16, some 17, some 18, some 6] rfl ?_
  simp only [zzK, QR, QP, QQ, F_ok32, F_ag32, F_sz32, zz8, zz23, zzD, QS, QN, zzH, zzC, QA, yyE, Qe, JC, zz29, JM, zz37, F_zero34, F_bld34, zz7, splice, Option.getD_some, QG, zz1, zzG, zz10, F_fld34_0, F_fld34_1, F_sl26, F_sz34, zz3, JS, maxLen_le, QT, JB, hw, zz6, QO, ↓Qb]
  refine hK0 _ ?_; try clear hK0 K0
  refine kpA [6] ?_
  refine JJ ?_
  simp only [zz6, QO, ↓Qb]
  rw [moveL, e]
  refine done1 18 (by simp only [resCs, resC]; trivial) ?_ (by simp [Ja, Jb, Jc, legC]) (by simp [QY, QX, legC]) (by rfl) trivial rfl rfl ?_ (by simp [flatDs, Jc, legC])
  ·simp only [QD, QE, resA, JZ, QR, QP, JD, QQ, Qd, Qc, JP]; rfl
  ·simp only [QD, QE, legC, Qd, Qc]
theorem MoveF (a b : AcV) (n : Int) : ACalls Try.prog 31 [.agg (acC a), .agg (acC b), iv n] [] (.d (legs (moveL a b n))) := (Move_ a b n).freeze (by simp [frzOk, moveL])
set_option maxRecDepth 100000 in
set_option maxHeartbeats 4000000 in
theorem refill_ (nx : Int) (l : List LegV) (r : RollV) (c : Int) (hl : l.length ≤ 400000) (h : r.Small) (hm : r.mems.length ≤ 400000) : ACalls Try.prog 14 [.agg (ledC ⟨nx, l⟩), .agg (rollC r), iv c] [⟨34, 4, (rfV ⟨nx, l⟩ r c).map legC⟩, ⟨53, 3, (rfU ⟨nx, l⟩ r c).map fdueC⟩] (.tp [.ref 0 (rfV ⟨nx, l⟩ r c).length, .ref 1 (rfU ⟨nx, l⟩ r c).length, .d (iv (rfE ⟨nx, l⟩ r c))]) := by
 refine acalls_S (rs := [.tmp 6, .tmp 7, .tmp 8]) Try.func14 rfl rfl 95 [(0, .d (.agg (ledC ⟨nx, l⟩))), (1, .d (.agg (rollC r))), (2, .d (iv c))] rfl (by simp) rfl ?_
 refine JA fun K0 hK0 => ?_
 refine Qz F_mixed [some 3, some 4, some 6, some 7, some 8] rfl ?_
 simp only [zzK, QR, QP, QQ, zz35, JS, zz1, zzG, zzD, zzC, QA, yyE, Qe, QS, QN, zzH, JB, ledC, legs, rollC, memsD, instsD, assetsD, zz6, QO, ↓Qb]
 refine hK0 _ ?_; try clear hK0 K0
 refine kpA [2, 3, 4] ?_
 refine JA fun K0 hK0 => ?_
 refine Qz F_mixed [some 18, some 19, some 9] rfl ?_
 simp only [zzK, QR, QP, QQ, F_ok24, F_ag24, F_sz24, zz8, zz23, zzD, QS, QN, zzH, zzC, QA, yyE, Qe, JE, JF, JB, ledC, legs, QW, zz6, QO, ↓Qb]
 refine JT F_go25 (fun hG => lchk_ nx l (by omega)) (by simp [QY, QX]) (by simp) ?_
 simp only [zzK, QR, QP, QQ, F_ok24, F_ag24, F_sz24, zz8, zz23, zzD, QS, QN, zzH, zzC, QA, yyE, Qe, JE, JF, JB, ledC, legs, QW, zz6, QO, ↓Qb, atsL, oksG, JV, QZ, Qa, JO, Qm, QT, QS, zz9, QB, QA, S_mem, yyF, QF, zz2]
 refine hK0 _ ?_; try clear hK0 K0
 refine kpA [2, 3, 4, 9] ?_
 refine JA fun K0 hK0 => ?_
 refine JA fun K1 hK1 => ?_
 refine Qz F_mixed [some 20, some 21] rfl ?_
 simp only [zzK, QR, QP, QQ, JC, zz21, JM, zz34, zz6, QO, ↓Qb]
 refine hK1 _ ?_; try clear hK1 K1
 refine kpA [2, 3, 4, 9, 21] ?_
 refine cnA ?_ ?_
 ·intro hb
  have he : ledE ⟨nx, l⟩ = 0 := by simpa using hb
  clear hb
  have he2 : (ledE ⟨nx, l⟩ != 0) = false := by simp [he]
  refine Qz F_mixed [some 22, some 23, some 9] rfl ?_
  simp only [zzK, QR, QP, QQ, F_ok45, F_ag45, F_sz45, zz8, zz23, zzD, QS, QN, zzH, zzC, QA, yyE, Qe, JE, JF, JB, memsD, instsD, assetsD, rollC, QW, memA, memC, instA, instC, zzG, zz6, QO, ↓Qb]
  refine JT F_go29 (fun hG => check_ r h) (by simp [QY, QX, memA, memC, instA, instC]) (by simp) ?_
  simp only [zzK, QR, QP, QQ, F_ok45, F_ag45, F_sz45, zz8, zz23, zzD, QS, QN, zzH, zzC, QA, yyE, Qe, JE, JF, JB, memsD, instsD, assetsD, rollC, QW, memA, memC, instA, instC, zzG, zz6, QO, ↓Qb, atsL, oksG, JV, QZ, Qa, JO, Qm, QT, QS, zz9, QB, QA, S_mem, yyF, QF, zz2]
  refine hK0 _ ?_; try clear hK0 K0
  refine kpA [2, 3, 4, 9] ?_
  refine JA fun K0 hK0 => ?_
  refine JA fun K1 hK1 => ?_
  refine Qz F_mixed [some 24, some 25, some 26, some 27, some 28, some 29, some 30] rfl ?_
  simp only [zzK, QR, QP, QQ, QU, JZ, zz5, Qj, Qi, Qh, and_self, JC, zz21, JM, zz34, JE, JF, zz29, zz30, zz13, JQ, JR, zz6, QO, ↓Qb]
  refine JT F_go26 (fun hG => rightCur_ c) (by simp [QY, QX]) (by simp) ?_
  simp only [zzK, QR, QP, QQ, QU, JZ, zz5, Qj, Qi, Qh, and_self, JC, zz21, JM, zz34, JE, JF, zz29, zz30, zz13, JQ, JR, zz6, QO, ↓Qb, atsL, oksG, JV, QZ, Qa, JO, Qm, QT, QS, zz9, QB, QA, zzC, yyF, zzD, zz2]
  refine hK1 _ ?_; try clear hK1 K1
  refine kpA [2, 3, 4, 9, 30] ?_
  refine cnA ?_ ?_
  ·intro hb
   have hb2 : rollE r = 0 ∧ curOk c = false := by simpa using hb
   clear hb
   obtain ⟨hr, hc⟩ := hb2
   have hr2 : (rollE r != 0) = false := by simp [hr]
   have hc2 : (!curOk c) = true := by simp [hc]
   refine Qz F_mixed [some 9] rfl ?_
   simp only [zzK, QR, QP, QQ, JB, zz6, QO, ↓Qb]
   refine hK0 _ ?_; try clear hK0 K0
   refine kpA [2, 3, 4, 9] ?_
   refine JA fun K0 hK0 => ?_
   refine JA fun K1 hK1 => ?_
   refine Qz F_mixed [some 31, some 32] rfl ?_
   simp only [zzK, QR, QP, QQ, JC, zz21, JM, zz28, zz6, QO, ↓Qb]
   refine hK1 _ ?_; try clear hK1 K1
   refine kpA [2, 3, 4, 9, 32] ?_
   refine cnA ?_ ?_
   ·intro hb
    clear hb
    refine JA fun K2 hK2 => ?_
    refine Qz F_mixed [some 33, some 6, some 7, some 8] rfl ?_
    simp only [zzK, QR, QP, QQ, JC, JB, zz6, QO, ↓Qb]
    refine hK2 _ ?_; try clear hK2 K2
    refine kpA [6, 7, 8] ?_
    refine awp_le (le_SK id [0, 1] rfl (l' := [(6, .ref 0 0), (7, .ref 1 0), (8, .d (iv 3))]) (m' := [(0, (⟨True, 34, 4, true, true, 0, []⟩ : ARow)), (1, (⟨True, 53, 3, true, true, 1, []⟩ : ARow))]) ?_ ?_ ?_ ?_) ?_
    ·simp only [leV, JD, QQ, Qd, Qc]; exact ⟨Qq (by decide), Qq (by decide), Qo rfl, trivial⟩
    ·exact ⟨fun h => by simp at h, fun _ => rfl, fun h => by simp at h, fun _ => rfl, trivial⟩
    ·simp [wfV, QY, lookR]
    ·simp [wfR]
    refine JJ ?_
    simp only [zz6, QO, ↓Qb]
    rw [show rfV ⟨nx, l⟩ r c = [] by simp only [rfV, show (rfE ⟨nx, l⟩ r c != 0) = true by simp only [rfE, he2, hr2, hc2, Qd, Qc] <;> first | assumption | rfl, Qd], show rfU ⟨nx, l⟩ r c = [] by simp only [rfU, show (rfE ⟨nx, l⟩ r c != 0) = true by simp only [rfE, he2, hr2, hc2, Qd, Qc] <;> first | assumption | rfl, Qd], show rfE ⟨nx, l⟩ r c = 3 by simp only [rfE, he2, hr2, hc2, Qd, Qc]]
    refine doneN [0, 1] (by simp [resCs, resC, S, List.getD, JD, lookR, legC, fdueC]) ?_ (by simp [Ja, Jb, Jc, ]) (by simp [QY, QX, ]) (by decide) ?_
    ·simp only [QD, QE, resA, JZ, S_mem, lookR_cons, lookR_nil, QR, QP, JD, QQ, Qd, Qc, JP, QI, QJ, QH, QL, QK, List.take_zero, legC, fdueC]; rfl
    ·exact ⟨⟨_, rfl, trivial, rfl, rfl, rfl, rfl⟩, by simp [flatDs, Jc, legC], ⟨_, rfl, trivial, rfl, rfl, rfl, rfl⟩, by simp [flatDs, Jc, fdueC], trivial⟩
   ·intro hb
    simp at hb
  ·intro hb
   have hb2 := hb
   clear hb
   refine JI ?_
   simp only [zz6, QO, ↓Qb]
   refine hK0 _ ?_; try clear hK0 K0
   refine kpA [2, 3, 4, 9] ?_
   refine JA fun K0 hK0 => ?_
   refine JA fun K1 hK1 => ?_
   refine Qz F_mixed [some 31, some 32] rfl ?_
   simp only [zzK, QR, QP, QQ, JC, zz21, JM, zz28, zz6, QO, ↓Qb]
   refine hK1 _ ?_; try clear hK1 K1
   refine kpA [2, 3, 4, 9, 32] ?_
   refine cnA ?_ ?_
   ·intro hb
    have hr2 : (rollE r != 0) = true := hb
    clear hb
    refine JA fun K2 hK2 => ?_
    refine Qz F_mixed [some 33, some 6, some 7, some 8] rfl ?_
    simp only [zzK, QR, QP, QQ, JC, JB, zz6, QO, ↓Qb]
    refine hK2 _ ?_; try clear hK2 K2
    refine kpA [6, 7, 8] ?_
    refine awp_le (le_SK id [0, 1] rfl (l' := [(6, .ref 0 0), (7, .ref 1 0), (8, .d (iv (rollE r)))]) (m' := [(0, (⟨True, 34, 4, true, true, 0, []⟩ : ARow)), (1, (⟨True, 53, 3, true, true, 1, []⟩ : ARow))]) ?_ ?_ ?_ ?_) ?_
    ·simp only [leV, JD, QQ, Qd, Qc]; exact ⟨Qq (by decide), Qq (by decide), Qo rfl, trivial⟩
    ·exact ⟨fun h => by simp at h, fun _ => rfl, fun h => by simp at h, fun _ => rfl, trivial⟩
    ·simp [wfV, QY, lookR]
    ·simp [wfR]
    refine JJ ?_
    simp only [zz6, QO, ↓Qb]
    rw [show rfV ⟨nx, l⟩ r c = [] by simp only [rfV, show (rfE ⟨nx, l⟩ r c != 0) = true by simp only [rfE, he2, hr2, Qd, Qc] <;> first | assumption | rfl, Qd], show rfU ⟨nx, l⟩ r c = [] by simp only [rfU, show (rfE ⟨nx, l⟩ r c != 0) = true by simp only [rfE, he2, hr2, Qd, Qc] <;> first | assumption | rfl, Qd], show rfE ⟨nx, l⟩ r c = rollE r by simp only [rfE, he2, hr2, Qd, Qc]]
    refine doneN [0, 1] (by simp [resCs, resC, S, List.getD, JD, lookR, legC, fdueC]) ?_ (by simp [Ja, Jb, Jc, ]) (by simp [QY, QX, ]) (by decide) ?_
    ·simp only [QD, QE, resA, JZ, S_mem, lookR_cons, lookR_nil, QR, QP, JD, QQ, Qd, Qc, JP, QI, QJ, QH, QL, QK, List.take_zero, legC, fdueC]; rfl
    ·exact ⟨⟨_, rfl, trivial, rfl, rfl, rfl, rfl⟩, by simp [flatDs, Jc, legC], ⟨_, rfl, trivial, rfl, rfl, rfl, rfl⟩, by simp [flatDs, Jc, fdueC], trivial⟩
   ·intro hb
    have hr2 : (rollE r != 0) = false := hb
    clear hb
    have hr : rollE r = 0 := by simpa using hr2
    have hc2 : (!curOk c) = false := by simpa [hr] using hb2
    clear hb2
    refine JI ?_
    simp only [zz6, QO, ↓Qb]
    refine hK0 _ ?_; try clear hK0 K0
    refine kpA [2, 3, 4] ?_
    refine JA fun K0 hK0 => ?_
    refine Qz F_mixed [some 10] rfl ?_
    simp only [zzK, QR, QP, QQ, JB, zz6, QO, ↓Qb]
    refine hK0 _ ?_; try clear hK0 K0
    refine kpA [2, 3, 4, 10] ?_
    refine JA fun K0 hK0 => ?_
    refine Qz F_mixed [some 11] rfl ?_
    simp only [zzK, QR, QP, QQ, JB, zz6, QO, ↓Qb]
    refine hK0 _ ?_; try clear hK0 K0
    refine kpA [2, 3, 4, 10, 11] ?_
    refine JA fun K0 hK0 => ?_
    refine JA fun K1 hK1 => ?_
    refine Qz F_mixed [some 34, some 35, some 36, some 37] rfl ?_
    simp only [zzK, QR, QP, QQ, zz19, zz23, F_off45_0, zzH, QN, QS, F_ok41, F_ag41, F_sz41, zz8, zzD, zzC, QA, yyE, Qe, JE, zz12, F_sl41, Option.isSome_some, JC, JN, zz6, QO, ↓Qb]
    refine hK1 _ ?_; try clear hK1 K1
    refine kpA [2, 3, 10, 11, 35, 36, 37] ?_
    refine JH ?_
    refine JL (fun m s => ∃ (pre : List MemV) (post : List MemV), (r.mems = pre ++ post) ∧ m = post.length ∧ s = S 95 [(2, .d (iv c)), (3, .ptr 3 0 0), (10, .ref 10 (rfLs l c pre).length), (11, .ref 11 (rfDs l c pre).length), (35, .d (.sl 3 (r.mems.map memC))), (36, .d (iv r.mems.length)), (37, .d (iv pre.length))] [(3, (⟨True, 24, 2, true, false, 3, [[.d (iv nx), .d (.sl 4 (l.map legC))]]⟩ : ARow)), (10, grow 34 4 10 ((rfLs l c pre).map legC)), (11, grow 53 3 11 ((rfDs l c pre).map fdueC))]) (r.mems.length) _ (le_SK id [10, 11] rfl (l' := [(2, .d (iv c)), (3, .ptr 3 0 0), (10, .ref 10 (rfLs l c []).length), (11, .ref 11 (rfDs l c []).length), (35, .d (.sl 3 (r.mems.map memC))), (36, .d (iv r.mems.length)), (37, .d (iv [].length))]) (m' := [(3, (⟨True, 24, 2, true, false, 3, [[.d (iv nx), .d (.sl 4 (l.map legC))]]⟩ : ARow)), (10, grow 34 4 10 ((rfLs l c []).map legC)), (11, grow 53 3 11 ((rfDs l c []).map fdueC))]) ?_ ?_ ?_ ?_) ⟨[], r.mems, rfl, rfl, rfl⟩ ?_
    ·simp only [leV, JD, QQ, Qd, Qc]; exact ⟨(by first | exact Qo rfl | exact Qq (by decide) | exact Qp | exact Qn _ | exact Qs (by simp) (by rfl) | exact Qr (by simp) (by rfl) (by first | rfl | (simp; done) | (simp; omega)) | exact Qt (by first | rfl | simp)), (by first | exact Qo rfl | exact Qq (by decide) | exact Qp | exact Qn _ | exact Qs (by simp) (by rfl) | exact Qr (by simp) (by rfl) (by first | rfl | (simp; done) | (simp; omega)) | exact Qt (by first | rfl | simp)), (by first | exact Qo rfl | exact Qq (by decide) | exact Qp | exact Qn _ | exact Qs (by simp) (by rfl) | exact Qr (by simp) (by rfl) (by first | rfl | (simp; done) | (simp; omega)) | exact Qt (by first | rfl | simp)), (by first | exact Qo rfl | exact Qq (by decide) | exact Qp | exact Qn _ | exact Qs (by simp) (by rfl) | exact Qr (by simp) (by rfl) (by first | rfl | (simp; done) | (simp; omega)) | exact Qt (by first | rfl | simp)), (by first | exact Qo rfl | exact Qq (by decide) | exact Qp | exact Qn _ | exact Qs (by simp) (by rfl) | exact Qr (by simp) (by rfl) (by first | rfl | (simp; done) | (simp; omega)) | exact Qt (by first | rfl | simp)), (by first | exact Qo rfl | exact Qq (by decide) | exact Qp | exact Qn _ | exact Qs (by simp) (by rfl) | exact Qr (by simp) (by rfl) (by first | rfl | (simp; done) | (simp; omega)) | exact Qt (by first | rfl | simp)), (by first | exact Qo rfl | exact Qq (by decide) | exact Qp | exact Qn _ | exact Qs (by simp) (by rfl) | exact Qr (by simp) (by rfl) (by first | rfl | (simp; done) | (simp; omega)) | exact Qt (by first | rfl | simp)), trivial⟩
    ·exact ⟨fun _ => ⟨_, rfl, (by first | exact Qv (by simp [QX, QY]) | exact Qu (by simp) (by simp [QX, QY]))⟩, fun h => by simp at h, fun h => by simp at h, fun _ => rfl, fun h => by simp at h, fun _ => rfl, trivial⟩
    ·simp [wfV, QY, QX, lookR, grow]
    ·exact ⟨by simp [QX, QY, lookR], wf_data _ _, wf_data _ _, trivial⟩
    rintro m s ⟨pre, post, hsp, rfl, rfl⟩
    have hspl := congrArg List.length hsp
    simp only [QC] at hspl
    have hLl := rfLs_len l c pre
    have hDl := rfDs_len l c pre
    refine JA fun K2 hK2 => ?_
    refine Qz F_mixed [some 38] rfl ?_
    simp only [zzK, QR, QP, QQ, zz21, JM, zz22, zz6, QO, ↓Qb]
    refine hK2 _ ?_; try clear hK2 K2
    refine kpA [2, 3, 10, 11, 35, 36, 37, 38] ?_
    refine JA fun K2 hK2 => ?_
    refine cnA ?_ ?_
    ·intro hb
     obtain ⟨x, post2, rfl⟩ : ∃ x t, post = x :: t := by
      cases post with
      | nil => have := Qg hb; simp at hspl; omega
      | cons x t => exact ⟨x, t, rfl⟩
     clear hb
     simp only [QF] at hspl
     have gx : (r.mems.map memC).getD pre.length [] = [iv x.no, iv x.state, iv x.need] := by
      rw [hsp, List.map_append]; exact gd_mid' (A := pre.map memC) _ _ (by simp)
     have bx := ltI (show pre.length < r.mems.length by omega)
     have hwx : Ql .i64 ((pre.length : Int) + 1) = ((pre ++ [x]).length : Int) := by rw [wrapI (by omega) (by omega)]; simp
     refine JI ?_
     simp only [zz6, QO, ↓Qb]
     refine hK2 _ ?_; try clear hK2 K2
     refine kpA [2, 3, 10, 11, 35, 36, 37] ?_
     refine JA fun K2 hK2 => ?_
     refine JH ?_
     refine JA fun K3 hK3 => ?_
     refine Qz F_mixed [some 39, some 40, some 13, none] rfl ?_
     simp only [zzK, QR, QP, QQ, JW, zz23, zz24, F_sl41, F_sz51, QA, zzC, yyE, Qe, F_ok51, F_ag51, zz8, zzD, QS, QN, zzH, zz32, JS, F_zero51, zz10, zz18, splice, QG, zz1, zzG, gx, bx, hwx, JN, ge0, QV, QW, zz6, QO, ↓Qb]
     refine hK3 _ ?_; try clear hK3 K3
     refine kpA [2, 3, 10, 11, 13, 35, 36, 37] ?_
     refine JA fun K3 hK3 => ?_
     refine JA fun K4 hK4 => ?_
     refine Qz F_mixed [some 41, some 42, some 43] rfl ?_
     simp only [zzK, QR, QP, QQ, zz19, zz23, F_off51_1, zzH, QN, QS, F_ok3, F_ag3, F_sz3, zz8, zzD, zzC, QA, yyE, Qe, zz21, JM, zz28, zz6, QO, ↓Qb]
     refine hK4 _ ?_; try clear hK4 K4
     refine kpA [2, 3, 10, 11, 13, 35, 36, 37, 43] ?_
     refine cnA ?_ ?_
     ·intro hb
      have hx : (x.state != 1) = true := hb
      clear hb
      have hl0 : rfLs l c (pre ++ [x]) = rfLs l c pre := by rw [rfLs_snoc]; simp only [rfL1, hx, Qd, QG]
      have hd0 : rfDs l c (pre ++ [x]) = rfDs l c pre := by rw [rfDs_snoc]; simp only [rfD1, hx, Qd, QG]
      refine JK ?_
      simp only [zz6, QO, ↓Qb]
      refine hK2 _ ?_; try clear hK2 K2
      refine kpA [2, 3, 10, 11, 35, 36, 37] ?_
      refine Qz F_mixed [some 84, some 37] rfl ?_
      simp only [zzK, QR, QP, QQ, zz21, JM, zz26, JC, hwx, zz6, QO, ↓Qb]
      refine ⟨post2.length, _, by simp, le_SK id [] rfl (l' := [(2, .d (iv c)), (3, .ptr 3 0 0), (10, .ref 10 (rfLs l c (pre ++ [x])).length), (11, .ref 11 (rfDs l c (pre ++ [x])).length), (35, .d (.sl 3 (r.mems.map memC))), (36, .d (iv r.mems.length)), (37, .d (iv (pre ++ [x]).length))]) (m' := [(3, (⟨True, 24, 2, true, false, 3, [[.d (iv nx), .d (.sl 4 (l.map legC))]]⟩ : ARow)), (10, grow 34 4 10 ((rfLs l c (pre ++ [x])).map legC)), (11, grow 53 3 11 ((rfDs l c (pre ++ [x])).map fdueC))]) ?_ ?_ ?_ ?_, (pre ++ [x]), post2, by simp [hsp], rfl, rfl⟩
      ·simp only [leV, JD, QQ, Qd, Qc, hwx, hl0, hd0]; exact ⟨(by first | exact Qo rfl | exact Qq (by decide) | exact Qp | exact Qn _ | exact Qs (by simp) (by rfl) | exact Qr (by simp) (by rfl) (by first | rfl | (simp; done) | (simp; omega)) | exact Qt (by first | rfl | simp)), (by first | exact Qo rfl | exact Qq (by decide) | exact Qp | exact Qn _ | exact Qs (by simp) (by rfl) | exact Qr (by simp) (by rfl) (by first | rfl | (simp; done) | (simp; omega)) | exact Qt (by first | rfl | simp)), (by first | exact Qo rfl | exact Qq (by decide) | exact Qp | exact Qn _ | exact Qs (by simp) (by rfl) | exact Qr (by simp) (by rfl) (by first | rfl | (simp; done) | (simp; omega)) | exact Qt (by first | rfl | simp)), (by first | exact Qo rfl | exact Qq (by decide) | exact Qp | exact Qn _ | exact Qs (by simp) (by rfl) | exact Qr (by simp) (by rfl) (by first | rfl | (simp; done) | (simp; omega)) | exact Qt (by first | rfl | simp)), (by first | exact Qo rfl | exact Qq (by decide) | exact Qp | exact Qn _ | exact Qs (by simp) (by rfl) | exact Qr (by simp) (by rfl) (by first | rfl | (simp; done) | (simp; omega)) | exact Qt (by first | rfl | simp)), (by first | exact Qo rfl | exact Qq (by decide) | exact Qp | exact Qn _ | exact Qs (by simp) (by rfl) | exact Qr (by simp) (by rfl) (by first | rfl | (simp; done) | (simp; omega)) | exact Qt (by first | rfl | simp)), (by first | exact Qo rfl | exact Qq (by decide) | exact Qp | exact Qn _ | exact Qs (by simp) (by rfl) | exact Qr (by simp) (by rfl) (by first | rfl | (simp; done) | (simp; omega)) | exact Qt (by first | rfl | simp)), trivial⟩
      ·exact ⟨fun _ => ⟨_, rfl, (by first | exact Qv (by simp [QX, QY]) | exact Qu (by simp) (by simp [QX, QY]))⟩, fun h => by simp at h, fun _ => ⟨_, rfl, Qw (by rw [hl0])⟩, fun h => by simp at h, fun _ => ⟨_, rfl, Qw (by rw [hd0])⟩, fun h => by simp at h, trivial⟩
      ·simp [wfV, QY, QX, lookR, grow]
      ·exact ⟨by simp [QX, QY, lookR], wf_data _ _, wf_data _ _, trivial⟩
     ·intro hb
      have hx : (x.state != 1) = false := hb
      clear hb
      have hl1 : rfLs l c (pre ++ [x]) = rfLs l c pre ++ moveL ⟨2, x.no, c⟩ ⟨3, x.no, c⟩ (pyN l c x) := by rw [rfLs_snoc]; simp only [rfL1, hx, Qc]; rfl
      have hmv : (moveL ⟨2, x.no, c⟩ ⟨3, x.no, c⟩ (pyN l c x)).length = 2 := rfl
      have hk : (if (0 : Int) > Ql .i64 (x.need - ofL ⟨3, x.no, c⟩ l) then 0 else Ql .i64 (x.need - ofL ⟨3, x.no, c⟩ l)) = lkN l c x := rfl
      have hch : (if (0 : Int) > ofL ⟨2, x.no, c⟩ l then 0 else ofL ⟨2, x.no, c⟩ l) = chN l c x := rfl
      have hpy := py_eq l c x
      refine JI ?_
      simp only [zz6, QO, ↓Qb]
      refine hK3 _ ?_; try clear hK3 K3
      refine kpA [2, 3, 10, 11, 13, 35, 36, 37] ?_
      refine JA fun K3 hK3 => ?_
      refine awp_tree F_mixed [some 44, some 45, some 46, some 47, some 48, some 49, some 50, some 51, some 14, some 15, none, none] rfl (.one 0 (.one 1 (.one 2 (.one 3 (.one 4 (.one 6 (.one 8 (.one 9 (.two (.one 5 (.one 7 (.one 10 (.one 11 .nil)))) (.one 10 (.one 5 (.one 7 (.one 11 .nil))))))))))))) (by kernel_rfl) ?_
      simp only [zzK, QR, QP, QQ, zz19, zz23, F_off51_0, zzH, QN, QS, F_ok3, F_ag3, F_sz3, zz8, zzD, zzC, QA, yyE, Qe, JC, F_zero32, F_bld32, zz7, splice, Option.getD_some, QG, zz1, zzG, zz10, F_fld32_0, F_fld32_1, F_fld32_2, zz32, JS, zz18, F_ok32, F_sz32, acC, fAc, zz6, QO, ↓Qb, evT, List.getElem?_cons_zero, List.getElem?_cons_succ]
      refine hK3 _ ?_; try clear hK3 K3
      refine kpA [2, 3, 10, 11, 13, 14, 15, 35, 36, 37] ?_
      refine JA fun K3 hK3 => ?_
      refine awp_draw F_mixed [some 52, some 53, some 54, some 55, some 56, some 57, some 58, some 16] rfl (by kernel_rfl) ?_
      simp only [zzK, QR, QP, QQ, zz19, zz23, F_off51_2, zzH, QN, QS, F_ok3, F_ag3, F_sz3, zz8, zzD, zzC, QA, yyE, Qe, F_ok24, F_ag24, F_sz24, F_ok32, F_ag32, F_sz32, JE, JF, zz21, JM, zz33, zz11, grsL, QB, oksL, JB, ledC, legs, acC, fAc, hk, QW, zz6, QO, ↓Qb]
      refine JT F_go30 (fun hG => of10_ nx l (fAc 3 x.no c) (by omega)) (by simp [QY, QX]) (by simp) ?_
      simp only [zzK, QR, QP, QQ, zz19, zz23, F_off51_2, zzH, QN, QS, F_ok3, F_ag3, F_sz3, zz8, zzD, zzC, QA, yyE, Qe, F_ok24, F_ag24, F_sz24, F_ok32, F_ag32, F_sz32, JE, JF, zz21, JM, zz33, zz11, grsL, QB, oksL, JB, ledC, legs, acC, fAc, hk, QW, zz6, QO, ↓Qb, atsL, oksG, JV, QZ, Qa, JO, Qm, QT, QS, zz9, QB, QA, S_mem, yyF, QF, zz2]
      refine hK3 _ ?_; try clear hK3 K3
      refine kpA [2, 3, 10, 11, 13, 14, 15, 16, 35, 36, 37] ?_
      refine JA fun K3 hK3 => ?_
      refine Qz F_mixed [some 59, some 60, some 61, some 62, some 63, some 64, some 17] rfl ?_
      simp only [zzK, QR, QP, QQ, JC, F_ok24, F_ag24, F_sz24, zz8, zz23, zzD, QS, QN, zzH, zzC, QA, yyE, Qe, F_ok32, F_ag32, F_sz32, JE, JF, zz11, grsL, JM, QB, oksL, evC_min, pure_min, mn_int, JB, ledC, legs, acC, fAc, hch, hpy, QW, zz6, QO, ↓Qb]
      refine JT F_go30 (fun hG => of10_ nx l (fAc 2 x.no c) (by omega)) (by simp [QY, QX]) (by simp) ?_
      simp only [zzK, QR, QP, QQ, JC, F_ok24, F_ag24, F_sz24, zz8, zz23, zzD, QS, QN, zzH, zzC, QA, yyE, Qe, F_ok32, F_ag32, F_sz32, JE, JF, zz11, grsL, JM, QB, oksL, evC_min, pure_min, mn_int, JB, ledC, legs, acC, fAc, hch, hpy, QW, zz6, QO, ↓Qb, atsL, oksG, JV, QZ, Qa, JO, Qm, QT, QS, zz9, QB, QA, S_mem, yyF, QF, zz2]
      refine hK3 _ ?_; try clear hK3 K3
      refine kpA [2, 3, 10, 11, 13, 14, 15, 16, 17, 35, 36, 37] ?_
      refine JA fun K3 hK3 => ?_
      refine Qz F_mixed [some 65, some 66, some 67, some 68, some 69, some 70, some 10] rfl ?_
      simp only [zzK, QR, QP, QQ, JC, F_ok32, F_ag32, F_sz32, zz8, zz23, zzD, QS, QN, zzH, zzC, QA, yyE, Qe, JE, JF, F_sl26, F_zero34, F_sz34, F_by34, zz4, maxLen_le, QT, JS, zz9, QB, JB, acC, fAc, legs, grow, unDs_map, JN, hmv, QW, zz6, QO, ↓Qb]
      refine JT F_go31 (fun hG => MoveF (fAc 2 x.no c) (fAc 3 x.no c) (pyN l c x)) (by simp [QY, QX]) (by simp) ?_
      simp only [zzK, QR, QP, QQ, JC, F_ok32, F_ag32, F_sz32, zz8, zz23, zzD, QS, QN, zzH, zzC, QA, yyE, Qe, JE, JF, F_sl26, F_zero34, F_sz34, F_by34, zz4, maxLen_le, QT, JS, zz9, QB, JB, acC, fAc, legs, grow, unDs_map, JN, hmv, QW, zz6, QO, ↓Qb, atsL, oksG, JV, QZ, Qa, JO, Qm, QT, QS, unDs_cons, QB, QA, S_mem, yyF, QF, zz2]
      have hm : (rfLs l c pre).length + 1 + 1 ≤ 1000000 := by first | omega | (simp; omega)
      first | refine ⟨le_maxLen hm, by omega, ?_⟩ | refine ⟨by simp, le_maxLen hm, by omega, ?_⟩
      clear hm
      refine hK3 _ ?_; try clear hK3 K3
      refine kpA [2, 3, 10, 11, 13, 16, 17, 35, 36, 37] ?_
      refine JA fun K3 hK3 => ?_
      refine Qz F_mixed [some 71, some 72, some 73] rfl ?_
      simp only [zzK, QR, QP, QQ, JC, zz21, JM, zz25, zz6, QO, ↓Qb]
      refine hK3 _ ?_; try clear hK3 K3
      refine kpA [2, 3, 10, 11, 13, 16, 17, 35, 36, 37, 73] ?_
      refine cnA ?_ ?_
      ·intro hb
       have hd1 : rfDs l c (pre ++ [x]) = rfDs l c pre ++ [⟨x.no, c, Ql .i64 (lkN l c x - pyN l c x)⟩] := by rw [rfDs_snoc]; simp only [rfD1, hx, show decide (lkN l c x > pyN l c x) = true from hb, Qd, Qc]
       clear hb
       refine Qz F_mixed [some 74, some 75, some 76, some 77, some 78, some 79, some 80, some 81, some 82, some 83, some 11] rfl ?_
       simp only [zzK, QR, QP, QQ, JC, zz19, zz23, F_off51_0, zzH, QN, QS, F_ok3, F_ag3, F_sz3, zz8, zzD, zzC, QA, yyE, Qe, zz21, JM, zz33, F_zero53, F_bld53, zz7, splice, Option.getD_some, QG, zz1, zzG, zz10, F_fld53_0, F_fld53_1, F_fld53_2, F_sl47, F_sz53, zz3, JS, maxLen_le, QT, JE, F_by53, zz4, zz9, QB, JB, fdueC, grow, unDs_map, QW, zz6, QO, ↓Qb]
       have hm : (rfDs l c pre).length + 1 ≤ 1000000 := by first | omega | (simp; omega)
       first | refine ⟨le_maxLen hm, by omega, ?_⟩ | refine ⟨by simp, le_maxLen hm, by omega, ?_⟩
       clear hm
       refine hK2 _ ?_; try clear hK2 K2
       refine kpA [2, 3, 10, 11, 35, 36, 37] ?_
       refine Qz F_mixed [some 84, some 37] rfl ?_
       simp only [zzK, QR, QP, QQ, zz21, JM, zz26, JC, hwx, zz6, QO, ↓Qb]
       refine ⟨post2.length, _, by simp, le_SK (fun r => bif r == 11 then 83 else bif r == 10 then 70 else r) [] rfl (l' := [(2, .d (iv c)), (3, .ptr 3 0 0), (10, .ref 10 (rfLs l c (pre ++ [x])).length), (11, .ref 11 (rfDs l c (pre ++ [x])).length), (35, .d (.sl 3 (r.mems.map memC))), (36, .d (iv r.mems.length)), (37, .d (iv (pre ++ [x]).length))]) (m' := [(3, (⟨True, 24, 2, true, false, 3, [[.d (iv nx), .d (.sl 4 (l.map legC))]]⟩ : ARow)), (10, grow 34 4 10 ((rfLs l c (pre ++ [x])).map legC)), (11, grow 53 3 11 ((rfDs l c (pre ++ [x])).map fdueC))]) ?_ ?_ ?_ ?_, (pre ++ [x]), post2, by simp [hsp], rfl, rfl⟩
       ·simp only [leV, JD, QQ, Qd, Qc, hwx]; exact ⟨(by first | exact Qo rfl | exact Qq (by decide) | exact Qp | exact Qn _ | exact Qs (by simp) (by rfl) | exact Qr (by simp) (by rfl) (by first | rfl | (simp; done) | (simp; omega)) | exact Qt (by first | rfl | simp)), (by first | exact Qo rfl | exact Qq (by decide) | exact Qp | exact Qn _ | exact Qs (by simp) (by rfl) | exact Qr (by simp) (by rfl) (by first | rfl | (simp; done) | (simp; omega)) | exact Qt (by first | rfl | simp)), (Qr (by simp) (by rfl) (by rw [hl1]; first | (simp; done) | (simp; rfl))), (Qr (by simp) (by rfl) (by rw [hd1]; first | (simp; done) | (simp; rfl))), (by first | exact Qo rfl | exact Qq (by decide) | exact Qp | exact Qn _ | exact Qs (by simp) (by rfl) | exact Qr (by simp) (by rfl) (by first | rfl | (simp; done) | (simp; omega)) | exact Qt (by first | rfl | simp)), (by first | exact Qo rfl | exact Qq (by decide) | exact Qp | exact Qn _ | exact Qs (by simp) (by rfl) | exact Qr (by simp) (by rfl) (by first | rfl | (simp; done) | (simp; omega)) | exact Qt (by first | rfl | simp)), (by first | exact Qo rfl | exact Qq (by decide) | exact Qp | exact Qn _ | exact Qs (by simp) (by rfl) | exact Qr (by simp) (by rfl) (by first | rfl | (simp; done) | (simp; omega)) | exact Qt (by first | rfl | simp)), trivial⟩
       ·exact ⟨fun _ => ⟨_, rfl, (by first | exact Qv (by simp [QX, QY]) | exact Qu (by simp) (by simp [QX, QY]))⟩, fun h => by simp at h, fun _ => ⟨_, rfl, Qw (by rw [hl1]; simp [fdueC])⟩, fun h => by simp at h, fun _ => ⟨_, rfl, Qw (by rw [hd1]; simp [fdueC])⟩, fun h => by simp at h, trivial⟩
       ·simp [wfV, QY, QX, lookR, grow]
       ·exact ⟨by simp [QX, QY, lookR], wf_data _ _, wf_data _ _, trivial⟩
      ·intro hb
       have hd0 : rfDs l c (pre ++ [x]) = rfDs l c pre := by rw [rfDs_snoc]; simp only [rfD1, hx, show decide (lkN l c x > pyN l c x) = false from hb, Qc, QG]
       clear hb
       refine JI ?_
       simp only [zz6, QO, ↓Qb]
       refine hK2 _ ?_; try clear hK2 K2
       refine kpA [2, 3, 10, 11, 35, 36, 37] ?_
       refine Qz F_mixed [some 84, some 37] rfl ?_
       simp only [zzK, QR, QP, QQ, zz21, JM, zz26, JC, hwx, zz6, QO, ↓Qb]
       refine ⟨post2.length, _, by simp, le_SK (fun r => bif r == 10 then 70 else r) [] rfl (l' := [(2, .d (iv c)), (3, .ptr 3 0 0), (10, .ref 10 (rfLs l c (pre ++ [x])).length), (11, .ref 11 (rfDs l c (pre ++ [x])).length), (35, .d (.sl 3 (r.mems.map memC))), (36, .d (iv r.mems.length)), (37, .d (iv (pre ++ [x]).length))]) (m' := [(3, (⟨True, 24, 2, true, false, 3, [[.d (iv nx), .d (.sl 4 (l.map legC))]]⟩ : ARow)), (10, grow 34 4 10 ((rfLs l c (pre ++ [x])).map legC)), (11, grow 53 3 11 ((rfDs l c (pre ++ [x])).map fdueC))]) ?_ ?_ ?_ ?_, (pre ++ [x]), post2, by simp [hsp], rfl, rfl⟩
       ·simp only [leV, JD, QQ, Qd, Qc, hwx, hd0]; exact ⟨(by first | exact Qo rfl | exact Qq (by decide) | exact Qp | exact Qn _ | exact Qs (by simp) (by rfl) | exact Qr (by simp) (by rfl) (by first | rfl | (simp; done) | (simp; omega)) | exact Qt (by first | rfl | simp)), (by first | exact Qo rfl | exact Qq (by decide) | exact Qp | exact Qn _ | exact Qs (by simp) (by rfl) | exact Qr (by simp) (by rfl) (by first | rfl | (simp; done) | (simp; omega)) | exact Qt (by first | rfl | simp)), (Qr (by simp) (by rfl) (by rw [hl1]; first | (simp; done) | (simp; rfl))), (by first | exact Qo rfl | exact Qq (by decide) | exact Qp | exact Qn _ | exact Qs (by simp) (by rfl) | exact Qr (by simp) (by rfl) (by first | rfl | (simp; done) | (simp; omega)) | exact Qt (by first | rfl | simp)), (by first | exact Qo rfl | exact Qq (by decide) | exact Qp | exact Qn _ | exact Qs (by simp) (by rfl) | exact Qr (by simp) (by rfl) (by first | rfl | (simp; done) | (simp; omega)) | exact Qt (by first | rfl | simp)), (by first | exact Qo rfl | exact Qq (by decide) | exact Qp | exact Qn _ | exact Qs (by simp) (by rfl) | exact Qr (by simp) (by rfl) (by first | rfl | (simp; done) | (simp; omega)) | exact Qt (by first | rfl | simp)), (by first | exact Qo rfl | exact Qq (by decide) | exact Qp | exact Qn _ | exact Qs (by simp) (by rfl) | exact Qr (by simp) (by rfl) (by first | rfl | (simp; done) | (simp; omega)) | exact Qt (by first | rfl | simp)), trivial⟩
       ·exact ⟨fun _ => ⟨_, rfl, (by first | exact Qv (by simp [QX, QY]) | exact Qu (by simp) (by simp [QX, QY]))⟩, fun h => by simp at h, fun _ => ⟨_, rfl, Qw (by rw [hl1]; simp [fdueC])⟩, fun h => by simp at h, fun _ => ⟨_, rfl, Qw (by rw [hd0])⟩, fun h => by simp at h, trivial⟩
       ·simp [wfV, QY, QX, lookR, grow]
       ·exact ⟨by simp [QX, QY, lookR], wf_data _ _, wf_data _ _, trivial⟩
    ·intro hb
     obtain rfl : post = [] := by
      cases post with
      | nil => rfl
      | cons x t => have := Qf hb; simp at hspl; omega
     clear hb
     simp only [QG] at hsp
     subst hsp
     refine JK ?_
     simp only [zz6, QO, ↓Qb]
     refine hK0 _ ?_; try clear hK0 K0
     refine kpA [10, 11] ?_
     refine JA fun K0 hK0 => ?_
     refine Qz F_mixed [some 86, some 87, some 85, some 88, some 89, some 10, some 9] rfl ?_
     simp only [zzK, QR, QP, QQ, JC, JE, JF, zz14, zzD, QS, QN, zzF, JB, legs, grow, JN, zz6, QO, ↓Qb]
     refine JT F_go32 (fun hG => Join_ (rfLs l c r.mems) (by omega)) (by simp [QY, QX]) (by simp) ?_
     simp only [zzK, QR, QP, QQ, JC, JE, JF, zz14, zzD, QS, QN, zzF, JB, legs, grow, JN, zz6, QO, ↓Qb, atsL, oksG, JV, QZ, Qa, JO, Qm, QT, QS, zz9, QB, QA, zzC, yyF, QF, zz2]
     refine hK0 _ ?_; try clear hK0 K0
     refine kpA [9, 10, 11] ?_
     refine JA fun K0 hK0 => ?_
     refine JA fun K1 hK1 => ?_
     refine Qz F_mixed [some 90, some 91] rfl ?_
     simp only [zzK, QR, QP, QQ, JC, zz21, JM, zz28, zz6, QO, ↓Qb]
     refine hK1 _ ?_; try clear hK1 K1
     refine kpA [9, 10, 11, 91] ?_
     refine cnA ?_ ?_
     ·intro hb
      have hj : (joinR (rfLs l c r.mems) != 0) = true := hb
      clear hb
      refine JA fun K2 hK2 => ?_
      refine Qz F_mixed [some 92, some 6, some 7, some 8] rfl ?_
      simp only [zzK, QR, QP, QQ, JC, JB, zz6, QO, ↓Qb]
      refine hK2 _ ?_; try clear hK2 K2
      refine kpA [6, 7, 8] ?_
      refine awp_le (le_SK id [0, 1] rfl (l' := [(6, .ref 0 0), (7, .ref 1 0), (8, .d (iv (joinR (rfLs l c r.mems))))]) (m' := [(0, (⟨True, 34, 4, true, true, 0, []⟩ : ARow)), (1, (⟨True, 53, 3, true, true, 1, []⟩ : ARow))]) ?_ ?_ ?_ ?_) ?_
      ·simp only [leV, JD, QQ, Qd, Qc]; exact ⟨Qq (by decide), Qq (by decide), Qo rfl, trivial⟩
      ·exact ⟨fun h => by simp at h, fun _ => rfl, fun h => by simp at h, fun _ => rfl, trivial⟩
      ·simp [wfV, QY, lookR]
      ·simp [wfR]
      refine JJ ?_
      simp only [zz6, QO, ↓Qb]
      rw [show rfV ⟨nx, l⟩ r c = [] by simp only [rfV, show (rfE ⟨nx, l⟩ r c != 0) = true by simp only [rfE, he2, hr2, hc2, Qd, Qc] <;> first | assumption | rfl, Qd], show rfU ⟨nx, l⟩ r c = [] by simp only [rfU, show (rfE ⟨nx, l⟩ r c != 0) = true by simp only [rfE, he2, hr2, hc2, Qd, Qc] <;> first | assumption | rfl, Qd], show rfE ⟨nx, l⟩ r c = joinR (rfLs l c r.mems) by simp only [rfE, he2, hr2, hc2, Qd, Qc]]
      refine doneN [0, 1] (by simp [resCs, resC, S, List.getD, JD, lookR, legC, fdueC]) ?_ (by simp [Ja, Jb, Jc, ]) (by simp [QY, QX, ]) (by decide) ?_
      ·simp only [QD, QE, resA, JZ, S_mem, lookR_cons, lookR_nil, QR, QP, JD, QQ, Qd, Qc, JP, QI, QJ, QH, QL, QK, List.take_zero, legC, fdueC]; rfl
      ·exact ⟨⟨_, rfl, trivial, rfl, rfl, rfl, rfl⟩, by simp [flatDs, Jc, legC], ⟨_, rfl, trivial, rfl, rfl, rfl, rfl⟩, by simp [flatDs, Jc, fdueC], trivial⟩
     ·intro hb
      have hj : (joinR (rfLs l c r.mems) != 0) = false := hb
      clear hb
      have e0 : rfE ⟨nx, l⟩ r c = joinR (rfLs l c r.mems) := by simp only [rfE, he2, hr2, hc2, Qc]
      have e4 : joinR (rfLs l c r.mems) = 0 := by simpa using hj
      have e1 : rfV ⟨nx, l⟩ r c = joinV (rfLs l c r.mems) := by simp only [rfV, e0, hj, Qc]
      have e2 : rfU ⟨nx, l⟩ r c = rfDs l c r.mems := by simp only [rfU, e0, hj, Qc]
      refine JI ?_
      simp only [zz6, QO, ↓Qb]
      refine hK0 _ ?_; try clear hK0 K0
      refine kpA [10, 11] ?_
      refine JA fun K0 hK0 => ?_
      refine Qz F_mixed [some 93, some 94, some 6, some 7, some 8] rfl ?_
      simp only [zzK, QR, QP, QQ, JC, JB, zz6, QO, ↓Qb]
      refine hK0 _ ?_; try clear hK0 K0
      refine kpA [6, 7, 8] ?_
      refine awp_le (le_SK id [] rfl (l' := [(6, .ref 88000 (joinV (rfLs l c r.mems)).length), (7, .ref 11 (rfDs l c r.mems).length), (8, .d (iv 0))]) (m' := [(88000, (⟨True, 34, 4, true, true, 88000, ((joinV (rfLs l c r.mems)).map legC).map (·.map .d)⟩ : ARow)), (11, (⟨True, 53, 3, true, true, 11, ((rfDs l c r.mems).map fdueC).map (·.map .d)⟩ : ARow))]) ?_ ?_ ?_ ?_) ?_
      ·simp only [leV, JD, QQ, Qd, Qc]; exact ⟨Qn _, Qn _, Qn _, trivial⟩
      ·exact ⟨fun _ => (by refine ⟨_, rfl, ?_⟩; first | exact RowLe.uq_ (by rfl) (by simp) ids_data | exact RowLe.uq2 (by first | rfl | simp) (by simp) ids_data | exact Qu rfl ids_data), fun h => by simp at h, fun _ => (by refine ⟨_, rfl, ?_⟩; first | exact RowLe.uq_ (by rfl) (by simp) ids_data | exact RowLe.uq2 (by first | rfl | simp) (by simp) ids_data | exact Qu rfl ids_data), fun h => by simp at h, trivial⟩
      ·simp [wfV, QY, lookR]
      ·simp [wfR, QX, QY, lookR, legC, fdueC]
      refine JJ ?_
      simp only [zz6, QO, ↓Qb]
      rw [e0, e1, e2, e4]
      refine doneN [88000, 11] (by simp [resCs, resC, S, List.getD, JD, lookR, legC, fdueC]) ?_ (by simp [Ja, Jb, Jc, ]) (by simp [QY, QX, ]) (by decide) ?_
      ·simp only [QD, QE, resA, JZ, S_mem, lookR_cons, lookR_nil, QR, QP, JD, QQ, Qd, Qc, JP, QI, QJ, QH, QL, QK, List.take_zero, legC, fdueC]; rfl
      ·exact ⟨⟨_, rfl, trivial, rfl, rfl, rfl, rfl⟩, by simp [flatDs, Jc, legC], ⟨_, rfl, trivial, rfl, rfl, rfl, rfl⟩, by simp [flatDs, Jc, fdueC], trivial⟩
 ·intro hb
  have he : (ledE ⟨nx, l⟩ != 0) = true := by cases h : ledE ⟨nx, l⟩ != 0 with
   | true => rfl
   | false => simp at h; rw [h] at hb; cases hb
  clear hb
  have he3 : ledE ⟨nx, l⟩ ≠ 0 := by simpa using he
  refine JI ?_
  simp only [zz6, QO, ↓Qb]
  refine hK0 _ ?_; try clear hK0 K0
  refine kpA [2, 3, 4, 9] ?_
  refine JA fun K0 hK0 => ?_
  refine JA fun K1 hK1 => ?_
  refine Qz F_mixed [some 24, some 25, some 26, some 27, some 28, some 29, some 30] rfl ?_
  simp only [zzK, QR, QP, QQ, QU, JZ, zz5, Qj, Qi, Qh, and_self, JC, zz21, JM, zz34, JE, JF, zz29, zz30, zz13, JQ, JR, zz6, QO, ↓Qb]
  refine JT F_go26 (fun hG => rightCur_ c) (by simp [QY, QX]) (by simp) ?_
  simp only [zzK, QR, QP, QQ, QU, JZ, zz5, Qj, Qi, Qh, and_self, JC, zz21, JM, zz34, JE, JF, zz29, zz30, zz13, JQ, JR, zz6, QO, ↓Qb, atsL, oksG, JV, QZ, Qa, JO, Qm, QT, QS, zz9, QB, QA, zzC, yyF, zzD, zz2]
  refine hK1 _ ?_; try clear hK1 K1
  refine kpA [2, 3, 4, 9, 30] ?_
  refine cnA ?_ ?_
  ·intro hb
   simp [he3] at hb
  ·intro hb
   clear hb
   refine JI ?_
   simp only [zz6, QO, ↓Qb]
   refine hK0 _ ?_; try clear hK0 K0
   refine kpA [2, 3, 4, 9] ?_
   refine JA fun K0 hK0 => ?_
   refine JA fun K1 hK1 => ?_
   refine Qz F_mixed [some 31, some 32] rfl ?_
   simp only [zzK, QR, QP, QQ, JC, zz21, JM, zz28, zz6, QO, ↓Qb]
   refine hK1 _ ?_; try clear hK1 K1
   refine kpA [2, 3, 4, 9, 32] ?_
   refine cnA ?_ ?_
   ·intro hb
    clear hb
    refine JA fun K2 hK2 => ?_
    refine Qz F_mixed [some 33, some 6, some 7, some 8] rfl ?_
    simp only [zzK, QR, QP, QQ, JC, JB, zz6, QO, ↓Qb]
    refine hK2 _ ?_; try clear hK2 K2
    refine kpA [6, 7, 8] ?_
    refine awp_le (le_SK id [0, 1] rfl (l' := [(6, .ref 0 0), (7, .ref 1 0), (8, .d (iv (ledE ⟨nx, l⟩)))]) (m' := [(0, (⟨True, 34, 4, true, true, 0, []⟩ : ARow)), (1, (⟨True, 53, 3, true, true, 1, []⟩ : ARow))]) ?_ ?_ ?_ ?_) ?_
    ·simp only [leV, JD, QQ, Qd, Qc]; exact ⟨Qq (by decide), Qq (by decide), Qo rfl, trivial⟩
    ·exact ⟨fun h => by simp at h, fun _ => rfl, fun h => by simp at h, fun _ => rfl, trivial⟩
    ·simp [wfV, QY, lookR]
    ·simp [wfR]
    refine JJ ?_
    simp only [zz6, QO, ↓Qb]
    rw [show rfV ⟨nx, l⟩ r c = [] by simp only [rfV, show (rfE ⟨nx, l⟩ r c != 0) = true by simp only [rfE, he, Qd, Qc] <;> first | assumption | rfl, Qd], show rfU ⟨nx, l⟩ r c = [] by simp only [rfU, show (rfE ⟨nx, l⟩ r c != 0) = true by simp only [rfE, he, Qd, Qc] <;> first | assumption | rfl, Qd], show rfE ⟨nx, l⟩ r c = ledE ⟨nx, l⟩ by simp only [rfE, he, Qd, Qc]]
    refine doneN [0, 1] (by simp [resCs, resC, S, List.getD, JD, lookR, legC, fdueC]) ?_ (by simp [Ja, Jb, Jc, ]) (by simp [QY, QX, ]) (by decide) ?_
    ·simp only [QD, QE, resA, JZ, S_mem, lookR_cons, lookR_nil, QR, QP, JD, QQ, Qd, Qc, JP, QI, QJ, QH, QL, QK, List.take_zero, legC, fdueC]; rfl
    ·exact ⟨⟨_, rfl, trivial, rfl, rfl, rfl, rfl⟩, by simp [flatDs, Jc, legC], ⟨_, rfl, trivial, rfl, rfl, rfl, rfl⟩, by simp [flatDs, Jc, fdueC], trivial⟩
   ·intro hb
    simp [he3] at hb
theorem refillF (nx : Int) (l : List LegV) (r : RollV) (c : Int) (hl : l.length ≤ 400000) (h : r.Small) (hm : r.mems.length ≤ 400000) : ACalls Try.prog 14 [.agg (ledC ⟨nx, l⟩), .agg (rollC r), iv c] [] (.tp [.d (legs (rfV ⟨nx, l⟩ r c)), .d (fds (rfU ⟨nx, l⟩ r c)), .d (iv (rfE ⟨nx, l⟩ r c))]) :=
 (refill_ nx l r c hl h hm).freezeT (by simp [frzOk, frzOkL])
set_option maxRecDepth 100000 in
set_option maxHeartbeats 4000000 in
theorem fundFills_ (nx : Int) (l : List LegV) (r : RollV) (c : Int) : ACalls Try.prog 6 [.agg (ledC ⟨nx, l⟩), .agg (rollC r), iv c] [] (bv true) := by
 refine acalls_S (rs := [.tmp 6]) Try.func6 rfl rfl 183 [(0, .d (.agg (ledC ⟨nx, l⟩))), (1, .d (.agg (rollC r))), (2, .d (iv c))] rfl (by simp) rfl ?_
 refine JA fun K0 hK0 => ?_
 refine Qz F_mixed [some 3, some 4, some 6] rfl ?_
 simp only [zzK, QR, QP, QQ, zz35, JS, zz1, zzG, zzD, zzC, QA, yyE, Qe, QS, QN, zzH, JB, ledC, legs, rollC, memsD, instsD, assetsD, zz6, QO, ↓Qb]
 refine hK0 _ ?_; try clear hK0 K0
 refine kpA [2, 3, 4] ?_
 refine JA fun K0 hK0 => ?_
 refine JA fun K1 hK1 => ?_
 refine Qz F_mixed [some 18, some 19, some 20, some 21, some 22, some 23, some 24, some 25] rfl ?_
 simp only [zzK, QR, QP, QQ, QU, JZ, zz5, Qj, Qi, Qh, zz19, zz23, F_off24_1, zzH, QN, QS, F_ok22, F_ag22, F_sz22, zz8, zzD, zzC, QA, yyE, Qe, JE, zz12, F_sl22, Option.isSome_some, zz21, JM, zz25, JC, F_ok45, F_ag45, F_sz45, JF, zz13, JQ, JR, ledC, legs, JN, memsD, instsD, assetsD, rollC, QW, memA, memC, instA, instC, zzG, zz6, QO, ↓Qb]
 refine JT F_go13 (fun hG => heavy_ r) (by simp [QY, QX, memA, memC, instA, instC]) (by simp) ?_
 simp only [zzK, QR, QP, QQ, QU, JZ, zz5, Qj, Qi, Qh, zz19, zz23, F_off24_1, zzH, QN, QS, F_ok22, F_ag22, F_sz22, zz8, zzD, zzC, QA, yyE, Qe, JE, zz12, F_sl22, Option.isSome_some, zz21, JM, zz25, JC, F_ok45, F_ag45, F_sz45, JF, zz13, JQ, JR, ledC, legs, JN, memsD, instsD, assetsD, rollC, QW, memA, memC, instA, instC, zzG, zz6, QO, ↓Qb, atsL, oksG, JV, QZ, Qa, JO, Qm, QT, QS, zz9, QB, QA, S_mem, yyF, QF, zz2]
 refine hK1 _ ?_; try clear hK1 K1
 refine kpA [2, 3, 4, 25] ?_
 refine cnA ?_ ?_
 ·intro hb
  clear hb
  refine JA fun K2 hK2 => ?_
  refine Qz F_mixed [some 6] rfl ?_
  simp only [zzK, QR, QP, QQ, JB, zz6, QO, ↓Qb]
  refine hK2 _ ?_; try clear hK2 K2
  refine kpA [6] ?_
  refine JJ ?_
  simp only [zz6, QO, ↓Qb]
  refine dnA ?_
  simp only [QD, QE, resA, JZ, QR, QP, JD, QQ, Qd, Qc, JP]
  
 ·intro hb
  have hb2 : l.length ≤ 300 ∧ heavy r = false := by
   simp only [Bool.or_eq_false_iff, decide_eq_false_iff_not] at hb
   exact ⟨by omega, hb.2⟩
  clear hb
  obtain ⟨hl, hh⟩ := hb2
  have hS := small_of hh
  have hm : r.mems.length ≤ 400000 := by simp [heavy] at hh; omega
  refine JI ?_
  simp only [zz6, QO, ↓Qb]
  refine hK0 _ ?_; try clear hK0 K0
  refine kpA [2, 3, 4] ?_
  refine JA fun K0 hK0 => ?_
  refine Qz F_mixed [some 27, some 28, some 29, some 30, some 26, some 31, some 32, some 33, some 7, some 8, some 9] rfl ?_
  simp only [zzK, QR, QP, QQ, F_ok24, F_ag24, F_sz24, zz8, zz23, zzD, QS, QN, zzH, zzC, QA, yyE, Qe, F_ok45, F_ag45, F_sz45, JC, JE, JF, zz14, JB, ledC, legs, memsD, instsD, assetsD, rollC, QW, memA, memC, instA, instC, zzG, zz6, QO, ↓Qb]
  refine JT F_go14 (fun hG => refillF nx l r c (by omega) hS hm) (by simp [QY, QX, memA, memC, instA, instC]) (by simp) ?_
  simp only [zzK, QR, QP, QQ, F_ok24, F_ag24, F_sz24, zz8, zz23, zzD, QS, QN, zzH, zzC, QA, yyE, Qe, F_ok45, F_ag45, F_sz45, JC, JE, JF, zz14, JB, ledC, legs, memsD, instsD, assetsD, rollC, QW, memA, memC, instA, instC, zzG, zz6, QO, ↓Qb, atsL, oksG, JV, QZ, Qa, JO, Qm, QT, QS, zz9, QB, QA, S_mem, yyF, QF, zz2]
  refine hK0 _ ?_; try clear hK0 K0
  refine kpA [2, 3, 4, 7, 8, 9] ?_
  refine JA fun K0 hK0 => ?_
  refine JA fun K1 hK1 => ?_
  refine Qz F_mixed [some 34, some 35] rfl ?_
  simp only [zzK, QR, QP, QQ, JC, zz21, JM, zz28, zz6, QO, ↓Qb]
  refine hK1 _ ?_; try clear hK1 K1
  refine kpA [2, 3, 4, 7, 8, 35] ?_
  refine cnA ?_ ?_
  ·intro hb
   have hb2 : (rfE ⟨nx, l⟩ r c != 0) = true := hb
   clear hb
   have hv0 : rfV ⟨nx, l⟩ r c = [] := by simp only [rfV, hb2, Qd]
   have hu0 : rfU ⟨nx, l⟩ r c = [] := by simp only [rfU, hb2, Qd]
   refine JA fun K2 hK2 => ?_
   refine Qz F_mixed [some 36, some 37, some 38, some 39, some 40, some 41, some 42, some 43, some 44, some 6] rfl ?_
   simp only [zzK, QR, QP, QQ, QU, JZ, zz5, Qj, Qi, Qh, and_self, JC, JE, zz12, F_sl26, Option.isSome_some, F_sl47, zz21, JM, zz26, zz34, JF, zz13, JQ, JR, JB, legs, fds, JN, hv0, hu0, List.length_nil, zz6, QO, ↓Qb]
   refine JT F_go9 (fun hG => wakes21_) (by simp [QY, QX]) (by simp) ?_
   simp only [zzK, QR, QP, QQ, QU, JZ, zz5, Qj, Qi, Qh, and_self, JC, JE, zz12, F_sl26, Option.isSome_some, F_sl47, zz21, JM, zz26, zz34, JF, zz13, JQ, JR, JB, legs, fds, JN, hv0, hu0, zz6, QO, ↓Qb, atsL, oksG, JV, QZ, Qa, JO, Qm, QT, QS, zz9, QB, QA, zzC, yyF, zzD, zz2]
   refine hK2 _ ?_; try clear hK2 K2
   refine kpA [6] ?_
   refine JJ ?_
   simp only [zz6, QO, ↓Qb]
   refine dnA ?_
   simp only [QD, QE, resA, JZ, QR, QP, JD, QQ, Qd, Qc, JP]
   try rfl
  ·intro hb
   have he : rfE ⟨nx, l⟩ r c = 0 := by simpa using hb
   clear hb
   obtain ⟨hG, hMF, hPW, h16, hJ, hv, hu⟩ := rf_facts he
   simp only at hMF hJ hv hu
   have hvl : (rfV ⟨nx, l⟩ r c).length ≤ 64 := by
    have h1 := joinV_length (rfLs l c r.mems)
    have h2 := rfLs_len l c r.mems
    rw [hv]; omega
   refine JI ?_
   simp only [zz6, QO, ↓Qb]
   refine hK0 _ ?_; try clear hK0 K0
   refine kpA [2, 3, 4, 7, 8] ?_
   refine JA fun K0 hK0 => ?_
   refine Qz F_mixed [some 45, some 10, none] rfl ?_
   simp only [zzK, QR, QP, QQ, F_ok24, F_ag24, F_sz24, zz8, zz23, zzD, QS, QN, zzH, zzC, QA, yyE, Qe, zz32, JS, F_zero24, zz10, zz18, splice, QG, zz1, zzG, ledC, legs, zz6, QO, ↓Qb]
   refine hK0 _ ?_; try clear hK0 K0
   refine kpA [2, 3, 4, 7, 8, 10] ?_
   refine JA fun K0 hK0 => ?_
   suffices hJ0 : ∀ s0 : AS, (∃ (s_ : AS) , Le s0 s_ ∧ (rfV ⟨nx, l⟩ r c ≠ [] → postE ⟨nx, l⟩ (nx + 1) (rfV ⟨nx, l⟩ r c) = 0) ∧ s_ = S 183 [(2, .d (iv c)), (3, .ptr 3 0 0), (4, .ptr 4 0 0), (8, .d (fds (rfDs l c r.mems))), (10, .ptr 10 0 0)] [(3, (⟨True, 24, 2, true, false, 3, [[.d (iv nx), .d (.sl 4 (l.map legC))]]⟩ : ARow)), (4, (⟨True, 45, 3, true, false, 4, [[.d (.sl 3 (r.mems.map memC)), .d (.sl 12 (r.insts.map instC)), .d (.sl 4 (r.assets.map assetC))]]⟩ : ARow)), (10, (⟨True, 24, 2, true, false, 10, [[.d (iv (rfT ⟨nx, l⟩ r c).last), .d (.sl 4 ((rfT ⟨nx, l⟩ r c).bal.map legC))]]⟩ : ARow))]) → K0 s0 by
    refine JA fun K1 hK1 => ?_
    refine Qz F_mixed [some 46, some 47, some 48] rfl ?_
    simp only [zzK, QR, QP, QQ, JC, JE, zz12, F_sl26, Option.isSome_some, zz21, JM, zz25, legs, JN, zz6, QO, ↓Qb]
    refine hK1 _ ?_; try clear hK1 K1
    refine kpA [2, 3, 4, 7, 8, 10, 48] ?_
    refine cnA ?_ ?_
    ·intro hb
     have hne : rfV ⟨nx, l⟩ r c ≠ [] := by intro e; rw [e] at hb; simp at hb
     clear hb
     refine JA fun K2 hK2 => ?_
     refine JA fun K3 hK3 => ?_
     refine Qz F_mixed [some 49, some 50, some 51] rfl ?_
     simp only [zzK, QR, QP, QQ, zz19, zz23, F_off24_0, zzH, QN, QS, F_ok3, F_ag3, F_sz3, zz8, zzD, zzC, QA, yyE, Qe, zz21, JM, zz31, zz6, QO, ↓Qb]
     refine hK3 _ ?_; try clear hK3 K3
     refine kpA [2, 3, 4, 7, 8, 10, 51] ?_
     refine cnA ?_ ?_
     ·intro hb
      clear hb
      refine JA fun K4 hK4 => ?_
      refine Qz F_mixed [some 52, some 6] rfl ?_
      simp only [zzK, QR, QP, QQ, JE, JF, JB, zz6, QO, ↓Qb]
      refine JT F_go9 (fun hG => wakes21_) (by simp [QY, QX]) (by simp) ?_
      simp only [zzK, QR, QP, QQ, JE, JF, JB, zz6, QO, ↓Qb, atsL, oksG, JV, QZ, Qa, JO, Qm, QT, QS, zz9, QB, QA, zzC, yyF, zzD, zz2]
      refine hK4 _ ?_; try clear hK4 K4
      refine kpA [6] ?_
      refine JJ ?_
      simp only [zz6, QO, ↓Qb]
      refine dnA ?_
      simp only [QD, QE, resA, JZ, QR, QP, JD, QQ, Qd, Qc, JP]
      
     ·intro hb
      have hnx : nx < 549755813888 := by have := Qf hb; omega
      clear hb
      have hwn : Ql .i64 (nx + 1) = nx + 1 := (good_last hG hnx).1
      have h0 : 0 ≤ nx := hG.last
      have hp := rf_post he hne (nx + 1) (by show ¬ nx + 1 ≤ nx; omega) (by simp [idBad]; omega)
      refine JI ?_
      simp only [zz6, QO, ↓Qb]
      refine hK2 _ ?_; try clear hK2 K2
      refine kpA [2, 3, 4, 7, 8, 10] ?_
      refine JA fun K2 hK2 => ?_
      refine Qz F_mixed [some 54, some 55, some 56, some 57, some 58, some 59, some 53, some 60, some 61, none, some 9] rfl ?_
      simp only [zzK, QR, QP, QQ, F_ok24, F_ag24, F_sz24, zz8, zz23, zzD, QS, QN, zzH, zzC, QA, yyE, Qe, zz19, F_off24_0, F_ok3, F_ag3, F_sz3, zz21, JM, zz26, JC, JE, JF, zz14, zz18, splice, QG, zz1, zzG, JB, ledC, legs, ledC, hwn, legs, QW, zz6, QO, ↓Qb]
      refine JT F_go11 (fun hG => rPostF nx (nx + 1) l (rfV ⟨nx, l⟩ r c) (by omega) (by omega)) (by simp [QY, QX]) (by simp) ?_
      simp only [zzK, QR, QP, QQ, F_ok24, F_ag24, F_sz24, zz8, zz23, zzD, QS, QN, zzH, zzC, QA, yyE, Qe, zz19, F_off24_0, F_ok3, F_ag3, F_sz3, zz21, JM, zz26, JC, JE, JF, zz14, zz18, splice, QG, zz1, zzG, JB, ledC, legs, ledC, hwn, legs, QW, zz6, QO, ↓Qb, atsL, oksG, JV, QZ, Qa, JO, Qm, QT, QS, zz9, QB, QA, S_mem, yyF, QF, zz2]
      refine hK2 _ ?_; try clear hK2 K2
      refine kpA [2, 3, 4, 8, 9, 10] ?_
      refine JA fun K2 hK2 => ?_
      refine Qz F_mixed [some 62, some 63] rfl ?_
      simp only [zzK, QR, QP, QQ, JC, zz21, JM, zz28, zz6, QO, ↓Qb]
      refine hK2 _ ?_; try clear hK2 K2
      refine kpA [2, 3, 4, 8, 9, 10, 63] ?_
      refine cnA ?_ ?_
      ·intro hb
       have hp1 : postE ⟨nx, l⟩ (nx + 1) (rfV ⟨nx, l⟩ r c) = 1 := hp.resolve_left (by simpa using hb)
       clear hb
       refine JA fun K3 hK3 => ?_
       refine Qz F_mixed [some 64, some 65, some 66, some 67, some 68, some 6] rfl ?_
       simp only [zzK, QR, QP, QQ, QU, JZ, zz5, Qj, Qi, Qh, and_self, JC, zz21, JM, zz34, JE, JF, zz13, JQ, JR, JB, hp1, zz6, QO, ↓Qb]
       refine JT F_go9 (fun hG => wakes21_) (by simp [QY, QX]) (by simp) ?_
       simp only [zzK, QR, QP, QQ, QU, JZ, zz5, Qj, Qi, Qh, and_self, JC, zz21, JM, zz34, JE, JF, zz13, JQ, JR, JB, hp1, zz6, QO, ↓Qb, atsL, oksG, JV, QZ, Qa, JO, Qm, QT, QS, zz9, QB, QA, zzC, yyF, zzD, zz2]
       refine hK3 _ ?_; try clear hK3 K3
       refine kpA [6] ?_
       refine JJ ?_
       simp only [zz6, QO, ↓Qb]
       refine dnA ?_
       simp only [QD, QE, resA, JZ, QR, QP, JD, QQ, Qd, Qc, JP]
       try rfl
      ·intro hb
       have hp0 : postE ⟨nx, l⟩ (nx + 1) (rfV ⟨nx, l⟩ r c) = 0 := by simpa using hb
       clear hb
       have hpost : rfV ⟨nx, l⟩ r c ≠ [] → postE ⟨nx, l⟩ (nx + 1) (rfV ⟨nx, l⟩ r c) = 0 := fun _ => hp0
       have hT : rfT ⟨nx, l⟩ r c = postV ⟨nx, l⟩ (nx + 1) (rfV ⟨nx, l⟩ r c) := by
        cases e : rfV ⟨nx, l⟩ r c with
        | nil => exact absurd e hne
        | cons y t => simp only [rfT, e, List.isEmpty_cons, Qc]
       refine JI ?_
       simp only [zz6, QO, ↓Qb]
       refine hJ0 _ ⟨_, le_SK id [] rfl (l' := [(2, .d (iv c)), (3, .ptr 3 0 0), (4, .ptr 4 0 0), (8, .d (fds (rfDs l c r.mems))), (10, .ptr 10 0 0)]) (m' := [(3, (⟨True, 24, 2, true, false, 3, [[.d (iv nx), .d (.sl 4 (l.map legC))]]⟩ : ARow)), (4, (⟨True, 45, 3, true, false, 4, [[.d (.sl 3 (r.mems.map memC)), .d (.sl 12 (r.insts.map instC)), .d (.sl 4 (r.assets.map assetC))]]⟩ : ARow)), (10, (⟨True, 24, 2, true, false, 10, [[.d (iv (rfT ⟨nx, l⟩ r c).last), .d (.sl 4 ((rfT ⟨nx, l⟩ r c).bal.map legC))]]⟩ : ARow))]) ?_ ?_ ?_ ?_, hpost, rfl⟩
       ·simp only [leV, JD, QQ, Qd, Qc]; exact ⟨Qn _, Qn _, Qn _, (Qt (by rw [hu])), Qn _, trivial⟩
       ·exact ⟨fun _ => ⟨_, rfl, (by first | exact Qv (by simp [QX, QY]) | exact Qu (by simp) (by simp [QX, QY]))⟩, fun h => by simp at h, fun _ => ⟨_, rfl, (by first | exact Qv (by simp [QX, QY]) | exact Qu (by simp) (by simp [QX, QY]))⟩, fun h => by simp at h, fun _ => ⟨_, rfl, (by rw [hT]; first | exact Qv (by simp [QX, QY]) | exact Qu (by simp) (by simp [QX, QY]))⟩, fun h => by simp at h, trivial⟩
       ·simp [wfV, QY, lookR]
       ·simp [wfR, QX, QY]
    ·intro hb
     have hv0 : rfV ⟨nx, l⟩ r c = [] := by
      cases e : rfV ⟨nx, l⟩ r c with
      | nil => rfl
      | cons y t => rw [e] at hb; simp at hb
     clear hb
     have hpost : rfV ⟨nx, l⟩ r c ≠ [] → postE ⟨nx, l⟩ (nx + 1) (rfV ⟨nx, l⟩ r c) = 0 := fun h => absurd hv0 h
     have hT : rfT ⟨nx, l⟩ r c = ⟨nx, l⟩ := by simp only [rfT, hv0, List.isEmpty_nil, Qd]
     refine JI ?_
     simp only [zz6, QO, ↓Qb]
     refine hJ0 _ ⟨_, le_SK id [] rfl (l' := [(2, .d (iv c)), (3, .ptr 3 0 0), (4, .ptr 4 0 0), (8, .d (fds (rfDs l c r.mems))), (10, .ptr 10 0 0)]) (m' := [(3, (⟨True, 24, 2, true, false, 3, [[.d (iv nx), .d (.sl 4 (l.map legC))]]⟩ : ARow)), (4, (⟨True, 45, 3, true, false, 4, [[.d (.sl 3 (r.mems.map memC)), .d (.sl 12 (r.insts.map instC)), .d (.sl 4 (r.assets.map assetC))]]⟩ : ARow)), (10, (⟨True, 24, 2, true, false, 10, [[.d (iv (rfT ⟨nx, l⟩ r c).last), .d (.sl 4 ((rfT ⟨nx, l⟩ r c).bal.map legC))]]⟩ : ARow))]) ?_ ?_ ?_ ?_, hpost, rfl⟩
     ·simp only [leV, JD, QQ, Qd, Qc]; exact ⟨Qn _, Qn _, Qn _, (Qt (by rw [hu])), Qn _, trivial⟩
     ·exact ⟨fun _ => ⟨_, rfl, (by first | exact Qv (by simp [QX, QY]) | exact Qu (by simp) (by simp [QX, QY]))⟩, fun h => by simp at h, fun _ => ⟨_, rfl, (by first | exact Qv (by simp [QX, QY]) | exact Qu (by simp) (by simp [QX, QY]))⟩, fun h => by simp at h, fun _ => ⟨_, rfl, (by rw [hT]; first | exact Qv (by simp [QX, QY]) | exact Qu (by simp) (by simp [QX, QY]))⟩, fun h => by simp at h, trivial⟩
     ·simp [wfV, QY, lookR]
     ·simp [wfR, QX, QY]
   rintro s0 ⟨s_, hle, hpost, rfl⟩
   have hTl : (rfT ⟨nx, l⟩ r c).bal.length ≤ 400 := by
    have := rfT_len ⟨nx, l⟩ r c
    simp only at this; omega
   refine hK0 _ (awp_le hle ?_); try clear hK0 K0 hle
   refine JA fun K0 hK0 => ?_
   refine Qz F_mixed [some 11] rfl ?_
   simp only [zzK, QR, QP, QQ, JB, zz6, QO, ↓Qb]
   refine hK0 _ ?_; try clear hK0 K0
   refine kpA [2, 3, 4, 8, 10, 11] ?_
   refine JA fun K0 hK0 => ?_
   refine JA fun K1 hK1 => ?_
   refine Qz F_mixed [some 12] rfl ?_
   simp only [zzK, QR, QP, QQ, JB, zz6, QO, ↓Qb]
   refine hK1 _ ?_; try clear hK1 K1
   refine kpA [2, 3, 4, 8, 10, 11, 12] ?_
   refine JH ?_
   refine JL (fun m s => ∃ (pre : List MemV) (post : List MemV), (r.mems = pre ++ post) ∧ m = post.length ∧ s = S 183 [(2, .d (iv c)), (3, .ptr 3 0 0), (4, .ptr 4 0 0), (8, .d (fds (rfDs l c r.mems))), (10, .ptr 10 0 0), (11, .d (iv (rfDs l c pre).length)), (12, .d (iv pre.length))] [(3, (⟨True, 24, 2, true, false, 3, [[.d (iv nx), .d (.sl 4 (l.map legC))]]⟩ : ARow)), (4, (⟨True, 45, 3, true, false, 4, [[.d (.sl 3 (r.mems.map memC)), .d (.sl 12 (r.insts.map instC)), .d (.sl 4 (r.assets.map assetC))]]⟩ : ARow)), (10, (⟨True, 24, 2, true, false, 10, [[.d (iv (rfT ⟨nx, l⟩ r c).last), .d (.sl 4 ((rfT ⟨nx, l⟩ r c).bal.map legC))]]⟩ : ARow))]) (r.mems.length) _ (le_SK id [] rfl (l' := [(2, .d (iv c)), (3, .ptr 3 0 0), (4, .ptr 4 0 0), (8, .d (fds (rfDs l c r.mems))), (10, .ptr 10 0 0), (11, .d (iv (rfDs l c []).length)), (12, .d (iv [].length))]) (m' := [(3, (⟨True, 24, 2, true, false, 3, [[.d (iv nx), .d (.sl 4 (l.map legC))]]⟩ : ARow)), (4, (⟨True, 45, 3, true, false, 4, [[.d (.sl 3 (r.mems.map memC)), .d (.sl 12 (r.insts.map instC)), .d (.sl 4 (r.assets.map assetC))]]⟩ : ARow)), (10, (⟨True, 24, 2, true, false, 10, [[.d (iv (rfT ⟨nx, l⟩ r c).last), .d (.sl 4 ((rfT ⟨nx, l⟩ r c).bal.map legC))]]⟩ : ARow))]) ?_ ?_ ?_ ?_) ⟨[], r.mems, rfl, rfl, rfl⟩ ?_
   ·simp only [leV, JD, QQ, Qd, Qc]; exact ⟨(by first | exact Qo rfl | exact Qq (by decide) | exact Qp | exact Qn _ | exact Qs (by simp) (by rfl) | exact Qr (by simp) (by rfl) (by first | rfl | (simp; done) | (simp; omega)) | exact Qt (by first | rfl | simp)), (by first | exact Qo rfl | exact Qq (by decide) | exact Qp | exact Qn _ | exact Qs (by simp) (by rfl) | exact Qr (by simp) (by rfl) (by first | rfl | (simp; done) | (simp; omega)) | exact Qt (by first | rfl | simp)), (by first | exact Qo rfl | exact Qq (by decide) | exact Qp | exact Qn _ | exact Qs (by simp) (by rfl) | exact Qr (by simp) (by rfl) (by first | rfl | (simp; done) | (simp; omega)) | exact Qt (by first | rfl | simp)), (by first | exact Qo rfl | exact Qq (by decide) | exact Qp | exact Qn _ | exact Qs (by simp) (by rfl) | exact Qr (by simp) (by rfl) (by first | rfl | (simp; done) | (simp; omega)) | exact Qt (by first | rfl | simp)), (by first | exact Qo rfl | exact Qq (by decide) | exact Qp | exact Qn _ | exact Qs (by simp) (by rfl) | exact Qr (by simp) (by rfl) (by first | rfl | (simp; done) | (simp; omega)) | exact Qt (by first | rfl | simp)), (Qt rfl), (by first | exact Qo rfl | exact Qq (by decide) | exact Qp | exact Qn _ | exact Qs (by simp) (by rfl) | exact Qr (by simp) (by rfl) (by first | rfl | (simp; done) | (simp; omega)) | exact Qt (by first | rfl | simp)), trivial⟩
   ·exact ⟨fun _ => ⟨_, rfl, (by first | exact Qv (by simp [QX, QY]) | exact Qu (by simp) (by simp [QX, QY]))⟩, fun h => by simp at h, fun _ => ⟨_, rfl, (by first | exact Qv (by simp [QX, QY]) | exact Qu (by simp) (by simp [QX, QY]))⟩, fun h => by simp at h, fun _ => ⟨_, rfl, (by first | exact Qv (by simp [QX, QY]) | exact Qu (by simp) (by simp [QX, QY]))⟩, fun h => by simp at h, trivial⟩
   ·simp [wfV, QY, QX, lookR, grow]
   ·exact ⟨by simp [QX, QY, lookR], by simp [QX, QY, lookR], by simp [QX, QY, lookR], trivial⟩
   rintro m s ⟨pre, post, hsp, rfl, rfl⟩
   have hspl := congrArg List.length hsp
   simp only [QC] at hspl
   have hDl := rfDs_len l c pre
   refine JA fun K2 hK2 => ?_
   refine JA fun K3 hK3 => ?_
   refine Qz F_mixed [some 69, some 70, some 71, some 72, some 73] rfl ?_
   simp only [zzK, QR, QP, QQ, JC, zz19, zz23, F_off45_0, zzH, QN, QS, F_ok41, F_ag41, F_sz41, zz8, zzD, zzC, QA, yyE, Qe, JE, zz12, F_sl41, Option.isSome_some, zz21, JM, zz22, JN, zz6, QO, ↓Qb]
   refine hK3 _ ?_; try clear hK3 K3
   refine kpA [2, 3, 4, 8, 10, 11, 12, 73] ?_
   refine cnA ?_ ?_
   ·intro hb
    obtain ⟨x, post2, rfl⟩ : ∃ x t, post = x :: t := by
     cases post with
     | nil => have := Qg hb; simp at hspl; omega
     | cons x t => exact ⟨x, t, rfl⟩
    clear hb
    simp only [QF] at hspl
    have gx : (r.mems.map memC).getD pre.length [] = [iv x.no, iv x.state, iv x.need] := by
     rw [hsp, List.map_append]; exact gd_mid' (A := pre.map memC) _ _ (by simp)
    have bx := ltI (show pre.length < r.mems.length by omega)
    have hwx : Ql .i64 ((pre.length : Int) + 1) = ((pre ++ [x]).length : Int) := by rw [wrapI (by omega) (by omega)]; simp
    have hmem : x ∈ r.mems := by rw [hsp]; simp
    have hF := hMF x hmem
    obtain ⟨hh3, hh2⟩ := rf_has he hpost hmem
    simp only at hh3 hh2
    obtain ⟨T3, hT3⟩ : ∃ n, ofL (fAc 3 x.no c) (rfT ⟨nx, l⟩ r c).bal = n := ⟨_, rfl⟩
    obtain ⟨T2, hT2⟩ : ∃ n, ofL (fAc 2 x.no c) (rfT ⟨nx, l⟩ r c).bal = n := ⟨_, rfl⟩
    obtain ⟨O3, hO3⟩ : ∃ n, ofL (fAc 3 x.no c) l = n := ⟨_, rfl⟩
    obtain ⟨O2, hO2⟩ : ∃ n, ofL (fAc 2 x.no c) l = n := ⟨_, rfl⟩
    rw [hT3, hO3] at hh3
    rw [hT2, hO2] at hh2
    have f1 := hF.need
    have f2 := hF.had
    have f3 := hF.cash
    have f4 := hF.lk
    have f5 := hF.ch
    have f6 := hF.py
    rw [hO3] at f2 f4
    rw [hO2] at f3 f5
    have uT3 : ofL ⟨3, x.no, c⟩ (rfT ⟨nx, l⟩ r c).bal = T3 := hT3
    have uT2 : ofL ⟨2, x.no, c⟩ (rfT ⟨nx, l⟩ r c).bal = T2 := hT2
    have uO3 : ofL ⟨3, x.no, c⟩ l = O3 := hO3
    refine JI ?_
    simp only [zz6, QO, ↓Qb]
    refine hK2 _ ?_; try clear hK2 K2
    refine kpA [2, 3, 4, 8, 10, 11, 12] ?_
    refine JA fun K2 hK2 => ?_
    refine JH ?_
    refine JA fun K3 hK3 => ?_
    refine Qz F_mixed [some 76, some 77, some 78, some 79, some 80, some 13, none] rfl ?_
    simp only [zzK, QR, QP, QQ, zz19, zz23, F_off45_0, zzH, QN, QS, F_ok41, F_ag41, F_sz41, zz8, zzD, zzC, QA, yyE, Qe, JC, JW, zz24, F_sl41, F_sz51, F_ok51, F_ag51, zz32, JS, F_zero51, zz10, zz18, splice, QG, zz1, zzG, memC, gx, bx, hwx, JN, ge0, QV, QW, zz6, QO, ↓Qb]
    refine hK3 _ ?_; try clear hK3 K3
    refine kpA [2, 3, 4, 8, 10, 11, 12, 13] ?_
    refine JA fun K3 hK3 => ?_
    refine awp_tree F_mixed [some 81, some 82, some 83, some 84, some 85, some 86, some 87, some 88, some 14, some 15, none, none] rfl (.one 0 (.one 1 (.one 2 (.one 3 (.one 4 (.one 6 (.one 8 (.one 9 (.two (.one 5 (.one 7 (.one 10 (.one 11 .nil)))) (.one 10 (.one 5 (.one 7 (.one 11 .nil))))))))))))) (by kernel_rfl) ?_
    simp only [zzK, QR, QP, QQ, zz19, zz23, F_off51_0, zzH, QN, QS, F_ok3, F_ag3, F_sz3, zz8, zzD, zzC, QA, yyE, Qe, JC, F_zero32, F_bld32, zz7, splice, Option.getD_some, QG, zz1, zzG, zz10, F_fld32_0, F_fld32_1, F_fld32_2, zz32, JS, zz18, F_ok32, F_sz32, acC, fAc, zz6, QO, ↓Qb, evT, List.getElem?_cons_zero, List.getElem?_cons_succ]
    refine hK3 _ ?_; try clear hK3 K3
    refine kpA [2, 3, 4, 8, 10, 11, 12, 13, 14, 15] ?_
    refine JA fun K3 hK3 => ?_
    refine awp_draw F_mixed [some 89, some 90, some 91, some 92, some 93, some 94, some 16, some 17] rfl (by kernel_rfl) ?_
    simp only [zzK, QR, QP, QQ, F_ok24, F_ag24, F_sz24, zz8, zz23, zzD, QS, QN, zzH, zzC, QA, yyE, Qe, F_ok32, F_ag32, F_sz32, JE, JF, JB, ledC, legs, acC, fAc, uT3, uO3, QW, zz6, QO, ↓Qb]
    refine JT F_go10 (fun hG => rOf_ (rfT ⟨nx, l⟩ r c).last (rfT ⟨nx, l⟩ r c).bal (fAc 3 x.no c) (by omega)) (by simp [QY, QX]) (by simp) ?_
    simp only [zzK, QR, QP, QQ, F_ok24, F_ag24, F_sz24, zz8, zz23, zzD, QS, QN, zzH, zzC, QA, yyE, Qe, F_ok32, F_ag32, F_sz32, JE, JF, JB, ledC, legs, acC, fAc, uT3, uO3, QW, zz6, QO, ↓Qb, atsL, oksG, JV, QZ, Qa, JO, Qm, QT, QS, zz9, QB, QA, S_mem, yyF, QF, zz2]
    refine JT F_go10 (fun hG => rOf_ nx l (fAc 3 x.no c) (by omega)) (by simp [QY, QX]) (by simp) ?_
    simp only [zzK, QR, QP, QQ, F_ok24, F_ag24, F_sz24, zz8, zz23, zzD, QS, QN, zzH, zzC, QA, yyE, Qe, F_ok32, F_ag32, F_sz32, JE, JF, JB, ledC, legs, acC, fAc, uT3, uO3, QW, zz6, QO, ↓Qb, atsL, oksG, JV, QZ, Qa, JO, Qm, QT, QS, zz9, QB, QA, S_mem, yyF, QF, zz2]
    refine hK3 _ ?_; try clear hK3 K3
    refine kpA [2, 3, 4, 8, 10, 11, 12, 13, 14, 16, 17] ?_
    refine JA fun K3 hK3 => ?_
    refine JA fun K4 hK4 => ?_
    refine Qz F_mixed [some 95, some 96, some 97] rfl ?_
    simp only [zzK, QR, QP, QQ, zz19, zz23, F_off51_1, zzH, QN, QS, F_ok3, F_ag3, F_sz3, zz8, zzD, zzC, QA, yyE, Qe, zz21, JM, zz28, zz6, QO, ↓Qb]
    refine hK4 _ ?_; try clear hK4 K4
    refine kpA [2, 3, 4, 8, 10, 11, 12, 13, 14, 16, 17, 97] ?_
    refine cnA ?_ ?_
    ·intro hb
     have hx : (x.state != 1) = true := hb
     clear hb
     have q3 : T3 = O3 := by rw [hh3, hx]; simp
     have hd0 : rfDs l c (pre ++ [x]) = rfDs l c pre := by rw [rfDs_snoc]; simp only [rfD1, hx, Qd, QG]
     refine JA fun K5 hK5 => ?_
     refine JA fun K6 hK6 => ?_
     refine Qz F_mixed [some 98, some 99, some 100] rfl ?_
     simp only [zzK, QR, QP, QQ, JC, zz21, JM, zz28, zz6, QO, ↓Qb]
     refine hK6 _ ?_; try clear hK6 K6
     refine kpA [2, 3, 4, 8, 10, 11, 12, 100] ?_
     refine cnA ?_ ?_
     ·intro hb
      exfalso
      simp [q3] at hb
     ·intro hb
      clear hb
      refine JI ?_
      simp only [zz6, QO, ↓Qb]
      refine hK5 _ ?_; try clear hK5 K5
      refine kpA [2, 3, 4, 8, 10, 11, 12] ?_
      refine JK ?_
      simp only [zz6, QO, ↓Qb]
      refine hK2 _ ?_; try clear hK2 K2
      refine kpA [2, 3, 4, 8, 10, 11, 12] ?_
      refine Qz F_mixed [some 74, some 75, some 12] rfl ?_
      simp only [zzK, QR, QP, QQ, JC, zz21, JM, zz26, JB, hwx, zz6, QO, ↓Qb]
      refine ⟨post2.length, _, by simp, le_SK id [] rfl (l' := [(2, .d (iv c)), (3, .ptr 3 0 0), (4, .ptr 4 0 0), (8, .d (fds (rfDs l c r.mems))), (10, .ptr 10 0 0), (11, .d (iv (rfDs l c (pre ++ [x])).length)), (12, .d (iv (pre ++ [x]).length))]) (m' := [(3, (⟨True, 24, 2, true, false, 3, [[.d (iv nx), .d (.sl 4 (l.map legC))]]⟩ : ARow)), (4, (⟨True, 45, 3, true, false, 4, [[.d (.sl 3 (r.mems.map memC)), .d (.sl 12 (r.insts.map instC)), .d (.sl 4 (r.assets.map assetC))]]⟩ : ARow)), (10, (⟨True, 24, 2, true, false, 10, [[.d (iv (rfT ⟨nx, l⟩ r c).last), .d (.sl 4 ((rfT ⟨nx, l⟩ r c).bal.map legC))]]⟩ : ARow))]) ?_ ?_ ?_ ?_, (pre ++ [x]), post2, by simp [hsp], rfl, rfl⟩
      ·simp only [leV, JD, QQ, Qd, Qc, hwx, hd0]; exact ⟨(by first | exact Qo rfl | exact Qq (by decide) | exact Qp | exact Qn _ | exact Qs (by simp) (by rfl) | exact Qr (by simp) (by rfl) (by first | rfl | (simp; done) | (simp; omega)) | exact Qt (by first | rfl | simp)), (by first | exact Qo rfl | exact Qq (by decide) | exact Qp | exact Qn _ | exact Qs (by simp) (by rfl) | exact Qr (by simp) (by rfl) (by first | rfl | (simp; done) | (simp; omega)) | exact Qt (by first | rfl | simp)), (by first | exact Qo rfl | exact Qq (by decide) | exact Qp | exact Qn _ | exact Qs (by simp) (by rfl) | exact Qr (by simp) (by rfl) (by first | rfl | (simp; done) | (simp; omega)) | exact Qt (by first | rfl | simp)), (by first | exact Qo rfl | exact Qq (by decide) | exact Qp | exact Qn _ | exact Qs (by simp) (by rfl) | exact Qr (by simp) (by rfl) (by first | rfl | (simp; done) | (simp; omega)) | exact Qt (by first | rfl | simp)), (by first | exact Qo rfl | exact Qq (by decide) | exact Qp | exact Qn _ | exact Qs (by simp) (by rfl) | exact Qr (by simp) (by rfl) (by first | rfl | (simp; done) | (simp; omega)) | exact Qt (by first | rfl | simp)), (by first | exact Qo rfl | exact Qq (by decide) | exact Qp | exact Qn _ | exact Qs (by simp) (by rfl) | exact Qr (by simp) (by rfl) (by first | rfl | (simp; done) | (simp; omega)) | exact Qt (by first | rfl | simp)), (by first | exact Qo rfl | exact Qq (by decide) | exact Qp | exact Qn _ | exact Qs (by simp) (by rfl) | exact Qr (by simp) (by rfl) (by first | rfl | (simp; done) | (simp; omega)) | exact Qt (by first | rfl | simp)), trivial⟩
      ·exact ⟨fun _ => ⟨_, rfl, (by first | exact Qv (by simp [QX, QY]) | exact Qu (by simp) (by simp [QX, QY]))⟩, fun h => by simp at h, fun _ => ⟨_, rfl, (by first | exact Qv (by simp [QX, QY]) | exact Qu (by simp) (by simp [QX, QY]))⟩, fun h => by simp at h, fun _ => ⟨_, rfl, (by first | exact Qv (by simp [QX, QY]) | exact Qu (by simp) (by simp [QX, QY]))⟩, fun h => by simp at h, trivial⟩
      ·simp [wfV, QY, QX, lookR, grow]
      ·exact ⟨by simp [QX, QY, lookR], by simp [QX, QY, lookR], by simp [QX, QY, lookR], trivial⟩
    ·intro hb
     have hx : (x.state != 1) = false := hb
     clear hb
     rw [hx, Qc] at hh3 hh2
     refine JI ?_
     simp only [zz6, QO, ↓Qb]
     refine hK3 _ ?_; try clear hK3 K3
     refine kpA [2, 3, 4, 8, 10, 11, 12, 13, 14, 16, 17] ?_
     refine JA fun K3 hK3 => ?_
     refine JA fun K4 hK4 => ?_
     refine Qz F_mixed [some 101, some 102, some 103, some 104, some 105, some 106, some 107, some 108, some 109, some 110, some 111, some 112, some 113, some 114, some 115, some 116, some 117, some 118, some 119, some 120, some 121, some 122, some 123, some 124, some 125, some 126, some 127, some 128, some 129, some 130, some 131, some 132, some 133, some 134] rfl ?_
     simp only [zzK, QR, QP, QQ, QU, JZ, zz5, Qj, Qi, Qh, JC, zz21, JM, zz22, zz19, zz23, F_off51_2, zzH, QN, QS, F_ok3, F_ag3, F_sz3, zz8, zzD, zzC, QA, yyE, Qe, JE, zz11, grsL, QB, oksL, zz25, zz13, JQ, JR, zz28, F_ok24, F_ag24, F_sz24, F_ok32, F_ag32, F_sz32, JF, ledC, legs, acC, fAc, uT2, QW, zz6, QO, ↓Qb]
     refine JT F_go10 (fun hG => rOf_ (rfT ⟨nx, l⟩ r c).last (rfT ⟨nx, l⟩ r c).bal (fAc 2 x.no c) (by omega)) (by simp [QY, QX]) (by simp) ?_
     simp only [zzK, QR, QP, QQ, QU, JZ, zz5, Qj, Qi, Qh, JC, zz21, JM, zz22, zz19, zz23, F_off51_2, zzH, QN, QS, F_ok3, F_ag3, F_sz3, zz8, zzD, zzC, QA, yyE, Qe, JE, zz11, grsL, QB, oksL, zz25, zz13, JQ, JR, zz28, F_ok24, F_ag24, F_sz24, F_ok32, F_ag32, F_sz32, JF, ledC, legs, acC, fAc, uT2, QW, zz6, QO, ↓Qb, atsL, oksG, JV, QZ, Qa, JO, Qm, QT, QS, zz9, QB, QA, S_mem, yyF, QF, zz2]
     refine JT F_go10 (fun hG => rOf_ (rfT ⟨nx, l⟩ r c).last (rfT ⟨nx, l⟩ r c).bal (fAc 2 x.no c) (by omega)) (by simp [QY, QX]) (by simp) ?_
     simp only [zzK, QR, QP, QQ, QU, JZ, zz5, Qj, Qi, Qh, JC, zz21, JM, zz22, zz19, zz23, F_off51_2, zzH, QN, QS, F_ok3, F_ag3, F_sz3, zz8, zzD, zzC, QA, yyE, Qe, JE, zz11, grsL, QB, oksL, zz25, zz13, JQ, JR, zz28, F_ok24, F_ag24, F_sz24, F_ok32, F_ag32, F_sz32, JF, ledC, legs, acC, fAc, uT2, QW, zz6, QO, ↓Qb, atsL, oksG, JV, QZ, Qa, JO, Qm, QT, QS, zz9, QB, QA, S_mem, yyF, QF, zz2]
     refine hK4 _ ?_; try clear hK4 K4
     refine kpA [2, 3, 4, 8, 10, 11, 12, 13, 16, 134] ?_
     refine cnA ?_ ?_
     ·intro hb
      exfalso
      simp only [Bool.or_eq_true, Bool.and_eq_true, decide_eq_true_eq, bne_iff_ne] at hb
      split at hb <;> omega
     ·intro hb
      clear hb
      refine JI ?_
      simp only [zz6, QO, ↓Qb]
      refine hK3 _ ?_; try clear hK3 K3
      refine kpA [2, 3, 4, 8, 10, 11, 12, 13, 16] ?_
      refine JA fun K3 hK3 => ?_
      refine Qz F_mixed [some 135, some 136, some 137, some 138] rfl ?_
      simp only [zzK, QR, QP, QQ, JC, zz19, zz23, F_off51_2, zzH, QN, QS, F_ok3, F_ag3, F_sz3, zz8, zzD, zzC, QA, yyE, Qe, zz21, JM, zz22, zz6, QO, ↓Qb]
      refine hK3 _ ?_; try clear hK3 K3
      refine kpA [2, 3, 4, 8, 10, 11, 12, 13, 16, 138] ?_
      refine cnA ?_ ?_
      ·intro hb
       have hlt : T3 < x.need := Qg hb
       clear hb
       have hgt : decide (lkN l c x > pyN l c x) = true := decide_eq_true (by omega)
       have e1 : rfD1 l c x = [⟨x.no, c, Ql .i64 (lkN l c x - pyN l c x)⟩] := by simp only [rfD1, hx, hgt, Qd, Qc]
       have hwl : Ql .i64 (lkN l c x - pyN l c x) = x.need - T3 := by rw [wrapI (by omega) (by omega)]; omega
       rw [hwl] at e1
       have hwn : Ql .i64 (x.need - T3) = x.need - T3 := wrapI (by omega) (by omega)
       have hd1 : rfDs l c (pre ++ [x]) = rfDs l c pre ++ [⟨x.no, c, x.need - T3⟩] := by rw [rfDs_snoc, e1]
       have hU : rfDs l c r.mems = rfDs l c pre ++ ⟨x.no, c, x.need - T3⟩ :: rfDs l c post2 := by rw [hsp, rfDs, List.flatMap_append, List.flatMap_cons, e1]; rfl
       have hkl : (rfDs l c pre).length < (rfDs l c r.mems).length := by rw [hU]; simp
       have gk : ((rfDs l c r.mems).map fdueC).getD (rfDs l c pre).length [] = [iv x.no, iv c, iv (x.need - T3)] := by
        rw [hU, List.map_append]; exact gd_mid' (A := (rfDs l c pre).map fdueC) _ _ (by simp)
       have bk := ltI hkl
       have hkg : decide (((rfDs l c pre).length : Int) ≥ ((rfDs l c r.mems).length : Int)) = false := decide_eq_false (by omega)
       have hk1 : Ql .i64 (((rfDs l c pre).length : Int) + 1) = ((rfDs l c (pre ++ [x])).length : Int) := by rw [wrapI (by omega) (by omega), hd1]; simp
       refine JA fun K4 hK4 => ?_
       refine JA fun K5 hK5 => ?_
       refine awp_draw F_mixed [some 139, some 140, some 141, some 142, some 143, some 144, some 145, some 146, some 147, some 148, some 149, some 150, some 151, some 152, some 153, some 154, some 155, some 156, some 157, some 158, some 159, some 160, some 161, some 162, some 163, some 164, some 165, some 166, some 167, some 168, some 169, some 170, some 171, some 172, some 173] rfl (by kernel_rfl) ?_
       simp only [zzK, QR, QP, QQ, QU, JZ, zz5, Qj, Qi, Qh, JC, JE, zz12, F_sl47, Option.isSome_some, zz21, JM, zz31, JW, zz23, zz24, F_sz53, QA, zzC, yyE, Qe, zz19, F_off53_0, zzH, QN, QS, F_ok3, F_ag3, F_sz3, zz8, zzD, F_off51_0, zz28, zz13, JQ, JR, F_off53_1, F_off53_2, F_off51_2, zz33, fds, gk, bk, hkg, hwn, JN, ge0, QV, QW, zz6, QO, ↓Qb]
       refine hK5 _ ?_; try clear hK5 K5
       refine kpA [2, 3, 4, 8, 10, 11, 12, 173] ?_
       refine cnA ?_ ?_
       ·intro hb
        exfalso
        simp [hkg, hwn] at hb
       ·intro hb
        clear hb
        refine JI ?_
        simp only [zz6, QO, ↓Qb]
        refine hK4 _ ?_; try clear hK4 K4
        refine kpA [2, 3, 4, 8, 10, 11, 12] ?_
        refine Qz F_mixed [some 174, some 175, some 11] rfl ?_
        simp only [zzK, QR, QP, QQ, JC, zz21, JM, zz26, JB, hk1, zz6, QO, ↓Qb]
        refine hK2 _ ?_; try clear hK2 K2
        refine kpA [2, 3, 4, 8, 10, 11, 12] ?_
        refine Qz F_mixed [some 74, some 75, some 12] rfl ?_
        simp only [zzK, QR, QP, QQ, JC, zz21, JM, zz26, JB, hwx, zz6, QO, ↓Qb]
        refine ⟨post2.length, _, by simp, le_SK id [] rfl (l' := [(2, .d (iv c)), (3, .ptr 3 0 0), (4, .ptr 4 0 0), (8, .d (fds (rfDs l c r.mems))), (10, .ptr 10 0 0), (11, .d (iv (rfDs l c (pre ++ [x])).length)), (12, .d (iv (pre ++ [x]).length))]) (m' := [(3, (⟨True, 24, 2, true, false, 3, [[.d (iv nx), .d (.sl 4 (l.map legC))]]⟩ : ARow)), (4, (⟨True, 45, 3, true, false, 4, [[.d (.sl 3 (r.mems.map memC)), .d (.sl 12 (r.insts.map instC)), .d (.sl 4 (r.assets.map assetC))]]⟩ : ARow)), (10, (⟨True, 24, 2, true, false, 10, [[.d (iv (rfT ⟨nx, l⟩ r c).last), .d (.sl 4 ((rfT ⟨nx, l⟩ r c).bal.map legC))]]⟩ : ARow))]) ?_ ?_ ?_ ?_, (pre ++ [x]), post2, by simp [hsp], rfl, rfl⟩
        ·simp only [leV, JD, QQ, Qd, Qc, hwx]; exact ⟨(by first | exact Qo rfl | exact Qq (by decide) | exact Qp | exact Qn _ | exact Qs (by simp) (by rfl) | exact Qr (by simp) (by rfl) (by first | rfl | (simp; done) | (simp; omega)) | exact Qt (by first | rfl | simp)), (by first | exact Qo rfl | exact Qq (by decide) | exact Qp | exact Qn _ | exact Qs (by simp) (by rfl) | exact Qr (by simp) (by rfl) (by first | rfl | (simp; done) | (simp; omega)) | exact Qt (by first | rfl | simp)), (by first | exact Qo rfl | exact Qq (by decide) | exact Qp | exact Qn _ | exact Qs (by simp) (by rfl) | exact Qr (by simp) (by rfl) (by first | rfl | (simp; done) | (simp; omega)) | exact Qt (by first | rfl | simp)), (by first | exact Qo rfl | exact Qq (by decide) | exact Qp | exact Qn _ | exact Qs (by simp) (by rfl) | exact Qr (by simp) (by rfl) (by first | rfl | (simp; done) | (simp; omega)) | exact Qt (by first | rfl | simp)), (by first | exact Qo rfl | exact Qq (by decide) | exact Qp | exact Qn _ | exact Qs (by simp) (by rfl) | exact Qr (by simp) (by rfl) (by first | rfl | (simp; done) | (simp; omega)) | exact Qt (by first | rfl | simp)), (by first | exact Qo rfl | exact Qq (by decide) | exact Qp | exact Qn _ | exact Qs (by simp) (by rfl) | exact Qr (by simp) (by rfl) (by first | rfl | (simp; done) | (simp; omega)) | exact Qt (by first | rfl | simp)), (by first | exact Qo rfl | exact Qq (by decide) | exact Qp | exact Qn _ | exact Qs (by simp) (by rfl) | exact Qr (by simp) (by rfl) (by first | rfl | (simp; done) | (simp; omega)) | exact Qt (by first | rfl | simp)), trivial⟩
        ·exact ⟨fun _ => ⟨_, rfl, (by first | exact Qv (by simp [QX, QY]) | exact Qu (by simp) (by simp [QX, QY]))⟩, fun h => by simp at h, fun _ => ⟨_, rfl, (by first | exact Qv (by simp [QX, QY]) | exact Qu (by simp) (by simp [QX, QY]))⟩, fun h => by simp at h, fun _ => ⟨_, rfl, (by first | exact Qv (by simp [QX, QY]) | exact Qu (by simp) (by simp [QX, QY]))⟩, fun h => by simp at h, trivial⟩
        ·simp [wfV, QY, QX, lookR, grow]
        ·exact ⟨by simp [QX, QY, lookR], by simp [QX, QY, lookR], by simp [QX, QY, lookR], trivial⟩
      ·intro hb
       have hge : x.need ≤ T3 := by have := Qf hb; omega
       clear hb
       have hd0 : rfDs l c (pre ++ [x]) = rfDs l c pre := by rw [rfDs_snoc]; simp only [rfD1, hx, show decide (lkN l c x > pyN l c x) = false from decide_eq_false (by omega), Qc, QG]
       refine JI ?_
       simp only [zz6, QO, ↓Qb]
       refine hK2 _ ?_; try clear hK2 K2
       refine kpA [2, 3, 4, 8, 10, 11, 12] ?_
       refine Qz F_mixed [some 74, some 75, some 12] rfl ?_
       simp only [zzK, QR, QP, QQ, JC, zz21, JM, zz26, JB, hwx, zz6, QO, ↓Qb]
       refine ⟨post2.length, _, by simp, le_SK id [] rfl (l' := [(2, .d (iv c)), (3, .ptr 3 0 0), (4, .ptr 4 0 0), (8, .d (fds (rfDs l c r.mems))), (10, .ptr 10 0 0), (11, .d (iv (rfDs l c (pre ++ [x])).length)), (12, .d (iv (pre ++ [x]).length))]) (m' := [(3, (⟨True, 24, 2, true, false, 3, [[.d (iv nx), .d (.sl 4 (l.map legC))]]⟩ : ARow)), (4, (⟨True, 45, 3, true, false, 4, [[.d (.sl 3 (r.mems.map memC)), .d (.sl 12 (r.insts.map instC)), .d (.sl 4 (r.assets.map assetC))]]⟩ : ARow)), (10, (⟨True, 24, 2, true, false, 10, [[.d (iv (rfT ⟨nx, l⟩ r c).last), .d (.sl 4 ((rfT ⟨nx, l⟩ r c).bal.map legC))]]⟩ : ARow))]) ?_ ?_ ?_ ?_, (pre ++ [x]), post2, by simp [hsp], rfl, rfl⟩
       ·simp only [leV, JD, QQ, Qd, Qc, hwx, hd0]; exact ⟨(by first | exact Qo rfl | exact Qq (by decide) | exact Qp | exact Qn _ | exact Qs (by simp) (by rfl) | exact Qr (by simp) (by rfl) (by first | rfl | (simp; done) | (simp; omega)) | exact Qt (by first | rfl | simp)), (by first | exact Qo rfl | exact Qq (by decide) | exact Qp | exact Qn _ | exact Qs (by simp) (by rfl) | exact Qr (by simp) (by rfl) (by first | rfl | (simp; done) | (simp; omega)) | exact Qt (by first | rfl | simp)), (by first | exact Qo rfl | exact Qq (by decide) | exact Qp | exact Qn _ | exact Qs (by simp) (by rfl) | exact Qr (by simp) (by rfl) (by first | rfl | (simp; done) | (simp; omega)) | exact Qt (by first | rfl | simp)), (by first | exact Qo rfl | exact Qq (by decide) | exact Qp | exact Qn _ | exact Qs (by simp) (by rfl) | exact Qr (by simp) (by rfl) (by first | rfl | (simp; done) | (simp; omega)) | exact Qt (by first | rfl | simp)), (by first | exact Qo rfl | exact Qq (by decide) | exact Qp | exact Qn _ | exact Qs (by simp) (by rfl) | exact Qr (by simp) (by rfl) (by first | rfl | (simp; done) | (simp; omega)) | exact Qt (by first | rfl | simp)), (by first | exact Qo rfl | exact Qq (by decide) | exact Qp | exact Qn _ | exact Qs (by simp) (by rfl) | exact Qr (by simp) (by rfl) (by first | rfl | (simp; done) | (simp; omega)) | exact Qt (by first | rfl | simp)), (by first | exact Qo rfl | exact Qq (by decide) | exact Qp | exact Qn _ | exact Qs (by simp) (by rfl) | exact Qr (by simp) (by rfl) (by first | rfl | (simp; done) | (simp; omega)) | exact Qt (by first | rfl | simp)), trivial⟩
       ·exact ⟨fun _ => ⟨_, rfl, (by first | exact Qv (by simp [QX, QY]) | exact Qu (by simp) (by simp [QX, QY]))⟩, fun h => by simp at h, fun _ => ⟨_, rfl, (by first | exact Qv (by simp [QX, QY]) | exact Qu (by simp) (by simp [QX, QY]))⟩, fun h => by simp at h, fun _ => ⟨_, rfl, (by first | exact Qv (by simp [QX, QY]) | exact Qu (by simp) (by simp [QX, QY]))⟩, fun h => by simp at h, trivial⟩
       ·simp [wfV, QY, QX, lookR, grow]
       ·exact ⟨by simp [QX, QY, lookR], by simp [QX, QY, lookR], by simp [QX, QY, lookR], trivial⟩
   ·intro hb
    obtain rfl : post = [] := by
     cases post with
     | nil => rfl
     | cons x t => have := Qf hb; simp at hspl; omega
    clear hb
    simp only [QG] at hsp
    subst hsp
    refine JK ?_
    simp only [zz6, QO, ↓Qb]
    refine hK0 _ ?_; try clear hK0 K0
    refine kpA [8, 11] ?_
    refine JA fun K0 hK0 => ?_
    refine Qz F_mixed [some 176, some 177, some 178, some 179, some 180, some 181, some 182, some 6] rfl ?_
    simp only [zzK, QR, QP, QQ, QU, JZ, zz5, Qj, Qi, Qh, and_self, JC, JE, zz12, F_sl47, Option.isSome_some, zz21, JM, zz34, JF, zz13, JQ, JR, JB, fds, JN, zz6, QO, ↓Qb]
    refine JT F_go9 (fun hG => wakes21_) (by simp [QY, QX]) (by simp) ?_
    simp only [zzK, QR, QP, QQ, QU, JZ, zz5, Qj, Qi, Qh, and_self, JC, JE, zz12, F_sl47, Option.isSome_some, zz21, JM, zz34, JF, zz13, JQ, JR, JB, fds, JN, zz6, QO, ↓Qb, atsL, oksG, JV, QZ, Qa, JO, Qm, QT, QS, zz9, QB, QA, zzC, yyF, zzD, zz2]
    refine hK0 _ ?_; try clear hK0 K0
    refine kpA [6] ?_
    refine JJ ?_
    simp only [zz6, QO, ↓Qb]
    refine dnA ?_
    simp only [QD, QE, resA, JZ, QR, QP, JD, QQ, Qd, Qc, JP]
    try simp
end Go.Proofs.Ytjkfadaedgidpaa
