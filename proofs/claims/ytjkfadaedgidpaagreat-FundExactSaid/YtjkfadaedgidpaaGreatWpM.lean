import Derived.Test.YtjkfadaedgidpaaGreatWpF
namespace Go.Proofs.YtjkfadaedgidpaaGreat
open Go.RowKit
set_option linter.unusedVariables false
set_option linter.unusedSimpArgs false
open Option renaming map_some → QA, bind_some → QB
open List renaming length_append → QC, map_cons → QD, map_nil → QE, length_cons → QF, append_nil → QG, drop_zero → QH, getD_cons_zero → QI, getD_cons_succ → QJ, take_succ_cons → QK, drop_succ_cons → QL
open Nat renaming zero_add → QN, reduceEqDiff → QO, reduceLeDiff → QP, reduceBEq → QQ, reduceLT → QR, reduceAdd → QS, reduceMul → QT, reduceSub → QU
open Int renaming toNat_natCast → QV
open D.agg renaming injEq → QW
open AV renaming idsL → QX, ids → QY, ren → QZ, renL → Qa
open _root_ renaming reduceIte → Qb, cond_false → Qc, cond_true → Qd, reduceCtorEq → Qe, of_decide_eq_false → Qf, of_decide_eq_true → Qg, imp_self → Qh, imp_and → Qi, and_imp → Qj
open IntKind renaming wrap → Ql
open ORow renaming row → Qm
open VLe renaming refl → Qn, refE → Qr
open RowLe renaming data_ → Qw
open Go.Proofs.YtjkfadaedgidpaaGreat renaming awp_plain → Qz, awp_seq → JA, evS_assign → JB, evS_move → JC, look_cons → JD, evS_call → JE, evC_value → JF, awp_block → JH, awp_skip → JI, awp_ret → JJ, awp_exit → JK, awp_loop → JL, gr_v → JM, len_map → JN, addRows → JO, resAll → JP, pickK_l → JQ, pickK_r → JR, newRow1 → JS, freeN → JV, evS_indexAddr → JW, S_getD → JZ, flatA → Ja, flatAs → Jb, flatD → Jc
theorem F_off77_0 : offT Tryz.prog 77 0 = some 0 := by kernel_rfl
theorem F_off113_0 : offT Tryz.prog 113 0 = some 0 := by kernel_rfl
theorem F_off118_0 : offT Tryz.prog 118 0 = some 0 := by kernel_rfl
theorem F_off77_1 : offT Tryz.prog 77 1 = some 1 := by kernel_rfl
theorem F_off77_2 : offT Tryz.prog 77 2 = some 2 := by kernel_rfl
theorem F_go97 : goFn Tryz.prog 97 := ⟨_, Tryz.func97, rfl, rfl⟩
theorem F_off118_1 : offT Tryz.prog 118 1 = some 1 := by kernel_rfl
theorem F_off118_2 : offT Tryz.prog 118 2 = some 2 := by kernel_rfl
theorem F_off118_3 : offT Tryz.prog 118 3 = some 3 := by kernel_rfl
theorem F_sl25 : sliceT Tryz.prog 25 = some 77 := by kernel_rfl
theorem F_sz77 : szT Tryz.prog 77 = 3 := by kernel_rfl
theorem F_ok77 : tyOk Tryz.prog 77 = true := by kernel_rfl
theorem F_ag77 : aggT Tryz.prog 77 = true := by kernel_rfl
theorem F_zero77 : zeroT Tryz.prog 77 = some [(.int .i64 0), (.int .i64 0), (.int .i64 0)] := by kernel_rfl
theorem F_go72 : goFn Tryz.prog 72 := ⟨_, Tryz.func72, rfl, rfl⟩
theorem F_go71 : goFn Tryz.prog 71 := ⟨_, Tryz.func71, rfl, rfl⟩
theorem F_off113_6 : offT Tryz.prog 113 6 = some 6 := by kernel_rfl
theorem F_ok111 : tyOk Tryz.prog 111 = true := by kernel_rfl
theorem F_ag111 : aggT Tryz.prog 111 = true := by kernel_rfl
theorem F_sz111 : szT Tryz.prog 111 = 6 := by kernel_rfl
theorem F_arr111 : arrT Tryz.prog 111 = some (6, 3) := by kernel_rfl
theorem F_off113_1 : offT Tryz.prog 113 1 = some 1 := by kernel_rfl
theorem F_off113_2 : offT Tryz.prog 113 2 = some 2 := by kernel_rfl
theorem F_off113_3 : offT Tryz.prog 113 3 = some 3 := by kernel_rfl
theorem F_off113_4 : offT Tryz.prog 113 4 = some 4 := by kernel_rfl
theorem F_off113_5 : offT Tryz.prog 113 5 = some 5 := by kernel_rfl
theorem F_sl26 : sliceT Tryz.prog 26 = some 113 := by kernel_rfl
theorem F_sz113 : szT Tryz.prog 113 = 12 := by kernel_rfl
theorem F_ok113 : tyOk Tryz.prog 113 = true := by kernel_rfl
theorem F_ag113 : aggT Tryz.prog 113 = true := by kernel_rfl
theorem F_zero113 : zeroT Tryz.prog 113 = some [(.int .i64 0), (.int .i64 0), (.int .i64 0), (.int .i64 0), (.int .i64 0), (.int .i64 0), (.int .i64 0), (.int .i64 0), (.int .i64 0), (.int .i64 0), (.int .i64 0), (.int .i64 0)] := by kernel_rfl
theorem F_go75 : goFn Tryz.prog 75 := ⟨_, Tryz.func75, rfl, rfl⟩
theorem F_go74 : goFn Tryz.prog 74 := ⟨_, Tryz.func74, rfl, rfl⟩
theorem F_sl27 : sliceT Tryz.prog 27 = some 118 := by kernel_rfl
theorem F_sz118 : szT Tryz.prog 118 = 4 := by kernel_rfl
theorem F_ok118 : tyOk Tryz.prog 118 = true := by kernel_rfl
theorem F_ag118 : aggT Tryz.prog 118 = true := by kernel_rfl
theorem F_zero118 : zeroT Tryz.prog 118 = some [(.int .i64 0), (.int .i64 0), (.int .i64 0), (.int .i64 0)] := by kernel_rfl
theorem F_go78 : goFn Tryz.prog 78 := ⟨_, Tryz.func78, rfl, rfl⟩
theorem F_go77 : goFn Tryz.prog 77 := ⟨_, Tryz.func77, rfl, rfl⟩
theorem F_off29_0 : offT Tryz.prog 29 0 = some 0 := by kernel_rfl
theorem F_ok25 : tyOk Tryz.prog 25 = true := by kernel_rfl
theorem F_ag25 : aggT Tryz.prog 25 = false := by kernel_rfl
theorem F_sz25 : szT Tryz.prog 25 = 1 := by kernel_rfl
theorem F_off29_1 : offT Tryz.prog 29 1 = some 1 := by kernel_rfl
theorem F_ok26 : tyOk Tryz.prog 26 = true := by kernel_rfl
theorem F_ag26 : aggT Tryz.prog 26 = false := by kernel_rfl
theorem F_sz26 : szT Tryz.prog 26 = 1 := by kernel_rfl
theorem F_off29_2 : offT Tryz.prog 29 2 = some 2 := by kernel_rfl
theorem F_ok27 : tyOk Tryz.prog 27 = true := by kernel_rfl
theorem F_ag27 : aggT Tryz.prog 27 = false := by kernel_rfl
theorem F_sz27 : szT Tryz.prog 27 = 1 := by kernel_rfl
theorem F_go70 : goFn Tryz.prog 70 := ⟨_, Tryz.func70, rfl, rfl⟩
theorem F_go73 : goFn Tryz.prog 73 := ⟨_, Tryz.func73, rfl, rfl⟩
theorem F_go76 : goFn Tryz.prog 76 := ⟨_, Tryz.func76, rfl, rfl⟩
theorem F_go98 : goFn Tryz.prog 98 := ⟨_, Tryz.func98, rfl, rfl⟩
theorem F_ok29 : tyOk Tryz.prog 29 = true := by kernel_rfl
theorem F_ag29 : aggT Tryz.prog 29 = true := by kernel_rfl
theorem F_sz29 : szT Tryz.prog 29 = 3 := by kernel_rfl
theorem F_go79 : goFn Tryz.prog 79 := ⟨_, Tryz.func79, rfl, rfl⟩
theorem F_go35 : goFn Tryz.prog 35 := ⟨_, Tryz.func35, rfl, rfl⟩
theorem F_go36 : goFn Tryz.prog 36 := ⟨_, Tryz.func36, rfl, rfl⟩
theorem F_go10 : goFn Tryz.prog 10 := ⟨_, Tryz.func10, rfl, rfl⟩
theorem F_go44 : goFn Tryz.prog 44 := ⟨_, Tryz.func44, rfl, rfl⟩
theorem F_zero81 : zeroT Tryz.prog 81 = some [(.int .i64 0), (.int .i64 0), (.int .i64 0)] := by kernel_rfl
theorem F_bld81 : bldT Tryz.prog 81 = true := by kernel_rfl
theorem F_fld81_0 : fldT Tryz.prog 81 0 = some (0, 1) := by kernel_rfl
theorem F_fld81_1 : fldT Tryz.prog 81 1 = some (1, 1) := by kernel_rfl
theorem F_fld81_2 : fldT Tryz.prog 81 2 = some (2, 1) := by kernel_rfl
theorem F_sl49 : sliceT Tryz.prog 49 = some 81 := by kernel_rfl
theorem F_sz81 : szT Tryz.prog 81 = 3 := by kernel_rfl
theorem F_by81 : byT Tryz.prog 81 = 24 := by kernel_rfl
theorem inR_ (n lo hi : Int) : ACalls Tryz.prog 97 [iv n, iv lo, iv hi] [] (bv (inR n lo hi)) := by
 refine acalls_S (rs := [.tmp 6]) Tryz.func97 rfl rfl 15 [(0, .d (iv n)), (1, .d (iv lo)), (2, .d (iv hi))] rfl (by simp) rfl ?_
 refine pq fun K0 hK0 => ?_
 simp only [zzK, QR, QP, QQ, JB, zz6, QO, ↓Qb]
 refine kK hK0 [0, 1, 2] ?_
 refine JA fun K0 hK0 => ?_
 refine Qz F_mixed [some 7, some 8, some 9, some 10, some 11, some 12, some 13, some 14, some 6] rfl ?_
 simp only [zzK, QR, QP, QQ, QU, JZ, zz5, Qj, Qi, Qh, and_self, JC, zz21, JM, zz31, b_leq, pure_leq, zz13, JQ, JR, JB, zz6, QO, ↓Qb]
 refine kK hK0 [6] ?_
 refine JJ ?_
 simp only [zz6, QO, ↓Qb]
 refine dnA ?_
 simp only [QD, QE, resA, JZ, QR, QP, JD, QQ, Qd, Qc, JP]
 rfl
theorem noMem_ (m : MemV) : ACalls Tryz.prog 71 [.agg (memC m)] [] (.d (iv m.no)) := by
 refine acalls_S (rs := [.tmp 2]) Tryz.func71 rfl rfl 5 [(0, .d (.agg (memC m)))] rfl (by simp) rfl ?_
 refine pq fun K0 hK0 => ?_
 simp only [zzK, QR, QP, QQ, zz35, JS, zz1, zzG, zzD, zzC, QA, yyE, Qe, QS, QN, zzH, JB, memC, zz6, QO, ↓Qb]
 refine kK hK0 [1] ?_
 refine pq fun K0 hK0 => ?_
 simp only [zzK, QR, QP, QQ, zz19, zz23, F_off77_0, zzH, QN, QS, F_ok3, F_ag3, F_sz3, zz8, zzD, zzC, QA, yyE, Qe, JB, zz6, QO, ↓Qb]
 refine kK hK0 [2] ?_
 refine JJ ?_
 simp only [zz6, QO, ↓Qb]
 refine dnA ?_
 simp only [QD, QE, resA, JZ, QR, QP, JD, QQ, Qd, Qc, JP]
 
theorem noInst_ (m : InstV) : ACalls Tryz.prog 74 [.agg (instC m)] [] (.d (iv m.no)) := by
 refine acalls_S (rs := [.tmp 2]) Tryz.func74 rfl rfl 5 [(0, .d (.agg (instC m)))] rfl (by simp) rfl ?_
 refine pq fun K0 hK0 => ?_
 simp only [zzK, QR, QP, QQ, zz35, JS, zz1, zzG, zzD, zzC, QA, yyE, Qe, QS, QN, zzH, JB, instC, zz6, QO, ↓Qb]
 refine kK hK0 [1] ?_
 refine pq fun K0 hK0 => ?_
 simp only [zzK, QR, QP, QQ, zz19, zz23, F_off113_0, zzH, QN, QS, F_ok3, F_ag3, F_sz3, zz8, zzD, zzC, QA, yyE, Qe, JB, zz6, QO, ↓Qb]
 refine kK hK0 [2] ?_
 refine JJ ?_
 simp only [zz6, QO, ↓Qb]
 refine dnA ?_
 simp only [QD, QE, resA, JZ, QR, QP, JD, QQ, Qd, Qc, JP]
 
theorem noAsset_ (m : AssetV) : ACalls Tryz.prog 77 [.agg (assetC m)] [] (.d (iv m.no)) := by
 refine acalls_S (rs := [.tmp 2]) Tryz.func77 rfl rfl 5 [(0, .d (.agg (assetC m)))] rfl (by simp) rfl ?_
 refine pq fun K0 hK0 => ?_
 simp only [zzK, QR, QP, QQ, zz35, JS, zz1, zzG, zzD, zzC, QA, yyE, Qe, QS, QN, zzH, JB, assetC, zz6, QO, ↓Qb]
 refine kK hK0 [1] ?_
 refine pq fun K0 hK0 => ?_
 simp only [zzK, QR, QP, QQ, zz19, zz23, F_off118_0, zzH, QN, QS, F_ok3, F_ag3, F_sz3, zz8, zzD, zzC, QA, yyE, Qe, JB, zz6, QO, ↓Qb]
 refine kK hK0 [2] ?_
 refine JJ ?_
 simp only [zz6, QO, ↓Qb]
 refine dnA ?_
 simp only [QD, QE, resA, JZ, QR, QP, JD, QQ, Qd, Qc, JP]
 
theorem memOk_ (m : MemV) : ACalls Tryz.prog 72 [.agg (memC m)] [] (bv (memOk m)) := by
 refine acalls_S (rs := [.tmp 2]) Tryz.func72 rfl rfl 22 [(0, .d (.agg (memC m)))] rfl (by simp) rfl ?_
 refine pq fun K0 hK0 => ?_
 simp only [zzK, QR, QP, QQ, zz35, JS, zz1, zzG, zzD, zzC, QA, yyE, Qe, QS, QN, zzH, JB, memC, zz6, QO, ↓Qb]
 refine kK hK0 [1] ?_
 refine JA fun K0 hK0 => ?_
 refine Qz F_mixed [some 3, some 4, some 5, some 6, some 7, some 8, some 9, some 10, some 11, some 12, some 13, some 14, some 15, some 16, some 17, some 18, some 19, some 20, some 21, some 2] rfl ?_
 simp only [zzK, QR, QP, QQ, QU, JZ, zz5, Qj, Qi, Qh, zz19, zz23, F_off77_0, zzH, QN, QS, F_ok3, F_ag3, F_sz3, zz8, zzD, zzC, QA, yyE, Qe, JE, JF, JC, F_off77_1, zz13, JQ, JR, F_off77_2, F_sl30, F_zero3, zz3, JS, zz1, zzG, maxLen_le, QT, zz21, JM, zz31, JB, ints, QD, zz6, QO, ↓Qb]
 refine cgA F_go97 (fun hG => inR_ m.no 1 16) ?_
 simp only [zzK, QR, QP, QQ, QU, JZ, zz5, Qj, Qi, Qh, zz19, zz23, F_off77_0, zzH, QN, QS, F_ok3, F_ag3, F_sz3, zz8, zzD, zzC, QA, yyE, Qe, JE, JF, JC, F_off77_1, zz13, JQ, JR, F_off77_2, F_sl30, F_zero3, zz3, JS, zz1, zzG, maxLen_le, QT, zz21, JM, zz31, JB, ints, QD, zz6, QO, ↓Qb, atsL, oksG, JV, QZ, Qa, JO, Qm, QT, QS, zz9, QB, QA, S_mem, yyF, QF, zz2]
 refine cgA F_go97 (fun hG => inR_ m.state 1 3) ?_
 simp only [zzK, QR, QP, QQ, QU, JZ, zz5, Qj, Qi, Qh, zz19, zz23, F_off77_0, zzH, QN, QS, F_ok3, F_ag3, F_sz3, zz8, zzD, zzC, QA, yyE, Qe, JE, JF, JC, F_off77_1, zz13, JQ, JR, F_off77_2, F_sl30, F_zero3, zz3, JS, zz1, zzG, maxLen_le, QT, zz21, JM, zz31, JB, ints, QD, zz6, QO, ↓Qb, atsL, oksG, JV, QZ, Qa, JO, Qm, QT, QS, zz9, QB, QA, S_mem, yyF, QF, zz2]
 refine cgA F_go54 (fun hG => Right_ [m.need] (by simp)) ?_
 simp only [zzK, QR, QP, QQ, QU, JZ, zz5, Qj, Qi, Qh, zz19, zz23, F_off77_0, zzH, QN, QS, F_ok3, F_ag3, F_sz3, zz8, zzD, zzC, QA, yyE, Qe, JE, JF, JC, F_off77_1, zz13, JQ, JR, F_off77_2, F_sl30, F_zero3, zz3, JS, zz1, zzG, maxLen_le, QT, zz21, JM, zz31, JB, ints, QD, zz6, QO, ↓Qb, atsL, oksG, JV, QZ, Qa, JO, Qm, QT, QS, zz9, QB, QA, S_mem, yyF, QF, zz2]
 refine kK hK0 [2] ?_
 refine JJ ?_
 simp only [zz6, QO, ↓Qb]
 refine dnA ?_
 simp only [QD, QE, resA, JZ, QR, QP, JD, QQ, Qd, Qc, JP]
 rfl
theorem assetOk_ (m : AssetV) : ACalls Tryz.prog 78 [.agg (assetC m)] [] (bv (assetOk m)) := by
 refine acalls_S (rs := [.tmp 2]) Tryz.func78 rfl rfl 21 [(0, .d (.agg (assetC m)))] rfl (by simp) rfl ?_
 refine pq fun K0 hK0 => ?_
 simp only [zzK, QR, QP, QQ, zz35, JS, zz1, zzG, zzD, zzC, QA, yyE, Qe, QS, QN, zzH, JB, assetC, zz6, QO, ↓Qb]
 refine kK hK0 [1] ?_
 refine JA fun K0 hK0 => ?_
 refine Qz F_mixed [some 3, some 4, some 5, some 6, some 7, some 8, some 9, some 10, some 11, some 12, some 13, some 14, some 15, some 16, some 17, some 18, some 19, some 20, some 2] rfl ?_
 simp only [zzK, QR, QP, QQ, QU, JZ, zz5, Qj, Qi, Qh, zz19, zz23, F_off118_0, zzH, QN, QS, F_ok3, F_ag3, F_sz3, zz8, zzD, zzC, QA, yyE, Qe, JE, JF, JC, F_off118_1, zz13, JQ, JR, F_off118_2, F_off118_3, JB, zz6, QO, ↓Qb]
 refine cgA F_go97 (fun hG => inR_ m.no 1 6) ?_
 simp only [zzK, QR, QP, QQ, QU, JZ, zz5, Qj, Qi, Qh, zz19, zz23, F_off118_0, zzH, QN, QS, F_ok3, F_ag3, F_sz3, zz8, zzD, zzC, QA, yyE, Qe, JE, JF, JC, F_off118_1, zz13, JQ, JR, F_off118_2, F_off118_3, JB, zz6, QO, ↓Qb, atsL, oksG, JV, QZ, Qa, JO, Qm, QT, QS, zz9, QB, QA, S_mem, yyF, QF, zz2]
 refine cgA F_go97 (fun hG => inR_ m.cur 0 2) ?_
 simp only [zzK, QR, QP, QQ, QU, JZ, zz5, Qj, Qi, Qh, zz19, zz23, F_off118_0, zzH, QN, QS, F_ok3, F_ag3, F_sz3, zz8, zzD, zzC, QA, yyE, Qe, JE, JF, JC, F_off118_1, zz13, JQ, JR, F_off118_2, F_off118_3, JB, zz6, QO, ↓Qb, atsL, oksG, JV, QZ, Qa, JO, Qm, QT, QS, zz9, QB, QA, S_mem, yyF, QF, zz2]
 refine cgA F_go97 (fun hG => inR_ m.price 1 1073741824) ?_
 simp only [zzK, QR, QP, QQ, QU, JZ, zz5, Qj, Qi, Qh, zz19, zz23, F_off118_0, zzH, QN, QS, F_ok3, F_ag3, F_sz3, zz8, zzD, zzC, QA, yyE, Qe, JE, JF, JC, F_off118_1, zz13, JQ, JR, F_off118_2, F_off118_3, JB, zz6, QO, ↓Qb, atsL, oksG, JV, QZ, Qa, JO, Qm, QT, QS, zz9, QB, QA, S_mem, yyF, QF, zz2]
 refine cgA F_go97 (fun hG => inR_ m.cut 0 10000) ?_
 simp only [zzK, QR, QP, QQ, QU, JZ, zz5, Qj, Qi, Qh, zz19, zz23, F_off118_0, zzH, QN, QS, F_ok3, F_ag3, F_sz3, zz8, zzD, zzC, QA, yyE, Qe, JE, JF, JC, F_off118_1, zz13, JQ, JR, F_off118_2, F_off118_3, JB, zz6, QO, ↓Qb, atsL, oksG, JV, QZ, Qa, JO, Qm, QT, QS, zz9, QB, QA, S_mem, yyF, QF, zz2]
 refine kK hK0 [2] ?_
 refine JJ ?_
 simp only [zz6, QO, ↓Qb]
 refine dnA ?_
 simp only [QD, QE, resA, JZ, QR, QP, JD, QQ, Qd, Qc, JP]
 rfl
theorem risesM_ (l : List MemV) (hl : l.length < 4611686018427387904) : ACalls Tryz.prog 70 [memsD l, fnD 71, fnD 72] [] (bv (chk memOk MemV.no none l)) := by
 refine acalls_S (rs := [.tmp 6]) Tryz.func70 rfl rfl 38 [(0, .d (memsD l)), (1, .d (fnD 71)), (2, .d (fnD 72))] rfl (by simp) rfl ?_
 refine pq fun K0 hK0 => ?_
 simp only [zzK, QR, QP, QQ, JB, zz6, QO, ↓Qb]
 refine kK hK0 [0, 1, 2] ?_
 refine JA fun K0 hK0 => ?_
 refine pq fun K1 hK1 => ?_
 simp only [zzK, QR, QP, QQ, JC, JE, zz12, F_sl25, Option.isSome_some, memsD, JN, zz6, QO, ↓Qb]
 refine kK hK1 [0, 1, 2, 9, 10, 11] ?_
 refine JH ?_
 refine JL (fun m s => ∃ pre post : List MemV, l = pre ++ post ∧ chk memOk MemV.no none l = chk memOk MemV.no pre.getLast? post ∧ m = post.length ∧ s = S 38 [(0, .d (memsD l)), (1, .d (fnD 71)), (2, .d (fnD 72)), (9, .d (memsD l)), (10, .d (iv l.length)), (11, .d (iv pre.length))] []) l.length _ (le_S0 (l' := [(0, .d (memsD l)), (1, .d (fnD 71)), (2, .d (fnD 72)), (9, .d (memsD l)), (10, .d (iv l.length)), (11, .d (iv ([] : List MemV).length))]) ?_ ?_) ⟨[], l, rfl, rfl, rfl, rfl⟩ ?_
 ·simp only [leL, JD, QQ, Qd, Qc, memsD, JN, List.length_nil]; trivial
 ·simp [wfV, QY]
 rintro m s ⟨pre, post, rfl, hck, rfl, rfl⟩
 refine pq fun K2 hK2 => ?_
 simp only [zzK, QR, QP, QQ, zz21, JM, zz22, zz6, QO, ↓Qb]
 refine kK hK2 [0, 1, 2, 9, 10, 11, 12] ?_
 refine JA fun K2 hK2 => ?_
 refine cnA ?_ ?_
 ·intro hb
  obtain ⟨x, post, rfl⟩ := more_of hb; clear hb
  have hp : pre.length < 4611686018427387904 := by simp at hl; omega
  have hpg := prev_get memC pre post x [] hp
  refine JI ?_
  simp only [zz6, QO, ↓Qb]
  refine kK hK2 [0, 1, 2, 9, 10, 11] ?_
  refine JA fun K2 hK2 => ?_
  refine JH ?_
  refine pq fun K3 hK3 => ?_
  simp only [zzK, QR, QP, QQ, JC, JW, zz23, zz24, F_sl25, F_sz77, QA, zzC, yyE, Qe, F_ok77, F_ag77, zz8, zzD, QS, QN, zzH, zz32, JS, F_zero77, zz10, JB, zz18, splice, QG, zz1, zzG, memsD, memC, getD_mid, JN, lt_mid, ge_mid, zz6, QO, ↓Qb]
  refine kK hK3 [0, 1, 2, 7, 8, 9, 10, 11] ?_
  refine JA fun K3 hK3 => ?_
  refine awp_draw F_mixed [some 16, some 17, some 18, some 19, some 20, some 21, some 22, some 23, some 24, some 25, some 26, some 27, some 28, some 29, some 30, some 31, some 32, some 33, some 34, some 35, some 36] rfl (by kernel_rfl) ?_
  simp only [zzK, QR, QP, QQ, QU, JZ, zz5, Qj, Qi, Qh, JC, F_ok77, F_ag77, F_sz77, zz8, zz23, zzD, QS, QN, zzH, zzC, QA, yyE, Qe, JE, JF, zz29, JM, zz30, zz21, zz25, zz33, JW, zz24, F_sl25, zz31, zz13, JQ, JR, fnD, memsD, memC, JN, hpg, QW, zz6, QO, ↓Qb]
  refine call_goT ?_ ?_ F_go72 (fun hG => memOk_ x) (by simp [QY, QX]) (by simp) ?_
  ·decide
  ·simp only [JD, QQ, Qd, Qc, bare_d, bare_wh, fnD]
  simp only [zzK, QR, QP, QQ, QU, JZ, zz5, Qj, Qi, Qh, JC, F_ok77, F_ag77, F_sz77, zz8, zz23, zzD, QS, QN, zzH, zzC, QA, yyE, Qe, JE, JF, zz29, JM, zz30, zz21, zz25, zz33, JW, zz24, F_sl25, zz31, zz13, JQ, JR, fnD, memsD, memC, JN, hpg, QW, zz6, QO, ↓Qb, QU, JZ, Gp_some, Qj, Qi, Qh, atsL, oksG, JV, QZ, Qa, JO, Qm, QT, QS, zz9, QB, QA, S_mem, yyF, QF, zz2]
  refine ⟨⟨fun _ hp2 => prev_ok pre hp hp2, fun _ _ => prev_lt pre post x hp⟩, ?_⟩
  refine call_goT ?_ ?_ F_go71 (fun hG => noMem_ (lastOr x pre)) (by simp [QY, QX]) (by simp) ?_
  ·decide
  ·simp only [JD, QQ, Qd, Qc, bare_d, bare_wh, fnD]
  simp only [zzK, QR, QP, QQ, QU, JZ, zz5, Qj, Qi, Qh, JC, F_ok77, F_ag77, F_sz77, zz8, zz23, zzD, QS, QN, zzH, zzC, QA, yyE, Qe, JE, JF, zz29, JM, zz30, zz21, zz25, zz33, JW, zz24, F_sl25, zz31, zz13, JQ, JR, fnD, memsD, memC, JN, hpg, QW, zz6, QO, ↓Qb, QU, JZ, Gp_some, Qj, Qi, Qh, atsL, oksG, JV, QZ, Qa, JO, Qm, QT, QS, zz9, QB, QA, S_mem, yyF, QF, zz2]
  refine call_goT ?_ ?_ F_go71 (fun hG => noMem_ x) (by simp [QY, QX]) (by simp) ?_
  ·decide
  ·simp only [JD, QQ, Qd, Qc, bare_d, bare_wh, fnD]
  simp only [zzK, QR, QP, QQ, QU, JZ, zz5, Qj, Qi, Qh, JC, F_ok77, F_ag77, F_sz77, zz8, zz23, zzD, QS, QN, zzH, zzC, QA, yyE, Qe, JE, JF, zz29, JM, zz30, zz21, zz25, zz33, JW, zz24, F_sl25, zz31, zz13, JQ, JR, fnD, memsD, memC, JN, hpg, QW, zz6, QO, ↓Qb, QU, JZ, Gp_some, Qj, Qi, Qh, atsL, oksG, JV, QZ, Qa, JO, Qm, QT, QS, zz9, QB, QA, S_mem, yyF, QF, zz2]
  refine kK hK3 [0, 1, 2, 9, 10, 11, 36] ?_
  refine cnA ?_ ?_
  ·intro hb
   refine pq fun K4 hK4 => ?_
   simp only [zzK, QR, QP, QQ, JB, zz6, QO, ↓Qb]
   refine kK hK4 [6] ?_
   refine JJ ?_
   simp only [zz6, QO, ↓Qb]
   refine dnA ?_
   simp only [QD, QE, resA, JZ, QR, QP, JD, QQ, Qd, Qc, JP]
   rw [hck, chk_step, hb]; simp
  ·intro hb
   refine JI ?_
   simp only [zz6, QO, ↓Qb]
   refine kK hK2 [0, 1, 2, 9, 10, 11] ?_
   refine pz ?_
   simp only [zzK, QR, QP, QQ, zz21, JM, zz26, JC, zz6, QO, ↓Qb]
   refine ⟨post.length, _, by simp, le_S0 (l' := [(0, .d (memsD (pre ++ x :: post))), (1, .d (fnD 71)), (2, .d (fnD 72)), (9, .d (memsD (pre ++ x :: post))), (10, .d (iv (pre ++ x :: post).length)), (11, .d (iv (pre ++ [x]).length))]) ?_ ?_, pre ++ [x], post, by simp, by rw [hck, chk_step, hb]; simp, rfl, rfl⟩
   ·simp only [leL, JD, QQ, Qd, Qc, wrap_len pre x (by simp at hl; omega), memsD, fnD]; trivial
   ·simp [wfV, QY]
 ·intro hb
  obtain rfl := none_of hb; clear hb
  refine JK ?_
  simp only [zz6, QO, ↓Qb]
  refine kK hK0 [] ?_
  refine pq fun K0 hK0 => ?_
  simp only [zzK, QR, QP, QQ, JB, zz6, QO, ↓Qb]
  refine kK hK0 [6] ?_
  refine JJ ?_
  simp only [zz6, QO, ↓Qb]
  refine dnA ?_
  simp only [QD, QE, resA, JZ, QR, QP, JD, QQ, Qd, Qc, JP]
  rw [hck]; rfl
theorem instOk_ (i : InstV) : ACalls Tryz.prog 75 [.agg (instC i)] [] (bv (instOk i)) := by
 refine acalls_S (rs := [.tmp 2]) Tryz.func75 rfl rfl 42 [(0, .d (.agg (instC i)))] rfl (by simp) rfl ?_
 refine pq fun K0 hK0 => ?_
 simp only [zzK, QR, QP, QQ, zz35, JS, zz1, zzG, zzD, zzC, QA, yyE, Qe, QS, QN, zzH, JB, instC, zz6, QO, ↓Qb]
 refine kK hK0 [1] ?_
 refine JA fun K0 hK0 => ?_
 refine pq fun K1 hK1 => ?_
 simp only [zzK, QR, QP, QQ, zz19, zz23, F_off113_6, zzH, QN, QS, F_ok111, F_ag111, F_sz111, zz8, zzD, zzC, QA, yyE, Qe, JC, zz6, QO, ↓Qb]
 refine kK hK1 [1, 6, 7] ?_
 refine JH ?_
 refine JL (fun m s => (m = 6 ∧ s = S 42 [(1, .ptr 1 0 0), (6, .ag [.d (iv i.s0), .d (iv i.s1), .d (iv i.s2), .d (iv i.s3), .d (iv i.s4), .d (iv i.s5)]), (7, .d (iv 0))] [(1, (⟨True, 113, 12, true, false, 1, [[.d (iv i.no), .d (iv i.cur), .d (iv i.mult), .d (iv i.add), .d (iv i.set), .d (iv i.price), .d (iv i.s0), .d (iv i.s1), .d (iv i.s2), .d (iv i.s3), .d (iv i.s4), .d (iv i.s5)]]⟩ : ARow))]) ∨ (m = 5 ∧ shOk i.s0 = true ∧ s = S 42 [(1, .ptr 1 0 0), (6, .ag [.d (iv i.s0), .d (iv i.s1), .d (iv i.s2), .d (iv i.s3), .d (iv i.s4), .d (iv i.s5)]), (7, .d (iv 1))] [(1, (⟨True, 113, 12, true, false, 1, [[.d (iv i.no), .d (iv i.cur), .d (iv i.mult), .d (iv i.add), .d (iv i.set), .d (iv i.price), .d (iv i.s0), .d (iv i.s1), .d (iv i.s2), .d (iv i.s3), .d (iv i.s4), .d (iv i.s5)]]⟩ : ARow))]) ∨ (m = 4 ∧ shOk i.s0 = true ∧ shOk i.s1 = true ∧ s = S 42 [(1, .ptr 1 0 0), (6, .ag [.d (iv i.s0), .d (iv i.s1), .d (iv i.s2), .d (iv i.s3), .d (iv i.s4), .d (iv i.s5)]), (7, .d (iv 2))] [(1, (⟨True, 113, 12, true, false, 1, [[.d (iv i.no), .d (iv i.cur), .d (iv i.mult), .d (iv i.add), .d (iv i.set), .d (iv i.price), .d (iv i.s0), .d (iv i.s1), .d (iv i.s2), .d (iv i.s3), .d (iv i.s4), .d (iv i.s5)]]⟩ : ARow))]) ∨ (m = 3 ∧ shOk i.s0 = true ∧ shOk i.s1 = true ∧ shOk i.s2 = true ∧ s = S 42 [(1, .ptr 1 0 0), (6, .ag [.d (iv i.s0), .d (iv i.s1), .d (iv i.s2), .d (iv i.s3), .d (iv i.s4), .d (iv i.s5)]), (7, .d (iv 3))] [(1, (⟨True, 113, 12, true, false, 1, [[.d (iv i.no), .d (iv i.cur), .d (iv i.mult), .d (iv i.add), .d (iv i.set), .d (iv i.price), .d (iv i.s0), .d (iv i.s1), .d (iv i.s2), .d (iv i.s3), .d (iv i.s4), .d (iv i.s5)]]⟩ : ARow))]) ∨ (m = 2 ∧ shOk i.s0 = true ∧ shOk i.s1 = true ∧ shOk i.s2 = true ∧ shOk i.s3 = true ∧ s = S 42 [(1, .ptr 1 0 0), (6, .ag [.d (iv i.s0), .d (iv i.s1), .d (iv i.s2), .d (iv i.s3), .d (iv i.s4), .d (iv i.s5)]), (7, .d (iv 4))] [(1, (⟨True, 113, 12, true, false, 1, [[.d (iv i.no), .d (iv i.cur), .d (iv i.mult), .d (iv i.add), .d (iv i.set), .d (iv i.price), .d (iv i.s0), .d (iv i.s1), .d (iv i.s2), .d (iv i.s3), .d (iv i.s4), .d (iv i.s5)]]⟩ : ARow))]) ∨ (m = 1 ∧ shOk i.s0 = true ∧ shOk i.s1 = true ∧ shOk i.s2 = true ∧ shOk i.s3 = true ∧ shOk i.s4 = true ∧ s = S 42 [(1, .ptr 1 0 0), (6, .ag [.d (iv i.s0), .d (iv i.s1), .d (iv i.s2), .d (iv i.s3), .d (iv i.s4), .d (iv i.s5)]), (7, .d (iv 5))] [(1, (⟨True, 113, 12, true, false, 1, [[.d (iv i.no), .d (iv i.cur), .d (iv i.mult), .d (iv i.add), .d (iv i.set), .d (iv i.price), .d (iv i.s0), .d (iv i.s1), .d (iv i.s2), .d (iv i.s3), .d (iv i.s4), .d (iv i.s5)]]⟩ : ARow))]) ∨ (m = 0 ∧ shOk i.s0 = true ∧ shOk i.s1 = true ∧ shOk i.s2 = true ∧ shOk i.s3 = true ∧ shOk i.s4 = true ∧ shOk i.s5 = true ∧ s = S 42 [(1, .ptr 1 0 0), (6, .ag [.d (iv i.s0), .d (iv i.s1), .d (iv i.s2), .d (iv i.s3), .d (iv i.s4), .d (iv i.s5)]), (7, .d (iv 6))] [(1, (⟨True, 113, 12, true, false, 1, [[.d (iv i.no), .d (iv i.cur), .d (iv i.mult), .d (iv i.add), .d (iv i.set), .d (iv i.price), .d (iv i.s0), .d (iv i.s1), .d (iv i.s2), .d (iv i.s3), .d (iv i.s4), .d (iv i.s5)]]⟩ : ARow))])) 6 _ (leK id [] (hr := by exact ⟨fun _ => ⟨_, rfl, ⟨id, rfl, rfl, fun _ => rfl, id, .inl, VLess.refl _⟩⟩, (by simp), trivial⟩)) (.inl (⟨rfl, rfl⟩)) ?_
 rintro m s (⟨rfl, rfl⟩ | ⟨rfl, h0, rfl⟩ | ⟨rfl, h0, h1, rfl⟩ | ⟨rfl, h0, h1, h2, rfl⟩ | ⟨rfl, h0, h1, h2, h3, rfl⟩ | ⟨rfl, h0, h1, h2, h3, h4, rfl⟩ | ⟨rfl, h0, h1, h2, h3, h4, h5, rfl⟩)
 ·skip
  refine pq fun K2 hK2 => ?_
  simp only [zzK, QR, QP, QQ, zz21, JM, zz22, zz6, QO, ↓Qb]
  refine kK hK2 [1, 6, 7, 8] ?_
  refine JA fun K2 hK2 => ?_
  refine cnA ?_ ?_
  ·intro hb
   clear hb
   refine JI ?_
   simp only [zz6, QO, ↓Qb]
   refine kK hK2 [1, 6, 7] ?_
   refine JA fun K2 hK2 => ?_
   refine JH ?_
   refine pq fun K3 hK3 => ?_
   simp only [zzK, QR, QP, QQ, evS_index, evIv_int, ixB_some, ixV_ag, ixV_agg, F_arr111, F_ok3, F_ag3, F_sz3, zzG, zzD, QS, QN, zzH, JB, Int.reduceToNat, Int.reduceLT, Int.reduceLE, cast6, zz6, QO, ↓Qb]
   refine kK hK3 [1, 4, 6, 7] ?_
   refine pq fun K3 hK3 => ?_
   simp only [zzK, QR, QP, QQ, JC, JE, JF, zz29, JM, zz30, zz6, QO, ↓Qb]
   refine cgA F_go97 (fun hG => inR_ i.s0 (-1073741824) 1073741824) ?_
   simp only [zzK, QR, QP, QQ, JC, JE, JF, zz29, JM, zz30, zz6, QO, ↓Qb, atsL, oksG, JV, QZ, Qa, JO, Qm, QT, QS, zz9, QB, QA, zzC, yyF, zzD, zz2]
   refine kK hK3 [1, 6, 7, 12] ?_
   refine cnA ?_ ?_
   ·intro hb
    simp only [Bool.not_eq_true'] at hb
    refine pq fun K4 hK4 => ?_
    simp only [zzK, QR, QP, QQ, JB, zz6, QO, ↓Qb]
    refine kK hK4 [2] ?_
    refine JJ ?_
    simp only [zz6, QO, ↓Qb]
    refine dnA ?_
    simp only [QD, QE, resA, JZ, QR, QP, JD, QQ, Qd, Qc, JP]
    have e : instOk i = false := by simp [instOk, shOk, hb]
    rw [e]
   ·intro hb
    simp only [Bool.not_eq_false'] at hb
    refine JI ?_
    simp only [zz6, QO, ↓Qb]
    refine kK hK2 [1, 6, 7] ?_
    refine pz ?_
    simp only [zzK, QR, QP, QQ, zz21, JM, zz26, JC, zz6, QO, ↓Qb]
    refine ⟨5, _, by decide, leK id [] (hr := by exact ⟨fun _ => ⟨_, rfl, ⟨id, rfl, rfl, fun _ => rfl, id, .inl, VLess.refl _⟩⟩, (by simp), trivial⟩), .inr (.inl (⟨rfl, hb, rfl⟩))⟩
  ·intro hb
   simp at hb
 ·skip
  refine pq fun K2 hK2 => ?_
  simp only [zzK, QR, QP, QQ, zz21, JM, zz22, zz6, QO, ↓Qb]
  refine kK hK2 [1, 6, 7, 8] ?_
  refine JA fun K2 hK2 => ?_
  refine cnA ?_ ?_
  ·intro hb
   clear hb
   refine JI ?_
   simp only [zz6, QO, ↓Qb]
   refine kK hK2 [1, 6, 7] ?_
   refine JA fun K2 hK2 => ?_
   refine JH ?_
   refine pq fun K3 hK3 => ?_
   simp only [zzK, QR, QP, QQ, evS_index, evIv_int, ixB_some, ixV_ag, ixV_agg, F_arr111, F_ok3, F_ag3, F_sz3, zzG, zzD, QS, QN, zzH, JB, Int.reduceToNat, Int.reduceLT, Int.reduceLE, cast6, zz6, QO, ↓Qb]
   refine kK hK3 [1, 4, 6, 7] ?_
   refine pq fun K3 hK3 => ?_
   simp only [zzK, QR, QP, QQ, JC, JE, JF, zz29, JM, zz30, zz6, QO, ↓Qb]
   refine cgA F_go97 (fun hG => inR_ i.s1 (-1073741824) 1073741824) ?_
   simp only [zzK, QR, QP, QQ, JC, JE, JF, zz29, JM, zz30, zz6, QO, ↓Qb, atsL, oksG, JV, QZ, Qa, JO, Qm, QT, QS, zz9, QB, QA, zzC, yyF, zzD, zz2]
   refine kK hK3 [1, 6, 7, 12] ?_
   refine cnA ?_ ?_
   ·intro hb
    simp only [Bool.not_eq_true'] at hb
    refine pq fun K4 hK4 => ?_
    simp only [zzK, QR, QP, QQ, JB, zz6, QO, ↓Qb]
    refine kK hK4 [2] ?_
    refine JJ ?_
    simp only [zz6, QO, ↓Qb]
    refine dnA ?_
    simp only [QD, QE, resA, JZ, QR, QP, JD, QQ, Qd, Qc, JP]
    have e : instOk i = false := by simp [instOk, shOk, hb]
    rw [e]
   ·intro hb
    simp only [Bool.not_eq_false'] at hb
    refine JI ?_
    simp only [zz6, QO, ↓Qb]
    refine kK hK2 [1, 6, 7] ?_
    refine pz ?_
    simp only [zzK, QR, QP, QQ, zz21, JM, zz26, JC, zz6, QO, ↓Qb]
    refine ⟨4, _, by decide, leK id [] (hr := by exact ⟨fun _ => ⟨_, rfl, ⟨id, rfl, rfl, fun _ => rfl, id, .inl, VLess.refl _⟩⟩, (by simp), trivial⟩), .inr (.inr (.inl (⟨rfl, h0, hb, rfl⟩)))⟩
  ·intro hb
   simp at hb
 ·skip
  refine pq fun K2 hK2 => ?_
  simp only [zzK, QR, QP, QQ, zz21, JM, zz22, zz6, QO, ↓Qb]
  refine kK hK2 [1, 6, 7, 8] ?_
  refine JA fun K2 hK2 => ?_
  refine cnA ?_ ?_
  ·intro hb
   clear hb
   refine JI ?_
   simp only [zz6, QO, ↓Qb]
   refine kK hK2 [1, 6, 7] ?_
   refine JA fun K2 hK2 => ?_
   refine JH ?_
   refine pq fun K3 hK3 => ?_
   simp only [zzK, QR, QP, QQ, evS_index, evIv_int, ixB_some, ixV_ag, ixV_agg, F_arr111, F_ok3, F_ag3, F_sz3, zzG, zzD, QS, QN, zzH, JB, Int.reduceToNat, Int.reduceLT, Int.reduceLE, cast6, zz6, QO, ↓Qb]
   refine kK hK3 [1, 4, 6, 7] ?_
   refine pq fun K3 hK3 => ?_
   simp only [zzK, QR, QP, QQ, JC, JE, JF, zz29, JM, zz30, zz6, QO, ↓Qb]
   refine cgA F_go97 (fun hG => inR_ i.s2 (-1073741824) 1073741824) ?_
   simp only [zzK, QR, QP, QQ, JC, JE, JF, zz29, JM, zz30, zz6, QO, ↓Qb, atsL, oksG, JV, QZ, Qa, JO, Qm, QT, QS, zz9, QB, QA, zzC, yyF, zzD, zz2]
   refine kK hK3 [1, 6, 7, 12] ?_
   refine cnA ?_ ?_
   ·intro hb
    simp only [Bool.not_eq_true'] at hb
    refine pq fun K4 hK4 => ?_
    simp only [zzK, QR, QP, QQ, JB, zz6, QO, ↓Qb]
    refine kK hK4 [2] ?_
    refine JJ ?_
    simp only [zz6, QO, ↓Qb]
    refine dnA ?_
    simp only [QD, QE, resA, JZ, QR, QP, JD, QQ, Qd, Qc, JP]
    have e : instOk i = false := by simp [instOk, shOk, hb]
    rw [e]
   ·intro hb
    simp only [Bool.not_eq_false'] at hb
    refine JI ?_
    simp only [zz6, QO, ↓Qb]
    refine kK hK2 [1, 6, 7] ?_
    refine pz ?_
    simp only [zzK, QR, QP, QQ, zz21, JM, zz26, JC, zz6, QO, ↓Qb]
    refine ⟨3, _, by decide, leK id [] (hr := by exact ⟨fun _ => ⟨_, rfl, ⟨id, rfl, rfl, fun _ => rfl, id, .inl, VLess.refl _⟩⟩, (by simp), trivial⟩), .inr (.inr (.inr (.inl (⟨rfl, h0, h1, hb, rfl⟩))))⟩
  ·intro hb
   simp at hb
 ·skip
  refine pq fun K2 hK2 => ?_
  simp only [zzK, QR, QP, QQ, zz21, JM, zz22, zz6, QO, ↓Qb]
  refine kK hK2 [1, 6, 7, 8] ?_
  refine JA fun K2 hK2 => ?_
  refine cnA ?_ ?_
  ·intro hb
   clear hb
   refine JI ?_
   simp only [zz6, QO, ↓Qb]
   refine kK hK2 [1, 6, 7] ?_
   refine JA fun K2 hK2 => ?_
   refine JH ?_
   refine pq fun K3 hK3 => ?_
   simp only [zzK, QR, QP, QQ, evS_index, evIv_int, ixB_some, ixV_ag, ixV_agg, F_arr111, F_ok3, F_ag3, F_sz3, zzG, zzD, QS, QN, zzH, JB, Int.reduceToNat, Int.reduceLT, Int.reduceLE, cast6, zz6, QO, ↓Qb]
   refine kK hK3 [1, 4, 6, 7] ?_
   refine pq fun K3 hK3 => ?_
   simp only [zzK, QR, QP, QQ, JC, JE, JF, zz29, JM, zz30, zz6, QO, ↓Qb]
   refine cgA F_go97 (fun hG => inR_ i.s3 (-1073741824) 1073741824) ?_
   simp only [zzK, QR, QP, QQ, JC, JE, JF, zz29, JM, zz30, zz6, QO, ↓Qb, atsL, oksG, JV, QZ, Qa, JO, Qm, QT, QS, zz9, QB, QA, zzC, yyF, zzD, zz2]
   refine kK hK3 [1, 6, 7, 12] ?_
   refine cnA ?_ ?_
   ·intro hb
    simp only [Bool.not_eq_true'] at hb
    refine pq fun K4 hK4 => ?_
    simp only [zzK, QR, QP, QQ, JB, zz6, QO, ↓Qb]
    refine kK hK4 [2] ?_
    refine JJ ?_
    simp only [zz6, QO, ↓Qb]
    refine dnA ?_
    simp only [QD, QE, resA, JZ, QR, QP, JD, QQ, Qd, Qc, JP]
    have e : instOk i = false := by simp [instOk, shOk, hb]
    rw [e]
   ·intro hb
    simp only [Bool.not_eq_false'] at hb
    refine JI ?_
    simp only [zz6, QO, ↓Qb]
    refine kK hK2 [1, 6, 7] ?_
    refine pz ?_
    simp only [zzK, QR, QP, QQ, zz21, JM, zz26, JC, zz6, QO, ↓Qb]
    refine ⟨2, _, by decide, leK id [] (hr := by exact ⟨fun _ => ⟨_, rfl, ⟨id, rfl, rfl, fun _ => rfl, id, .inl, VLess.refl _⟩⟩, (by simp), trivial⟩), .inr (.inr (.inr (.inr (.inl (⟨rfl, h0, h1, h2, hb, rfl⟩)))))⟩
  ·intro hb
   simp at hb
 ·skip
  refine pq fun K2 hK2 => ?_
  simp only [zzK, QR, QP, QQ, zz21, JM, zz22, zz6, QO, ↓Qb]
  refine kK hK2 [1, 6, 7, 8] ?_
  refine JA fun K2 hK2 => ?_
  refine cnA ?_ ?_
  ·intro hb
   clear hb
   refine JI ?_
   simp only [zz6, QO, ↓Qb]
   refine kK hK2 [1, 6, 7] ?_
   refine JA fun K2 hK2 => ?_
   refine JH ?_
   refine pq fun K3 hK3 => ?_
   simp only [zzK, QR, QP, QQ, evS_index, evIv_int, ixB_some, ixV_ag, ixV_agg, F_arr111, F_ok3, F_ag3, F_sz3, zzG, zzD, QS, QN, zzH, JB, Int.reduceToNat, Int.reduceLT, Int.reduceLE, cast6, zz6, QO, ↓Qb]
   refine kK hK3 [1, 4, 6, 7] ?_
   refine pq fun K3 hK3 => ?_
   simp only [zzK, QR, QP, QQ, JC, JE, JF, zz29, JM, zz30, zz6, QO, ↓Qb]
   refine cgA F_go97 (fun hG => inR_ i.s4 (-1073741824) 1073741824) ?_
   simp only [zzK, QR, QP, QQ, JC, JE, JF, zz29, JM, zz30, zz6, QO, ↓Qb, atsL, oksG, JV, QZ, Qa, JO, Qm, QT, QS, zz9, QB, QA, zzC, yyF, zzD, zz2]
   refine kK hK3 [1, 6, 7, 12] ?_
   refine cnA ?_ ?_
   ·intro hb
    simp only [Bool.not_eq_true'] at hb
    refine pq fun K4 hK4 => ?_
    simp only [zzK, QR, QP, QQ, JB, zz6, QO, ↓Qb]
    refine kK hK4 [2] ?_
    refine JJ ?_
    simp only [zz6, QO, ↓Qb]
    refine dnA ?_
    simp only [QD, QE, resA, JZ, QR, QP, JD, QQ, Qd, Qc, JP]
    have e : instOk i = false := by simp [instOk, shOk, hb]
    rw [e]
   ·intro hb
    simp only [Bool.not_eq_false'] at hb
    refine JI ?_
    simp only [zz6, QO, ↓Qb]
    refine kK hK2 [1, 6, 7] ?_
    refine pz ?_
    simp only [zzK, QR, QP, QQ, zz21, JM, zz26, JC, zz6, QO, ↓Qb]
    refine ⟨1, _, by decide, leK id [] (hr := by exact ⟨fun _ => ⟨_, rfl, ⟨id, rfl, rfl, fun _ => rfl, id, .inl, VLess.refl _⟩⟩, (by simp), trivial⟩), .inr (.inr (.inr (.inr (.inr (.inl (⟨rfl, h0, h1, h2, h3, hb, rfl⟩))))))⟩
  ·intro hb
   simp at hb
 ·skip
  refine pq fun K2 hK2 => ?_
  simp only [zzK, QR, QP, QQ, zz21, JM, zz22, zz6, QO, ↓Qb]
  refine kK hK2 [1, 6, 7, 8] ?_
  refine JA fun K2 hK2 => ?_
  refine cnA ?_ ?_
  ·intro hb
   clear hb
   refine JI ?_
   simp only [zz6, QO, ↓Qb]
   refine kK hK2 [1, 6, 7] ?_
   refine JA fun K2 hK2 => ?_
   refine JH ?_
   refine pq fun K3 hK3 => ?_
   simp only [zzK, QR, QP, QQ, evS_index, evIv_int, ixB_some, ixV_ag, ixV_agg, F_arr111, F_ok3, F_ag3, F_sz3, zzG, zzD, QS, QN, zzH, JB, Int.reduceToNat, Int.reduceLT, Int.reduceLE, cast6, zz6, QO, ↓Qb]
   refine kK hK3 [1, 4, 6, 7] ?_
   refine pq fun K3 hK3 => ?_
   simp only [zzK, QR, QP, QQ, JC, JE, JF, zz29, JM, zz30, zz6, QO, ↓Qb]
   refine cgA F_go97 (fun hG => inR_ i.s5 (-1073741824) 1073741824) ?_
   simp only [zzK, QR, QP, QQ, JC, JE, JF, zz29, JM, zz30, zz6, QO, ↓Qb, atsL, oksG, JV, QZ, Qa, JO, Qm, QT, QS, zz9, QB, QA, zzC, yyF, zzD, zz2]
   refine kK hK3 [1, 6, 7, 12] ?_
   refine cnA ?_ ?_
   ·intro hb
    simp only [Bool.not_eq_true'] at hb
    refine pq fun K4 hK4 => ?_
    simp only [zzK, QR, QP, QQ, JB, zz6, QO, ↓Qb]
    refine kK hK4 [2] ?_
    refine JJ ?_
    simp only [zz6, QO, ↓Qb]
    refine dnA ?_
    simp only [QD, QE, resA, JZ, QR, QP, JD, QQ, Qd, Qc, JP]
    have e : instOk i = false := by simp [instOk, shOk, hb]
    rw [e]
   ·intro hb
    simp only [Bool.not_eq_false'] at hb
    refine JI ?_
    simp only [zz6, QO, ↓Qb]
    refine kK hK2 [1, 6, 7] ?_
    refine pz ?_
    simp only [zzK, QR, QP, QQ, zz21, JM, zz26, JC, zz6, QO, ↓Qb]
    refine ⟨0, _, by decide, leK id [] (hr := by exact ⟨fun _ => ⟨_, rfl, ⟨id, rfl, rfl, fun _ => rfl, id, .inl, VLess.refl _⟩⟩, (by simp), trivial⟩), .inr (.inr (.inr (.inr (.inr (.inr (⟨rfl, h0, h1, h2, h3, h4, hb, rfl⟩))))))⟩
  ·intro hb
   simp at hb
 ·skip
  refine pq fun K2 hK2 => ?_
  simp only [zzK, QR, QP, QQ, zz21, JM, zz22, zz6, QO, ↓Qb]
  refine kK hK2 [1, 6, 7, 8] ?_
  refine JA fun K2 hK2 => ?_
  refine cnA ?_ ?_
  ·intro hb
   simp at hb
  ·intro hb
   clear hb
   refine JK ?_
   simp only [zz6, QO, ↓Qb]
   refine kK hK0 [1] ?_
   refine JA fun K0 hK0 => ?_
   refine Qz F_mixed [some 14, some 15, some 16, some 17, some 18, some 19, some 20, some 21, some 22, some 23, some 24, some 25, some 26, some 27, some 28, some 29, some 30, some 31, some 32, some 33, some 34, some 35, some 36, some 37, some 38, some 39, some 40, some 41, some 2] rfl ?_
   simp only [zzK, QR, QP, QQ, QU, JZ, zz5, Qj, Qi, Qh, zz19, zz23, F_off113_0, zzH, QN, QS, F_ok3, F_ag3, F_sz3, zz8, zzD, zzC, QA, yyE, Qe, JE, JF, JC, F_off113_1, zz13, JQ, JR, F_off113_2, F_off113_3, F_off113_4, F_off113_5, JB, zz6, QO, ↓Qb]
   refine cgA F_go97 (fun hG => inR_ i.no 1 8) ?_
   simp only [zzK, QR, QP, QQ, QU, JZ, zz5, Qj, Qi, Qh, zz19, zz23, F_off113_0, zzH, QN, QS, F_ok3, F_ag3, F_sz3, zz8, zzD, zzC, QA, yyE, Qe, JE, JF, JC, F_off113_1, zz13, JQ, JR, F_off113_2, F_off113_3, F_off113_4, F_off113_5, JB, zz6, QO, ↓Qb, atsL, oksG, JV, QZ, Qa, JO, Qm, QT, QS, zz9, QB, QA, S_mem, yyF, QF, zz2]
   refine cgA F_go97 (fun hG => inR_ i.cur 0 2) ?_
   simp only [zzK, QR, QP, QQ, QU, JZ, zz5, Qj, Qi, Qh, zz19, zz23, F_off113_0, zzH, QN, QS, F_ok3, F_ag3, F_sz3, zz8, zzD, zzC, QA, yyE, Qe, JE, JF, JC, F_off113_1, zz13, JQ, JR, F_off113_2, F_off113_3, F_off113_4, F_off113_5, JB, zz6, QO, ↓Qb, atsL, oksG, JV, QZ, Qa, JO, Qm, QT, QS, zz9, QB, QA, S_mem, yyF, QF, zz2]
   refine cgA F_go97 (fun hG => inR_ i.mult 1 1024) ?_
   simp only [zzK, QR, QP, QQ, QU, JZ, zz5, Qj, Qi, Qh, zz19, zz23, F_off113_0, zzH, QN, QS, F_ok3, F_ag3, F_sz3, zz8, zzD, zzC, QA, yyE, Qe, JE, JF, JC, F_off113_1, zz13, JQ, JR, F_off113_2, F_off113_3, F_off113_4, F_off113_5, JB, zz6, QO, ↓Qb, atsL, oksG, JV, QZ, Qa, JO, Qm, QT, QS, zz9, QB, QA, S_mem, yyF, QF, zz2]
   refine cgA F_go97 (fun hG => inR_ i.add 0 1073741824) ?_
   simp only [zzK, QR, QP, QQ, QU, JZ, zz5, Qj, Qi, Qh, zz19, zz23, F_off113_0, zzH, QN, QS, F_ok3, F_ag3, F_sz3, zz8, zzD, zzC, QA, yyE, Qe, JE, JF, JC, F_off113_1, zz13, JQ, JR, F_off113_2, F_off113_3, F_off113_4, F_off113_5, JB, zz6, QO, ↓Qb, atsL, oksG, JV, QZ, Qa, JO, Qm, QT, QS, zz9, QB, QA, S_mem, yyF, QF, zz2]
   refine cgA F_go97 (fun hG => inR_ i.set 0 1073741824) ?_
   simp only [zzK, QR, QP, QQ, QU, JZ, zz5, Qj, Qi, Qh, zz19, zz23, F_off113_0, zzH, QN, QS, F_ok3, F_ag3, F_sz3, zz8, zzD, zzC, QA, yyE, Qe, JE, JF, JC, F_off113_1, zz13, JQ, JR, F_off113_2, F_off113_3, F_off113_4, F_off113_5, JB, zz6, QO, ↓Qb, atsL, oksG, JV, QZ, Qa, JO, Qm, QT, QS, zz9, QB, QA, S_mem, yyF, QF, zz2]
   refine cgA F_go97 (fun hG => inR_ i.price 0 1073741824) ?_
   simp only [zzK, QR, QP, QQ, QU, JZ, zz5, Qj, Qi, Qh, zz19, zz23, F_off113_0, zzH, QN, QS, F_ok3, F_ag3, F_sz3, zz8, zzD, zzC, QA, yyE, Qe, JE, JF, JC, F_off113_1, zz13, JQ, JR, F_off113_2, F_off113_3, F_off113_4, F_off113_5, JB, zz6, QO, ↓Qb, atsL, oksG, JV, QZ, Qa, JO, Qm, QT, QS, zz9, QB, QA, S_mem, yyF, QF, zz2]
   refine kK hK0 [2] ?_
   refine JJ ?_
   simp only [zz6, QO, ↓Qb]
   refine dnA ?_
   simp only [QD, QE, resA, JZ, QR, QP, JD, QQ, Qd, Qc, JP]
   simp only [instOk, h0, h1, h2, h3, h4, h5, Bool.true_and]
theorem risesI_ (l : List InstV) (hl : l.length < 4611686018427387904) : ACalls Tryz.prog 73 [instsD l, fnD 74, fnD 75] [] (bv (chk instOk InstV.no none l)) := by
 refine acalls_S (rs := [.tmp 6]) Tryz.func73 rfl rfl 38 [(0, .d (instsD l)), (1, .d (fnD 74)), (2, .d (fnD 75))] rfl (by simp) rfl ?_
 refine pq fun K0 hK0 => ?_
 simp only [zzK, QR, QP, QQ, JB, zz6, QO, ↓Qb]
 refine kK hK0 [0, 1, 2] ?_
 refine JA fun K0 hK0 => ?_
 refine pq fun K1 hK1 => ?_
 simp only [zzK, QR, QP, QQ, JC, JE, zz12, F_sl26, Option.isSome_some, instsD, JN, zz6, QO, ↓Qb]
 refine kK hK1 [0, 1, 2, 9, 10, 11] ?_
 refine JH ?_
 refine JL (fun m s => ∃ pre post : List InstV, l = pre ++ post ∧ chk instOk InstV.no none l = chk instOk InstV.no pre.getLast? post ∧ m = post.length ∧ s = S 38 [(0, .d (instsD l)), (1, .d (fnD 74)), (2, .d (fnD 75)), (9, .d (instsD l)), (10, .d (iv l.length)), (11, .d (iv pre.length))] []) l.length _ (le_S0 (l' := [(0, .d (instsD l)), (1, .d (fnD 74)), (2, .d (fnD 75)), (9, .d (instsD l)), (10, .d (iv l.length)), (11, .d (iv ([] : List InstV).length))]) ?_ ?_) ⟨[], l, rfl, rfl, rfl, rfl⟩ ?_
 ·simp only [leL, JD, QQ, Qd, Qc, instsD, JN, List.length_nil]; trivial
 ·simp [wfV, QY]
 rintro m s ⟨pre, post, rfl, hck, rfl, rfl⟩
 refine pq fun K2 hK2 => ?_
 simp only [zzK, QR, QP, QQ, zz21, JM, zz22, zz6, QO, ↓Qb]
 refine kK hK2 [0, 1, 2, 9, 10, 11, 12] ?_
 refine JA fun K2 hK2 => ?_
 refine cnA ?_ ?_
 ·intro hb
  obtain ⟨x, post, rfl⟩ := more_of hb; clear hb
  have hp : pre.length < 4611686018427387904 := by simp at hl; omega
  have hpg := prev_get instC pre post x [] hp
  refine JI ?_
  simp only [zz6, QO, ↓Qb]
  refine kK hK2 [0, 1, 2, 9, 10, 11] ?_
  refine JA fun K2 hK2 => ?_
  refine JH ?_
  refine pq fun K3 hK3 => ?_
  simp only [zzK, QR, QP, QQ, JC, JW, zz23, zz24, F_sl26, F_sz113, QA, zzC, yyE, Qe, F_ok113, F_ag113, zz8, zzD, QS, QN, zzH, zz32, JS, F_zero113, zz10, JB, zz18, splice, QG, zz1, zzG, instsD, instC, getD_mid, JN, lt_mid, ge_mid, zz6, QO, ↓Qb]
  refine kK hK3 [0, 1, 2, 7, 8, 9, 10, 11] ?_
  refine JA fun K3 hK3 => ?_
  refine awp_draw F_mixed [some 16, some 17, some 18, some 19, some 20, some 21, some 22, some 23, some 24, some 25, some 26, some 27, some 28, some 29, some 30, some 31, some 32, some 33, some 34, some 35, some 36] rfl (by kernel_rfl) ?_
  simp only [zzK, QR, QP, QQ, QU, JZ, zz5, Qj, Qi, Qh, JC, F_ok113, F_ag113, F_sz113, zz8, zz23, zzD, QS, QN, zzH, zzC, QA, yyE, Qe, JE, JF, zz29, JM, zz30, zz21, zz25, zz33, JW, zz24, F_sl26, zz31, zz13, JQ, JR, fnD, instsD, instC, JN, hpg, QW, zz6, QO, ↓Qb]
  refine call_goT ?_ ?_ F_go75 (fun hG => instOk_ x) (by simp [QY, QX]) (by simp) ?_
  ·decide
  ·simp only [JD, QQ, Qd, Qc, bare_d, bare_wh, fnD]
  simp only [zzK, QR, QP, QQ, QU, JZ, zz5, Qj, Qi, Qh, JC, F_ok113, F_ag113, F_sz113, zz8, zz23, zzD, QS, QN, zzH, zzC, QA, yyE, Qe, JE, JF, zz29, JM, zz30, zz21, zz25, zz33, JW, zz24, F_sl26, zz31, zz13, JQ, JR, fnD, instsD, instC, JN, hpg, QW, zz6, QO, ↓Qb, QU, JZ, Gp_some, Qj, Qi, Qh, atsL, oksG, JV, QZ, Qa, JO, Qm, QT, QS, zz9, QB, QA, S_mem, yyF, QF, zz2]
  refine ⟨⟨fun _ hp2 => prev_ok pre hp hp2, fun _ _ => prev_lt pre post x hp⟩, ?_⟩
  refine call_goT ?_ ?_ F_go74 (fun hG => noInst_ (lastOr x pre)) (by simp [QY, QX]) (by simp) ?_
  ·decide
  ·simp only [JD, QQ, Qd, Qc, bare_d, bare_wh, fnD]
  simp only [zzK, QR, QP, QQ, QU, JZ, zz5, Qj, Qi, Qh, JC, F_ok113, F_ag113, F_sz113, zz8, zz23, zzD, QS, QN, zzH, zzC, QA, yyE, Qe, JE, JF, zz29, JM, zz30, zz21, zz25, zz33, JW, zz24, F_sl26, zz31, zz13, JQ, JR, fnD, instsD, instC, JN, hpg, QW, zz6, QO, ↓Qb, QU, JZ, Gp_some, Qj, Qi, Qh, atsL, oksG, JV, QZ, Qa, JO, Qm, QT, QS, zz9, QB, QA, S_mem, yyF, QF, zz2]
  refine call_goT ?_ ?_ F_go74 (fun hG => noInst_ x) (by simp [QY, QX]) (by simp) ?_
  ·decide
  ·simp only [JD, QQ, Qd, Qc, bare_d, bare_wh, fnD]
  simp only [zzK, QR, QP, QQ, QU, JZ, zz5, Qj, Qi, Qh, JC, F_ok113, F_ag113, F_sz113, zz8, zz23, zzD, QS, QN, zzH, zzC, QA, yyE, Qe, JE, JF, zz29, JM, zz30, zz21, zz25, zz33, JW, zz24, F_sl26, zz31, zz13, JQ, JR, fnD, instsD, instC, JN, hpg, QW, zz6, QO, ↓Qb, QU, JZ, Gp_some, Qj, Qi, Qh, atsL, oksG, JV, QZ, Qa, JO, Qm, QT, QS, zz9, QB, QA, S_mem, yyF, QF, zz2]
  refine kK hK3 [0, 1, 2, 9, 10, 11, 36] ?_
  refine cnA ?_ ?_
  ·intro hb
   refine pq fun K4 hK4 => ?_
   simp only [zzK, QR, QP, QQ, JB, zz6, QO, ↓Qb]
   refine kK hK4 [6] ?_
   refine JJ ?_
   simp only [zz6, QO, ↓Qb]
   refine dnA ?_
   simp only [QD, QE, resA, JZ, QR, QP, JD, QQ, Qd, Qc, JP]
   rw [hck, chk_step, hb]; simp
  ·intro hb
   refine JI ?_
   simp only [zz6, QO, ↓Qb]
   refine kK hK2 [0, 1, 2, 9, 10, 11] ?_
   refine pz ?_
   simp only [zzK, QR, QP, QQ, zz21, JM, zz26, JC, zz6, QO, ↓Qb]
   refine ⟨post.length, _, by simp, le_S0 (l' := [(0, .d (instsD (pre ++ x :: post))), (1, .d (fnD 74)), (2, .d (fnD 75)), (9, .d (instsD (pre ++ x :: post))), (10, .d (iv (pre ++ x :: post).length)), (11, .d (iv (pre ++ [x]).length))]) ?_ ?_, pre ++ [x], post, by simp, by rw [hck, chk_step, hb]; simp, rfl, rfl⟩
   ·simp only [leL, JD, QQ, Qd, Qc, wrap_len pre x (by simp at hl; omega), instsD, fnD]; trivial
   ·simp [wfV, QY]
 ·intro hb
  obtain rfl := none_of hb; clear hb
  refine JK ?_
  simp only [zz6, QO, ↓Qb]
  refine kK hK0 [] ?_
  refine pq fun K0 hK0 => ?_
  simp only [zzK, QR, QP, QQ, JB, zz6, QO, ↓Qb]
  refine kK hK0 [6] ?_
  refine JJ ?_
  simp only [zz6, QO, ↓Qb]
  refine dnA ?_
  simp only [QD, QE, resA, JZ, QR, QP, JD, QQ, Qd, Qc, JP]
  rw [hck]; rfl
theorem risesA_ (l : List AssetV) (hl : l.length < 4611686018427387904) : ACalls Tryz.prog 76 [assetsD l, fnD 77, fnD 78] [] (bv (chk assetOk AssetV.no none l)) := by
 refine acalls_S (rs := [.tmp 6]) Tryz.func76 rfl rfl 38 [(0, .d (assetsD l)), (1, .d (fnD 77)), (2, .d (fnD 78))] rfl (by simp) rfl ?_
 refine pq fun K0 hK0 => ?_
 simp only [zzK, QR, QP, QQ, JB, zz6, QO, ↓Qb]
 refine kK hK0 [0, 1, 2] ?_
 refine JA fun K0 hK0 => ?_
 refine pq fun K1 hK1 => ?_
 simp only [zzK, QR, QP, QQ, JC, JE, zz12, F_sl27, Option.isSome_some, assetsD, JN, zz6, QO, ↓Qb]
 refine kK hK1 [0, 1, 2, 9, 10, 11] ?_
 refine JH ?_
 refine JL (fun m s => ∃ pre post : List AssetV, l = pre ++ post ∧ chk assetOk AssetV.no none l = chk assetOk AssetV.no pre.getLast? post ∧ m = post.length ∧ s = S 38 [(0, .d (assetsD l)), (1, .d (fnD 77)), (2, .d (fnD 78)), (9, .d (assetsD l)), (10, .d (iv l.length)), (11, .d (iv pre.length))] []) l.length _ (le_S0 (l' := [(0, .d (assetsD l)), (1, .d (fnD 77)), (2, .d (fnD 78)), (9, .d (assetsD l)), (10, .d (iv l.length)), (11, .d (iv ([] : List AssetV).length))]) ?_ ?_) ⟨[], l, rfl, rfl, rfl, rfl⟩ ?_
 ·simp only [leL, JD, QQ, Qd, Qc, assetsD, JN, List.length_nil]; trivial
 ·simp [wfV, QY]
 rintro m s ⟨pre, post, rfl, hck, rfl, rfl⟩
 refine pq fun K2 hK2 => ?_
 simp only [zzK, QR, QP, QQ, zz21, JM, zz22, zz6, QO, ↓Qb]
 refine kK hK2 [0, 1, 2, 9, 10, 11, 12] ?_
 refine JA fun K2 hK2 => ?_
 refine cnA ?_ ?_
 ·intro hb
  obtain ⟨x, post, rfl⟩ := more_of hb; clear hb
  have hp : pre.length < 4611686018427387904 := by simp at hl; omega
  have hpg := prev_get assetC pre post x [] hp
  refine JI ?_
  simp only [zz6, QO, ↓Qb]
  refine kK hK2 [0, 1, 2, 9, 10, 11] ?_
  refine JA fun K2 hK2 => ?_
  refine JH ?_
  refine pq fun K3 hK3 => ?_
  simp only [zzK, QR, QP, QQ, JC, JW, zz23, zz24, F_sl27, F_sz118, QA, zzC, yyE, Qe, F_ok118, F_ag118, zz8, zzD, QS, QN, zzH, zz32, JS, F_zero118, zz10, JB, zz18, splice, QG, zz1, zzG, assetsD, assetC, getD_mid, JN, lt_mid, ge_mid, zz6, QO, ↓Qb]
  refine kK hK3 [0, 1, 2, 7, 8, 9, 10, 11] ?_
  refine JA fun K3 hK3 => ?_
  refine awp_draw F_mixed [some 16, some 17, some 18, some 19, some 20, some 21, some 22, some 23, some 24, some 25, some 26, some 27, some 28, some 29, some 30, some 31, some 32, some 33, some 34, some 35, some 36] rfl (by kernel_rfl) ?_
  simp only [zzK, QR, QP, QQ, QU, JZ, zz5, Qj, Qi, Qh, JC, F_ok118, F_ag118, F_sz118, zz8, zz23, zzD, QS, QN, zzH, zzC, QA, yyE, Qe, JE, JF, zz29, JM, zz30, zz21, zz25, zz33, JW, zz24, F_sl27, zz31, zz13, JQ, JR, fnD, assetsD, assetC, JN, hpg, QW, zz6, QO, ↓Qb]
  refine call_goT ?_ ?_ F_go78 (fun hG => assetOk_ x) (by simp [QY, QX]) (by simp) ?_
  ·decide
  ·simp only [JD, QQ, Qd, Qc, bare_d, bare_wh, fnD]
  simp only [zzK, QR, QP, QQ, QU, JZ, zz5, Qj, Qi, Qh, JC, F_ok118, F_ag118, F_sz118, zz8, zz23, zzD, QS, QN, zzH, zzC, QA, yyE, Qe, JE, JF, zz29, JM, zz30, zz21, zz25, zz33, JW, zz24, F_sl27, zz31, zz13, JQ, JR, fnD, assetsD, assetC, JN, hpg, QW, zz6, QO, ↓Qb, QU, JZ, Gp_some, Qj, Qi, Qh, atsL, oksG, JV, QZ, Qa, JO, Qm, QT, QS, zz9, QB, QA, S_mem, yyF, QF, zz2]
  refine ⟨⟨fun _ hp2 => prev_ok pre hp hp2, fun _ _ => prev_lt pre post x hp⟩, ?_⟩
  refine call_goT ?_ ?_ F_go77 (fun hG => noAsset_ (lastOr x pre)) (by simp [QY, QX]) (by simp) ?_
  ·decide
  ·simp only [JD, QQ, Qd, Qc, bare_d, bare_wh, fnD]
  simp only [zzK, QR, QP, QQ, QU, JZ, zz5, Qj, Qi, Qh, JC, F_ok118, F_ag118, F_sz118, zz8, zz23, zzD, QS, QN, zzH, zzC, QA, yyE, Qe, JE, JF, zz29, JM, zz30, zz21, zz25, zz33, JW, zz24, F_sl27, zz31, zz13, JQ, JR, fnD, assetsD, assetC, JN, hpg, QW, zz6, QO, ↓Qb, QU, JZ, Gp_some, Qj, Qi, Qh, atsL, oksG, JV, QZ, Qa, JO, Qm, QT, QS, zz9, QB, QA, S_mem, yyF, QF, zz2]
  refine call_goT ?_ ?_ F_go77 (fun hG => noAsset_ x) (by simp [QY, QX]) (by simp) ?_
  ·decide
  ·simp only [JD, QQ, Qd, Qc, bare_d, bare_wh, fnD]
  simp only [zzK, QR, QP, QQ, QU, JZ, zz5, Qj, Qi, Qh, JC, F_ok118, F_ag118, F_sz118, zz8, zz23, zzD, QS, QN, zzH, zzC, QA, yyE, Qe, JE, JF, zz29, JM, zz30, zz21, zz25, zz33, JW, zz24, F_sl27, zz31, zz13, JQ, JR, fnD, assetsD, assetC, JN, hpg, QW, zz6, QO, ↓Qb, QU, JZ, Gp_some, Qj, Qi, Qh, atsL, oksG, JV, QZ, Qa, JO, Qm, QT, QS, zz9, QB, QA, S_mem, yyF, QF, zz2]
  refine kK hK3 [0, 1, 2, 9, 10, 11, 36] ?_
  refine cnA ?_ ?_
  ·intro hb
   refine pq fun K4 hK4 => ?_
   simp only [zzK, QR, QP, QQ, JB, zz6, QO, ↓Qb]
   refine kK hK4 [6] ?_
   refine JJ ?_
   simp only [zz6, QO, ↓Qb]
   refine dnA ?_
   simp only [QD, QE, resA, JZ, QR, QP, JD, QQ, Qd, Qc, JP]
   rw [hck, chk_step, hb]; simp
  ·intro hb
   refine JI ?_
   simp only [zz6, QO, ↓Qb]
   refine kK hK2 [0, 1, 2, 9, 10, 11] ?_
   refine pz ?_
   simp only [zzK, QR, QP, QQ, zz21, JM, zz26, JC, zz6, QO, ↓Qb]
   refine ⟨post.length, _, by simp, le_S0 (l' := [(0, .d (assetsD (pre ++ x :: post))), (1, .d (fnD 77)), (2, .d (fnD 78)), (9, .d (assetsD (pre ++ x :: post))), (10, .d (iv (pre ++ x :: post).length)), (11, .d (iv (pre ++ [x]).length))]) ?_ ?_, pre ++ [x], post, by simp, by rw [hck, chk_step, hb]; simp, rfl, rfl⟩
   ·simp only [leL, JD, QQ, Qd, Qc, wrap_len pre x (by simp at hl; omega), assetsD, fnD]; trivial
   ·simp [wfV, QY]
 ·intro hb
  obtain rfl := none_of hb; clear hb
  refine JK ?_
  simp only [zz6, QO, ↓Qb]
  refine kK hK0 [] ?_
  refine pq fun K0 hK0 => ?_
  simp only [zzK, QR, QP, QQ, JB, zz6, QO, ↓Qb]
  refine kK hK0 [6] ?_
  refine JJ ?_
  simp only [zz6, QO, ↓Qb]
  refine dnA ?_
  simp only [QD, QE, resA, JZ, QR, QP, JD, QQ, Qd, Qc, JP]
  rw [hck]; rfl
theorem check_ (r : RollV) (h : r.Small) : ACalls Tryz.prog 35 [.agg (rollC r)] [] (.d (iv (rollE r))) := by
 refine acalls_S (rs := [.tmp 2]) Tryz.func35 rfl rfl 19 [(0, .d (.agg (rollC r)))] rfl (by simp) rfl ?_
 refine pq fun K0 hK0 => ?_
 simp only [zzK, QR, QP, QQ, zz35, JS, zz1, zzG, zzD, zzC, QA, yyE, Qe, QS, QN, zzH, JB, rollC, memsD, instsD, assetsD, zz6, QO, ↓Qb]
 refine kK hK0 [1] ?_
 refine JA fun K0 hK0 => ?_
 refine JA fun K1 hK1 => ?_
 refine Qz F_mixed [some 3, some 4, some 5, some 6, some 7, some 8, some 9, some 10, some 11, some 12, some 13, some 14, some 15, some 16, some 17, some 18] rfl ?_
 simp only [zzK, QR, QP, QQ, QU, JZ, zz5, Qj, Qi, Qh, zz19, zz23, F_off29_0, zzH, QN, QS, F_ok25, F_ag25, F_sz25, zz8, zzD, zzC, QA, yyE, Qe, JE, JF, zz29, JM, zz30, JC, F_off29_1, F_ok26, F_ag26, F_sz26, zz13, JQ, JR, F_off29_2, F_ok27, F_ag27, F_sz27, memsD, instsD, assetsD, fnD, zz6, QO, ↓Qb]
 refine cgA F_go70 (fun hG => risesM_ r.mems (by have := h.mems; omega)) ?_
 simp only [zzK, QR, QP, QQ, QU, JZ, zz5, Qj, Qi, Qh, zz19, zz23, F_off29_0, zzH, QN, QS, F_ok25, F_ag25, F_sz25, zz8, zzD, zzC, QA, yyE, Qe, JE, JF, zz29, JM, zz30, JC, F_off29_1, F_ok26, F_ag26, F_sz26, zz13, JQ, JR, F_off29_2, F_ok27, F_ag27, F_sz27, memsD, instsD, assetsD, fnD, zz6, QO, ↓Qb, atsL, oksG, JV, QZ, Qa, JO, Qm, QT, QS, zz9, QB, QA, S_mem, yyF, QF, zz2]
 refine cgA F_go73 (fun hG => risesI_ r.insts (by have := h.insts; omega)) ?_
 simp only [zzK, QR, QP, QQ, QU, JZ, zz5, Qj, Qi, Qh, zz19, zz23, F_off29_0, zzH, QN, QS, F_ok25, F_ag25, F_sz25, zz8, zzD, zzC, QA, yyE, Qe, JE, JF, zz29, JM, zz30, JC, F_off29_1, F_ok26, F_ag26, F_sz26, zz13, JQ, JR, F_off29_2, F_ok27, F_ag27, F_sz27, memsD, instsD, assetsD, fnD, zz6, QO, ↓Qb, atsL, oksG, JV, QZ, Qa, JO, Qm, QT, QS, zz9, QB, QA, S_mem, yyF, QF, zz2]
 refine cgA F_go76 (fun hG => risesA_ r.assets (by have := h.assets; omega)) ?_
 simp only [zzK, QR, QP, QQ, QU, JZ, zz5, Qj, Qi, Qh, zz19, zz23, F_off29_0, zzH, QN, QS, F_ok25, F_ag25, F_sz25, zz8, zzD, zzC, QA, yyE, Qe, JE, JF, zz29, JM, zz30, JC, F_off29_1, F_ok26, F_ag26, F_sz26, zz13, JQ, JR, F_off29_2, F_ok27, F_ag27, F_sz27, memsD, instsD, assetsD, fnD, zz6, QO, ↓Qb, atsL, oksG, JV, QZ, Qa, JO, Qm, QT, QS, zz9, QB, QA, S_mem, yyF, QF, zz2]
 refine kK hK1 [18] ?_
 refine cnA ?_ ?_
 ·intro hb
  refine pq fun K2 hK2 => ?_
  simp only [zzK, QR, QP, QQ, JB, zz6, QO, ↓Qb]
  refine kK hK2 [2] ?_
  refine JJ ?_
  simp only [zz6, QO, ↓Qb]
  refine dnA ?_
  simp only [QD, QE, resA, JZ, QR, QP, JD, QQ, Qd, Qc, JP]
  have e : rollOk r = false := by
   cases hk : rollOk r
   ·rfl
   ·simp [rollOk] at hk; simp [hk] at hb
  simp only [rollE, e, Qc]
 ·intro hb
  refine JI ?_
  simp only [zz6, QO, ↓Qb]
  refine kK hK0 [] ?_
  refine pq fun K0 hK0 => ?_
  simp only [zzK, QR, QP, QQ, JB, zz6, QO, ↓Qb]
  refine kK hK0 [2] ?_
  refine JJ ?_
  simp only [zz6, QO, ↓Qb]
  refine dnA ?_
  simp only [QD, QE, resA, JZ, QR, QP, JD, QQ, Qd, Qc, JP]
  have e : rollOk r = true := by simp only [Bool.or_eq_false_iff, Bool.not_eq_false'] at hb; simp [rollOk, hb]
  simp only [rollE, e, Qd]
theorem heavy_ (r : RollV) : ACalls Tryz.prog 4 [.agg (rollC r)] [] (bv (heavy r)) := by
 refine acalls_S (rs := [.tmp 2]) Tryz.func4 rfl rfl 19 [(0, .d (.agg (rollC r)))] rfl (by simp) rfl ?_
 refine pq fun K0 hK0 => ?_
 simp only [zzK, QR, QP, QQ, zz35, JS, zz1, zzG, zzD, zzC, QA, yyE, Qe, QS, QN, zzH, JB, rollC, memsD, instsD, assetsD, zz6, QO, ↓Qb]
 refine kK hK0 [1] ?_
 refine JA fun K0 hK0 => ?_
 refine Qz F_mixed [some 3, some 4, some 5, some 6, some 7, some 8, some 9, some 10, some 11, some 12, some 13, some 14, some 15, some 16, some 17, some 18, some 2] rfl ?_
 simp only [zzK, QR, QP, QQ, QU, JZ, zz5, Qj, Qi, Qh, zz19, zz23, F_off29_0, zzH, QN, QS, F_ok25, F_ag25, F_sz25, zz8, zzD, zzC, QA, yyE, Qe, JE, zz12, F_sl25, Option.isSome_some, zz21, JM, zz25, JC, F_off29_1, F_ok26, F_ag26, F_sz26, F_sl26, zz13, JQ, JR, F_off29_2, F_ok27, F_ag27, F_sz27, F_sl27, JB, memsD, instsD, assetsD, JN, zz6, QO, ↓Qb]
 refine kK hK0 [2] ?_
 refine JJ ?_
 simp only [zz6, QO, ↓Qb]
 refine dnA ?_
 simp only [QD, QE, resA, JZ, QR, QP, JD, QQ, Qd, Qc, JP]
 rfl
theorem findM_ (l : List MemV) (n : Int) (hl : l.length ≤ 1000000) : ACalls Tryz.prog 98 [memsD l, fnD 71, iv n] [] (.tp [memA (findX MemV.no n zMem l), .d (iv (findI MemV.no n 0 l))]) := by
 refine acalls_S (rs := [.cell 6 77, .tmp 7]) Tryz.func98 rfl rfl 27 [(0, .d (memsD l)), (1, .d (fnD 71)), (2, .d (iv n))] rfl (by simp) rfl ?_
 refine pq fun K0 hK0 => ?_
 simp only [zzK, QR, QP, QQ, zz32, JS, F_zero77, zzC, QA, yyE, Qe, zzD, QS, QN, zzH, zz10, JB, zz6, QO, ↓Qb]
 refine kK hK0 [0, 1, 2, 6] ?_
 refine JA fun K0 hK0 => ?_
 refine pq fun K1 hK1 => ?_
 simp only [zzK, QR, QP, QQ, JC, JE, zz12, F_sl25, Option.isSome_some, memsD, JN, zz6, QO, ↓Qb]
 refine kK hK1 [1, 2, 6, 11, 12, 13] ?_
 refine JH ?_
 refine JL (fun m s => ∃ pre post : List MemV, l = pre ++ post ∧ findX MemV.no n zMem l = findX MemV.no n zMem post ∧ findI MemV.no n 0 l = findI MemV.no n pre.length post ∧ m = post.length ∧ s = S 27 [(1, .d (fnD 71)), (2, .d (iv n)), (6, .ptr 6 0 0), (11, .d (memsD l)), (12, .d (iv l.length)), (13, .d (iv pre.length))] [(6, (⟨True, 77, 3, true, false, 6, [[.d (.v (.int .i64 0)), .d (.v (.int .i64 0)), .d (.v (.int .i64 0))]]⟩ : ARow))]) l.length _ (leK id [] (hl := by simp only [leV, JD, QQ, Qd, Qc, memsD, JN]; exact ⟨Qn _, Qn _, Qn _, Qn _, Qn _, Qn _, trivial⟩) (hr := by exact ⟨fun _ => ⟨_, rfl, ⟨id, rfl, rfl, fun _ => rfl, id, .inl, VLess.refl _⟩⟩, (by simp), trivial⟩)) ⟨[], l, rfl, rfl, rfl, rfl, rfl⟩ ?_
 rintro m s ⟨pre, post, rfl, hfx, hfi, rfl, rfl⟩
 refine pq fun K2 hK2 => ?_
 simp only [zzK, QR, QP, QQ, zz21, JM, zz22, zz6, QO, ↓Qb]
 refine kK hK2 [1, 2, 6, 11, 12, 13, 14] ?_
 refine JA fun K2 hK2 => ?_
 refine cnA ?_ ?_
 ·intro hb
  obtain ⟨x, post, rfl⟩ := more_of hb; clear hb
  refine JI ?_
  simp only [zz6, QO, ↓Qb]
  refine kK hK2 [1, 2, 6, 11, 12, 13] ?_
  refine JA fun K2 hK2 => ?_
  refine JH ?_
  refine pq fun K3 hK3 => ?_
  simp only [zzK, QR, QP, QQ, JC, JW, zz23, zz24, F_sl25, F_sz77, QA, zzC, yyE, Qe, F_ok77, F_ag77, zz8, zzD, QS, QN, zzH, zz32, JS, F_zero77, zz10, JB, zz18, splice, QG, zz1, zzG, memsD, memC, getD_mid, JN, lt_mid, ge_mid, zz6, QO, ↓Qb]
  refine kK hK3 [1, 2, 6, 8, 9, 11, 12, 13] ?_
  refine pq fun K3 hK3 => ?_
  simp only [zzK, QR, QP, QQ, JC, F_ok77, F_ag77, F_sz77, zz8, zz23, zzD, QS, QN, zzH, zzC, QA, yyE, Qe, JE, JF, zz21, JM, zz34, fnD, memC, QW, zz6, QO, ↓Qb]
  refine call_goT ?_ ?_ F_go71 (fun hG => noMem_ x) (by simp [QY, QX]) (by simp) ?_
  ·decide
  ·simp only [JD, QQ, Qd, Qc, bare_d, bare_wh, fnD]
  simp only [zzK, QR, QP, QQ, JC, F_ok77, F_ag77, F_sz77, zz8, zz23, zzD, QS, QN, zzH, zzC, QA, yyE, Qe, JE, JF, zz21, JM, zz34, fnD, memC, QW, zz6, QO, ↓Qb, QU, JZ, zz5, Qj, Qi, Qh, atsL, oksG, JV, QZ, Qa, JO, Qm, QT, QS, zz9, QB, QA, S_mem, yyF, QF, zz2]
  refine kK hK3 [1, 2, 6, 8, 9, 11, 12, 13, 22] ?_
  refine cnA ?_ ?_
  ·intro hb
   refine pq fun K4 hK4 => ?_
   simp only [zzK, QR, QP, QQ, F_ok77, F_ag77, F_sz77, zz8, zz23, zzD, QS, QN, zzH, zzC, QA, yyE, Qe, JC, zz18, splice, QG, zz1, zzG, JB, zz6, QO, ↓Qb]
   refine kK hK4 [6, 7] ?_
   refine JJ ?_
   simp only [zz6, QO, ↓Qb]
   refine done0 (by simp [resCs, resC, S, List.getD, JD, lookR, F_ag77, F_sz77, F_ok77]) ?_ (by simp [Ja, Jb, Jc, memA, memC]) (by simp [QY, QX, memA, memC])
   simp only [QD, QE, resA, JZ, S_mem, lookR_cons, lookR_nil, QR, QP, JD, QQ, Qd, Qc, JP, QI, QJ, QH, QL, QK, List.take_zero, F_ag77, F_sz77, F_ok77]
   rw [hfx, hfi, findX, findI, hb]; rfl
  ·intro hb
   refine JI ?_
   simp only [zz6, QO, ↓Qb]
   refine kK hK2 [1, 2, 6, 11, 12, 13] ?_
   refine pz ?_
   simp only [zzK, QR, QP, QQ, zz21, JM, zz26, JC, zz6, QO, ↓Qb]
   refine ⟨post.length, _, by simp, leK id [] (hl := by simp only [leV, JD, QQ, Qd, Qc, memsD, fnD, JN, wrap_len pre x (by simp at hl; omega)]; exact ⟨Qn _, Qn _, Qn _, Qn _, Qn _, Qn _, trivial⟩) (hr := by exact ⟨fun _ => ⟨_, rfl, ⟨id, rfl, rfl, fun _ => rfl, id, .inl, VLess.refl _⟩⟩, (by simp), trivial⟩), pre ++ [x], post, by simp, by rw [hfx, findX, hb]; rfl, by rw [hfi, findI, hb]; simp, rfl, rfl⟩
 ·intro hb
  obtain rfl := none_of hb; clear hb
  refine JK ?_
  simp only [zz6, QO, ↓Qb]
  refine kK hK0 [6] ?_
  refine pq fun K0 hK0 => ?_
  simp only [zzK, QR, QP, QQ, zz32, JS, F_zero77, zzC, QA, yyE, Qe, zzD, QS, QN, zzH, zz10, zz6, QO, ↓Qb]
  refine kK hK0 [6, 10] ?_
  refine pq fun K0 hK0 => ?_
  simp only [zzK, QR, QP, QQ, F_ok77, F_ag77, F_sz77, zz8, zz23, zzD, QS, QN, zzH, zzC, QA, yyE, Qe, zz18, splice, QG, zz1, zzG, JB, zz6, QO, ↓Qb]
  refine kK hK0 [6, 7] ?_
  refine JJ ?_
  simp only [zz6, QO, ↓Qb]
  refine done0 (by simp [resCs, resC, S, List.getD, JD, lookR, F_ag77, F_sz77, F_ok77]) ?_ (by simp [Ja, Jb, Jc, memA, memC]) (by simp [QY, QX, memA, memC])
  simp only [QD, QE, resA, JZ, S_mem, lookR_cons, lookR_nil, QR, QP, JD, QQ, Qd, Qc, JP, QI, QJ, QH, QL, QK, List.take_zero, F_ag77, F_sz77, F_ok77]
  rw [hfx, hfi]; rfl
theorem tMember_ (r : RollV) (n : Int) (h : r.Small) : ACalls Tryz.prog 79 [.agg (rollC r), iv n] [] (.tp [memA (findX MemV.no n zMem r.mems), bv (hasX MemV.no n r.mems)]) := by
 refine acalls_S (rs := [.cell 4 77, .tmp 5]) Tryz.func79 rfl rfl 18 [(0, .d (.agg (rollC r))), (1, .d (iv n))] rfl (by simp) rfl ?_
 refine pq fun K0 hK0 => ?_
 simp only [zzK, QR, QP, QQ, zz35, JS, zz1, zzG, zzD, zzC, QA, yyE, Qe, QS, QN, zzH, zz32, F_zero77, zz10, JB, rollC, memsD, instsD, assetsD, zz6, QO, ↓Qb]
 refine kK hK0 [1, 2, 4] ?_
 refine pq fun K0 hK0 => ?_
 simp only [zzK, QR, QP, QQ, zz19, zz23, F_off29_0, zzH, QN, QS, F_ok25, F_ag25, F_sz25, zz8, zzD, zzC, QA, yyE, Qe, JC, JE, JF, zz14, zz32, JS, F_zero77, zz10, zz18, F_ok77, F_sz77, splice, QG, zz1, zzG, JB, memsD, instsD, assetsD, fnD, memA, memC, QD, zz6, QO, ↓Qb]
 refine call_go F_go98 (fun hG => findM_ r.mems n h.mems) (by simp [QY, QX, memA, memC]) (by simp) ?_
 simp only [zzK, QR, QP, QQ, zz19, zz23, F_off29_0, zzH, QN, QS, F_ok25, F_ag25, F_sz25, zz8, zzD, zzC, QA, yyE, Qe, JC, JE, JF, zz14, zz32, JS, F_zero77, zz10, zz18, F_ok77, F_sz77, splice, QG, zz1, zzG, JB, memsD, instsD, assetsD, fnD, memA, memC, QD, zz6, QO, ↓Qb, atsL, oksG, JV, QZ, Qa, JO, Qm, QT, QS, zz9, QB, QA, S_mem, yyF, QF, zz2]
 refine kK hK0 [4, 6, 7] ?_
 refine pq fun K0 hK0 => ?_
 simp only [zzK, QR, QP, QQ, F_ok77, F_ag77, F_sz77, zz8, zz23, zzD, QS, QN, zzH, zzC, QA, yyE, Qe, JC, zz21, JM, zz31, zz18, splice, QG, zz1, zzG, JB, zz6, QO, ↓Qb]
 refine kK hK0 [4, 5] ?_
 refine JJ ?_
 simp only [zz6, QO, ↓Qb]
 refine done0 (by simp [resCs, resC, S, List.getD, JD, lookR, F_ag77, F_sz77, F_ok77]) ?_ (by simp [Ja, Jb, Jc, memA, memC]) (by simp [QY, QX, memA, memC])
 simp only [QD, QE, resA, JZ, S_mem, lookR_cons, lookR_nil, QR, QP, JD, QQ, Qd, Qc, JP, QI, QJ, QH, QL, QK, List.take_zero, F_ag77, F_sz77, F_ok77]
 rw [findI_has]; rfl
theorem needs_ (r : RollV) (ws : List Int) (h : r.Small) (hw : ws.length ≤ 400000) : ACalls Tryz.prog 36 [.agg (rollC r), ints ws] [⟨3, 1, (ndV r ws).map fun n => [iv n]⟩] (.ref 0 (ndV r ws).length) := by
 refine acalls_S (rs := [.tmp 4]) Tryz.func36 rfl rfl 29 [(0, .d (.agg (rollC r))), (1, .d (ints ws))] rfl (by simp) rfl ?_
 refine pq fun K0 hK0 => ?_
 simp only [zzK, QR, QP, QQ, zz35, JS, zz1, zzG, zzD, zzC, QA, yyE, Qe, QS, QN, zzH, JB, rollC, memsD, instsD, assetsD, zz6, QO, ↓Qb]
 refine kK hK0 [1, 2] ?_
 refine pq fun K0 hK0 => ?_
 simp only [zzK, QR, QP, QQ, JB, zz6, QO, ↓Qb]
 refine kK hK0 [1, 2, 5] ?_
 refine JA fun K0 hK0 => ?_
 refine pq fun K1 hK1 => ?_
 simp only [zzK, QR, QP, QQ, JC, JE, zz12, F_sl30, Option.isSome_some, ints, JN, zz6, QO, ↓Qb]
 refine kK hK1 [2, 5, 10, 11, 12] ?_
 refine JH ?_
 refine JL (fun m s => ∃ (pre : List Int) (post : List Int), (ws = pre ++ post) ∧ m = post.length ∧ s = S 29 [(2, .ptr 2 0 0), (5, .ref 5 (ndV r pre).length), (10, .d (ints ws)), (11, .d (iv ws.length)), (12, .d (iv pre.length))] [(2, (⟨True, 29, 3, true, false, 2, [[.d (.sl 3 (r.mems.map memC)), .d (.sl 12 (r.insts.map instC)), .d (.sl 4 (r.assets.map assetC))]]⟩ : ARow)), (5, grow 3 1 5 ((ndV r pre).map fun n => [iv n]))]) (ws.length) _ (leK id [5]) ⟨[], ws, rfl, rfl, rfl⟩ ?_
 rintro m s ⟨pre, post, hsp, rfl, rfl⟩
 have hspl := congrArg List.length hsp
 simp only [QC] at hspl
 have hvl := ndV_len r pre
 refine pq fun K2 hK2 => ?_
 simp only [zzK, QR, QP, QQ, zz21, JM, zz22, zz6, QO, ↓Qb]
 refine kK hK2 [2, 5, 10, 11, 12, 13] ?_
 refine JA fun K2 hK2 => ?_
 refine cnA ?_ ?_
 ·intro hb
  obtain ⟨x, post2, rfl⟩ : ∃ x t, post = x :: t := by
   cases post with
   | nil => have := Qg hb; simp at hspl; omega
   | cons x t => exact ⟨x, t, rfl⟩
  clear hb
  simp only [QF] at hspl
  have gx : (ws.map (fun n => [iv n])).getD pre.length [] = [iv x] := by
   rw [hsp, List.map_append]; exact gd_mid' (A := pre.map (fun n => [iv n])) _ _ (by simp)
  have bx := ltI (show pre.length < ws.length by omega)
  have hwx : Ql .i64 ((pre.length : Int) + 1) = ((pre ++ [x]).length : Int) := by rw [wrapI (by omega) (by omega)]; simp
  refine JI ?_
  simp only [zz6, QO, ↓Qb]
  refine kK hK2 [2, 5, 10, 11, 12] ?_
  refine JA fun K2 hK2 => ?_
  refine JH ?_
  refine pq fun K3 hK3 => ?_
  simp only [zzK, QR, QP, QQ, JW, zz23, zz24, F_sl30, F_sz3, QA, zzC, yyE, Qe, F_ok3, F_ag3, zz8, zzD, QS, QN, zzH, JB, ints, gx, bx, hwx, JN, ge0, QV, QW, zz6, QO, ↓Qb]
  refine kK hK3 [2, 5, 7, 10, 11, 12] ?_
  refine pq fun K3 hK3 => ?_
  simp only [zzK, QR, QP, QQ, F_ok29, F_ag29, F_sz29, zz8, zz23, zzD, QS, QN, zzH, zzC, QA, yyE, Qe, JC, JE, JF, zz14, zz32, JS, F_zero77, zz10, zz18, F_ok77, F_sz77, splice, QG, zz1, zzG, JB, memsD, instsD, assetsD, rollC, QW, memA, memC, instA, instC, QD, zz6, QO, ↓Qb]
  refine call_go F_go79 (fun hG => tMember_ r x h) (by simp [QY, QX, memA, memC, instA, instC]) (by simp) ?_
  simp only [zzK, QR, QP, QQ, F_ok29, F_ag29, F_sz29, zz8, zz23, zzD, QS, QN, zzH, zzC, QA, yyE, Qe, JC, JE, JF, zz14, zz32, JS, F_zero77, zz10, zz18, F_ok77, F_sz77, splice, QG, zz1, zzG, JB, memsD, instsD, assetsD, rollC, QW, memA, memC, instA, instC, QD, zz6, QO, ↓Qb, atsL, oksG, JV, QZ, Qa, JO, Qm, QT, QS, zz9, QB, QA, S_mem, yyF, QF, zz2]
  refine kK hK3 [2, 5, 8, 10, 11, 12] ?_
  refine pz ?_
  simp only [zzK, QR, QP, QQ, JC, zz19, zz23, F_off77_2, zzH, QN, QS, F_ok3, F_ag3, F_sz3, zz8, zzD, zzC, QA, yyE, Qe, F_sl30, F_zero3, zz3, JS, zz1, zzG, maxLen_le, QT, JE, F_by3, zz4, zz9, QB, JB, memsD, instsD, assetsD, rollC, QW, memA, memC, instA, instC, QD, grow, unDs_map, zz6, QO, ↓Qb]
  have hm : (ndV r pre).length + 1 ≤ 1000000 := by first | omega | (simp; omega)
  first | refine ⟨le_maxLen hm, by omega, ?_⟩ | refine ⟨by simp, le_maxLen hm, by omega, ?_⟩
  clear hm
  refine kK hK2 [2, 5, 10, 11, 12] ?_
  refine pz ?_
  simp only [zzK, QR, QP, QQ, zz21, JM, zz26, JC, hwx, zz6, QO, ↓Qb]
  refine ⟨post2.length, _, by simp, leK (fun r => bif r == 5 then 26 else r) [] (hl := by simp only [leV, JD, QQ, Qd, Qc, hwx]; exact ⟨vA, (Qr (by simp) (by rfl) (by rw [ndV_snoc]; simp)), vA, vA, vA, trivial⟩) (hr := by exact ⟨fun _ => ⟨_, rfl, rA⟩, (by simp), fun _ => ⟨_, rfl, Qw (by rw [ndV_snoc]; simp)⟩, (by simp), trivial⟩), (pre ++ [x]), post2, by simp [hsp], rfl, rfl⟩
 ·intro hb
  obtain rfl : post = [] := by
   cases post with
   | nil => rfl
   | cons x t => have := Qf hb; simp at hspl; omega
  clear hb
  simp only [QG] at hsp
  subst hsp
  refine JK ?_
  simp only [zz6, QO, ↓Qb]
  refine kK hK0 [5] ?_
  refine pq fun K0 hK0 => ?_
  simp only [zzK, QR, QP, QQ, JC, JB, grow, zz6, QO, ↓Qb]
  refine kK hK0 [4] ?_
  refine JJ ?_
  simp only [zz6, QO, ↓Qb]
  refine done1 5 (by simp only [resCs, resC]; trivial) ?_ (by simp [Ja, Jb, Jc]) (by simp [QY, QX]) (by rfl) trivial rfl rfl ?_ (by simp [flatDs, Jc])
  ·simp only [QD, QE, resA, JZ, QR, QP, JD, QQ, Qd, Qc, JP]; rfl
  ·rfl
theorem needsF (r : RollV) (ws : List Int) (h : r.Small) (hw : ws.length ≤ 400000) : ACalls Tryz.prog 36 [.agg (rollC r), ints ws] [] (.d (ints (ndV r ws))) := (needs_ r ws h hw).freeze (by simp [frzOk])
theorem Needs_ (r : RollV) (ws : List Int) (h : r.Small) (hw : ws.length ≤ 400000) : ACalls Tryz.prog 10 [.agg (rollC r), ints ws] [] (.tp [.d (iv (nsN r ws)), .d (iv (nsE r ws))]) := by
 refine acalls_S (rs := [.tmp 4, .tmp 5]) Tryz.func10 rfl rfl 23 [(0, .d (.agg (rollC r))), (1, .d (ints ws))] rfl (by simp) rfl ?_
 refine pq fun K0 hK0 => ?_
 simp only [zzK, QR, QP, QQ, zz35, JS, zz1, zzG, zzD, zzC, QA, yyE, Qe, QS, QN, zzH, JB, rollC, memsD, instsD, assetsD, zz6, QO, ↓Qb]
 refine kK hK0 [1, 2] ?_
 refine pq fun K0 hK0 => ?_
 simp only [zzK, QR, QP, QQ, F_ok29, F_ag29, F_sz29, zz8, zz23, zzD, QS, QN, zzH, zzC, QA, yyE, Qe, JE, JF, JB, memsD, instsD, assetsD, rollC, QW, memA, memC, instA, instC, zzG, zz6, QO, ↓Qb]
 refine cgA F_go35 (fun hG => check_ r h) ?_
 simp only [zzK, QR, QP, QQ, F_ok29, F_ag29, F_sz29, zz8, zz23, zzD, QS, QN, zzH, zzC, QA, yyE, Qe, JE, JF, JB, memsD, instsD, assetsD, rollC, QW, memA, memC, instA, instC, zzG, zz6, QO, ↓Qb, atsL, oksG, JV, QZ, Qa, JO, Qm, QT, QS, zz9, QB, QA, S_mem, yyF, QF, zz2]
 refine kK hK0 [1, 2, 6] ?_
 refine JA fun K0 hK0 => ?_
 refine JH ?_
 refine pq fun K1 hK1 => ?_
 simp only [zzK, QR, QP, QQ, JC, zz21, JM, zz28, JB, zz6, QO, ↓Qb]
 refine kK hK1 [1, 2, 6, 9] ?_
 refine cnA ?_ ?_
 ·intro hb
  have he : (rollE r != 0) = true := hb
  clear hb
  refine pq fun K2 hK2 => ?_
  simp only [zzK, QR, QP, QQ, JC, JB, zz6, QO, ↓Qb]
  refine kK hK2 [4, 5] ?_
  refine JJ ?_
  simp only [zz6, QO, ↓Qb]
  refine dnA ?_
  simp only [QD, QE, resA, JZ, QR, QP, JD, QQ, Qd, Qc, JP]
  rw [show nsN r ws = 0 by simp only [nsN, he, Qd, Qc], show nsE r ws = rollE r by simp only [nsE, he, Qd, Qc]]
 ·intro hb
  have he : (rollE r != 0) = false := hb
  clear hb
  refine pq fun K2 hK2 => ?_
  simp only [zzK, QR, QP, QQ, JC, JE, JF, zz29, JM, zz30, JB, ints, zz6, QO, ↓Qb]
  refine cgA F_go28 (fun hG => rightWhos_ ws hw) ?_
  simp only [zzK, QR, QP, QQ, JC, JE, JF, zz29, JM, zz30, JB, ints, zz6, QO, ↓Qb, atsL, oksG, JV, QZ, Qa, JO, Qm, QT, QS, zz9, QB, QA, zzC, yyF, zzD, zz2]
  refine kK hK2 [1, 2, 13] ?_
  refine cnA ?_ ?_
  ·intro hb
   have hs : (!whosOk ws) = true := hb
   clear hb
   refine pq fun K3 hK3 => ?_
   simp only [zzK, QR, QP, QQ, JB, zz6, QO, ↓Qb]
   refine kK hK3 [4, 5] ?_
   refine JJ ?_
   simp only [zz6, QO, ↓Qb]
   refine dnA ?_
   simp only [QD, QE, resA, JZ, QR, QP, JD, QQ, Qd, Qc, JP]
   rw [show nsN r ws = 0 by simp only [nsN, he, hs, Qd, Qc], show nsE r ws = 3 by simp only [nsE, he, hs, Qd, Qc]]
  ·intro hb
   have hs : (!whosOk ws) = false := hb
   clear hb
   refine JI ?_
   simp only [zz6, QO, ↓Qb]
   refine kK hK0 [1, 2] ?_
   refine pq fun K0 hK0 => ?_
   simp only [zzK, QR, QP, QQ, F_ok29, F_ag29, F_sz29, zz8, zz23, zzD, QS, QN, zzH, zzC, QA, yyE, Qe, JC, JE, JF, zz14, JB, memsD, instsD, assetsD, rollC, QW, memA, memC, instA, instC, zzG, ints, zz6, QO, ↓Qb]
   refine cgA F_go36 (fun hG => needsF r ws h hw) ?_
   simp only [zzK, QR, QP, QQ, F_ok29, F_ag29, F_sz29, zz8, zz23, zzD, QS, QN, zzH, zzC, QA, yyE, Qe, JC, JE, JF, zz14, JB, memsD, instsD, assetsD, rollC, QW, memA, memC, instA, instC, zzG, ints, zz6, QO, ↓Qb, atsL, oksG, JV, QZ, Qa, JO, Qm, QT, QS, zz9, QB, QA, S_mem, yyF, QF, zz2]
   refine cgA F_go29 (fun hG => Sum_ (ndV r ws) (by rw [ndV_len]; omega)) ?_
   simp only [zzK, QR, QP, QQ, F_ok29, F_ag29, F_sz29, zz8, zz23, zzD, QS, QN, zzH, zzC, QA, yyE, Qe, JC, JE, JF, zz14, JB, memsD, instsD, assetsD, rollC, QW, memA, memC, instA, instC, zzG, ints, zz6, QO, ↓Qb, atsL, oksG, JV, QZ, Qa, JO, Qm, QT, QS, zz9, QB, QA, S_mem, yyF, QF, zz2]
   refine kK hK0 [4, 5] ?_
   refine JJ ?_
   simp only [zz6, QO, ↓Qb]
   refine dnA ?_
   simp only [QD, QE, resA, JZ, QR, QP, JD, QQ, Qd, Qc, JP]
   rw [show nsN r ws = sumV (ndV r ws) by simp only [nsN, he, hs, Qd, Qc], show nsE r ws = sumE (ndV r ws) by simp only [nsE, he, hs, Qd, Qc]]
theorem assess_ (r : RollV) (c amt : Int) (ws : List Int) (h : r.Small) (hw : ws.length ≤ 400000) : ACalls Tryz.prog 16 [.agg (rollC r), iv c, iv amt, ints ws] [⟨75, 4, (aqV r c amt ws).map legC⟩] (.tp [.ref 0 (aqV r c amt ws).length, .d (iv (aqE r c amt ws))]) := by
 refine acalls_S (rs := [.tmp 8, .tmp 9]) Tryz.func16 rfl rfl 34 [(0, .d (.agg (rollC r))), (1, .d (iv c)), (2, .d (iv amt)), (3, .d (ints ws))] rfl (by simp) rfl ?_
 refine pq fun K0 hK0 => ?_
 simp only [zzK, QR, QP, QQ, zz35, JS, zz1, zzG, zzD, zzC, QA, yyE, Qe, QS, QN, zzH, JB, rollC, memsD, instsD, assetsD, zz6, QO, ↓Qb]
 refine kK hK0 [1, 2, 3, 4] ?_
 refine pq fun K0 hK0 => ?_
 simp only [zzK, QR, QP, QQ, F_ok29, F_ag29, F_sz29, zz8, zz23, zzD, QS, QN, zzH, zzC, QA, yyE, Qe, JC, JE, JF, zz14, JB, memsD, instsD, assetsD, rollC, QW, memA, memC, instA, instC, zzG, ints, zz6, QO, ↓Qb]
 refine cgA F_go10 (fun hG => Needs_ r ws h hw) ?_
 simp only [zzK, QR, QP, QQ, F_ok29, F_ag29, F_sz29, zz8, zz23, zzD, QS, QN, zzH, zzC, QA, yyE, Qe, JC, JE, JF, zz14, JB, memsD, instsD, assetsD, rollC, QW, memA, memC, instA, instC, zzG, ints, zz6, QO, ↓Qb, atsL, oksG, JV, QZ, Qa, JO, Qm, QT, QS, zz9, QB, QA, S_mem, yyF, QF, zz2]
 refine kK hK0 [1, 2, 3, 4, 10, 11] ?_
 refine JA fun K0 hK0 => ?_
 refine pq fun K1 hK1 => ?_
 simp only [zzK, QR, QP, QQ, JC, zz21, JM, zz28, zz6, QO, ↓Qb]
 refine kK hK1 [1, 2, 3, 4, 10, 11, 19] ?_
 refine cnA ?_ ?_
 ·intro hb
  have he : (nsE r ws != 0) = true := hb
  clear hb
  refine pq fun K2 hK2 => ?_
  simp only [zzK, QR, QP, QQ, JC, JB, zz6, QO, ↓Qb]
  refine kK hK2 [8, 9] ?_
  refine awp_le (leK id [0] (l' := [(8, .ref 0 0), (9, .d (iv (nsE r ws)))]) (m' := [(0, (⟨True, 75, 4, true, true, 0, []⟩ : ARow))])) ?_
  refine JJ ?_
  simp only [zz6, QO, ↓Qb]
  rw [show aqV r c amt ws = [] by simp only [aqV, he, Qd, Qc], show aqE r c amt ws = nsE r ws by simp only [aqE, he, Qd, Qc]]
  refine done1 0 (by simp only [resCs, resC]; trivial) ?_ (by simp [Ja, Jb, Jc, legC]) (by simp [QY, QX, legC]) (by rfl) trivial rfl rfl ?_ (by simp [flatDs, Jc, legC])
  ·simp only [QD, QE, resA, JZ, QR, QP, JD, QQ, Qd, Qc, JP]; rfl
  ·rfl
 ·intro hb
  have he : (nsE r ws != 0) = false := hb
  clear hb
  have hw16 := ns_few he
  refine JI ?_
  simp only [zz6, QO, ↓Qb]
  refine kK hK0 [1, 2, 3, 4, 10] ?_
  refine JA fun K0 hK0 => ?_
  refine pq fun K1 hK1 => ?_
  simp only [zzK, QR, QP, QQ, JC, JE, JF, zz29, JM, zz30, zz6, QO, ↓Qb]
  refine cgA F_go27 (fun hG => rightCur_ c) ?_
  simp only [zzK, QR, QP, QQ, JC, JE, JF, zz29, JM, zz30, zz6, QO, ↓Qb, atsL, oksG, JV, QZ, Qa, JO, Qm, QT, QS, zz9, QB, QA, zzC, yyF, zzD, zz2]
  refine kK hK1 [1, 2, 3, 4, 10, 23] ?_
  refine cnA ?_ ?_
  ·intro hb
   have hc : (!curOk c) = true := hb
   clear hb
   refine pq fun K2 hK2 => ?_
   simp only [zzK, QR, QP, QQ, JB, zz6, QO, ↓Qb]
   refine kK hK2 [8, 9] ?_
   refine awp_le (leK id [0] (l' := [(8, .ref 0 0), (9, .d (iv 3))]) (m' := [(0, (⟨True, 75, 4, true, true, 0, []⟩ : ARow))])) ?_
   refine JJ ?_
   simp only [zz6, QO, ↓Qb]
   rw [show aqV r c amt ws = [] by simp only [aqV, he, hc, Qd, Qc], show aqE r c amt ws = 3 by simp only [aqE, he, hc, Qd, Qc]]
   refine done1 0 (by simp only [resCs, resC]; trivial) ?_ (by simp [Ja, Jb, Jc, legC]) (by simp [QY, QX, legC]) (by rfl) trivial rfl rfl ?_ (by simp [flatDs, Jc, legC])
   ·simp only [QD, QE, resA, JZ, QR, QP, JD, QQ, Qd, Qc, JP]; rfl
   ·rfl
  ·intro hb
   have hc : (!curOk c) = false := hb
   clear hb
   have e1 : aqV r c amt ws = boV 2 c amt (nsN r ws) ws (ndV r ws) := by simp only [aqV, he, hc, Qc]
   have e2 : aqE r c amt ws = boE 2 c amt (nsN r ws) ws (ndV r ws) := by simp only [aqE, he, hc, Qc]
   refine JI ?_
   simp only [zz6, QO, ↓Qb]
   refine kK hK0 [1, 2, 3, 4, 10] ?_
   refine pq fun K0 hK0 => ?_
   simp only [zzK, QR, QP, QQ, JC, F_ok29, F_ag29, F_sz29, zz8, zz23, zzD, QS, QN, zzH, zzC, QA, yyE, Qe, JE, JF, zz14, JB, memsD, instsD, assetsD, rollC, QW, memA, memC, instA, instC, zzG, ints, zz6, QO, ↓Qb]
   refine cgA F_go36 (fun hG => needsF r ws h hw) ?_
   simp only [zzK, QR, QP, QQ, JC, F_ok29, F_ag29, F_sz29, zz8, zz23, zzD, QS, QN, zzH, zzC, QA, yyE, Qe, JE, JF, zz14, JB, memsD, instsD, assetsD, rollC, QW, memA, memC, instA, instC, zzG, ints, zz6, QO, ↓Qb, atsL, oksG, JV, QZ, Qa, JO, Qm, QT, QS, zz9, QB, QA, S_mem, yyF, QF, zz2]
   refine cgA F_go39 (fun hG => borne_ 2 c amt (nsN r ws) ws (ndV r ws) (by omega) (by rw [ndV_len])) ?_
   simp only [zzK, QR, QP, QQ, JC, F_ok29, F_ag29, F_sz29, zz8, zz23, zzD, QS, QN, zzH, zzC, QA, yyE, Qe, JE, JF, zz14, JB, memsD, instsD, assetsD, rollC, QW, memA, memC, instA, instC, zzG, ints, zz6, QO, ↓Qb, atsL, oksG, JV, QZ, Qa, JO, Qm, QT, QS, zz9, QB, QA, S_mem, yyF, QF, zz2]
   refine kK hK0 [8, 9] ?_
   refine JJ ?_
   simp only [zz6, QO, ↓Qb]
   rw [e1, e2]
   refine done1 32000 (by simp only [resCs, resC]; trivial) ?_ (by simp [Ja, Jb, Jc, legC]) (by simp [QY, QX, legC]) (by rfl) trivial rfl rfl ?_ (by simp [flatDs, Jc, legC])
   ·simp only [QD, QE, resA, JZ, QR, QP, JD, QQ, Qd, Qc, JP]; rfl
   ·rfl
theorem Move_ (a b : AcV) (n : Int) : ACalls Tryz.prog 44 [.agg (acC a), .agg (acC b), iv n] [⟨75, 4, (moveL a b n).map legC⟩] (.ref 0 2) := by
 refine acalls_S (rs := [.tmp 6]) Tryz.func44 rfl rfl 19 [(0, .d (.agg (acC a))), (1, .d (.agg (acC b))), (2, .d (iv n))] rfl (by simp) rfl ?_
 refine pq fun K0 hK0 => ?_
 simp only [zzK, QR, QP, QQ, zz35, JS, zz1, zzG, zzD, zzC, QA, yyE, Qe, QS, QN, zzH, JB, acC, zz6, QO, ↓Qb]
 refine kK hK0 [2, 3, 4] ?_
 refine JA fun K0 hK0 => ?_
 refine pq fun K1 hK1 => ?_
 simp only [zzK, QR, QP, QQ, JC, F_sl30, F_zero3, F_sz3, zz3, JS, zz1, zzG, zzD, zzC, QA, yyE, Qe, QS, QN, zzH, maxLen_le, QT, JE, JF, zz29, JM, zz30, ints, QD, D.sl.injEq, zz6, QO, ↓Qb]
 refine cgA F_go54 (fun hG => Right_ [n] (by simp)) ?_
 simp only [zzK, QR, QP, QQ, JC, F_sl30, F_zero3, F_sz3, zz3, JS, zz1, zzG, zzD, zzC, QA, yyE, Qe, QS, QN, zzH, maxLen_le, QT, JE, JF, zz29, JM, zz30, ints, QD, zz6, QO, ↓Qb, atsL, oksG, JV, QZ, Qa, JO, Qm, QT, QS, zz9, QB, QA, S_mem, yyF, QF, zz2]
 refine kK hK1 [2, 3, 4, 10] ?_
 refine cnA ?_ ?_
 ·intro hb
  have e : rightN n = false := by simpa using hb
  clear hb
  have hw : Ql .i64 (0 - 0) = 0 - 0 := wrapI (by omega) (by omega)
  refine pz ?_
  simp only [zzK, QR, QP, QQ, JB, zz6, QO, ↓Qb]
  refine kK hK0 [2, 3, 4] ?_
  refine pq fun K0 hK0 => ?_
  simp only [zzK, QR, QP, QQ, F_ok73, F_ag73, F_sz73, zz8, zz23, zzD, QS, QN, zzH, zzC, QA, yyE, Qe, JC, zz29, JM, zz37, F_zero75, F_bld75, zz7, splice, Option.getD_some, QG, zz1, zzG, zz10, F_fld75_0, F_fld75_1, F_sl41, F_sz75, zz3, JS, maxLen_le, QT, JB, hw, zz6, QO, ↓Qb]
  refine kK hK0 [6] ?_
  refine JJ ?_
  simp only [zz6, QO, ↓Qb]
  rw [moveL, e]
  refine done1 18 (by simp only [resCs, resC]; trivial) ?_ (by simp [Ja, Jb, Jc, legC]) (by simp [QY, QX, legC]) (by rfl) trivial rfl rfl ?_ (by simp [flatDs, Jc, legC])
  ·simp only [QD, QE, resA, JZ, QR, QP, JD, QQ, Qd, Qc, JP]; rfl
  ·simp only [QD, QE, legC, Qd, Qc]
 ·intro hb
  have e : rightN n = true := by simpa using hb
  clear hb
  have hn : -4611686018427387904 ≤ n ∧ n ≤ 4611686018427387904 := by simpa [rightN] using e
  have hw : Ql .i64 (0 - n) = 0 - n := wrapI (by omega) (by omega)
  refine JI ?_
  simp only [zz6, QO, ↓Qb]
  refine kK hK0 [2, 3, 4] ?_
  refine pq fun K0 hK0 => ?_
  simp only [zzK, QR, QP, QQ, F_ok73, F_ag73, F_sz73, zz8, zz23, zzD, QS, QN, zzH, zzC, QA, yyE, Qe, JC, zz29, JM, zz37, F_zero75, F_bld75, zz7, splice, Option.getD_some, QG, zz1, zzG, zz10, F_fld75_0, F_fld75_1, F_sl41, F_sz75, zz3, JS, maxLen_le, QT, JB, hw, zz6, QO, ↓Qb]
  refine kK hK0 [6] ?_
  refine JJ ?_
  simp only [zz6, QO, ↓Qb]
  rw [moveL, e]
  refine done1 18 (by simp only [resCs, resC]; trivial) ?_ (by simp [Ja, Jb, Jc, legC]) (by simp [QY, QX, legC]) (by rfl) trivial rfl rfl ?_ (by simp [flatDs, Jc, legC])
  ·simp only [QD, QE, resA, JZ, QR, QP, JD, QQ, Qd, Qc, JP]; rfl
  ·simp only [QD, QE, legC, Qd, Qc]
theorem MoveF (a b : AcV) (n : Int) : ACalls Tryz.prog 44 [.agg (acC a), .agg (acC b), iv n] [] (.d (legs (moveL a b n))) := (Move_ a b n).freeze (by simp [frzOk, moveL])
set_option maxRecDepth 100000 in
set_option maxHeartbeats 4000000 in
theorem refill_ (nx : Int) (l : List LegV) (r : RollV) (c : Int) (hl : l.length ≤ 400000) (h : r.Small) (hm : r.mems.length ≤ 400000) : ACalls Tryz.prog 18 [.agg (ledC ⟨nx, l⟩), .agg (rollC r), iv c] [⟨75, 4, (rfV ⟨nx, l⟩ r c).map legC⟩, ⟨81, 3, (rfU ⟨nx, l⟩ r c).map fdueC⟩] (.tp [.ref 0 (rfV ⟨nx, l⟩ r c).length, .ref 1 (rfU ⟨nx, l⟩ r c).length, .d (iv (rfE ⟨nx, l⟩ r c))]) := by
 refine acalls_S (rs := [.tmp 6, .tmp 7, .tmp 8]) Tryz.func18 rfl rfl 95 [(0, .d (.agg (ledC ⟨nx, l⟩))), (1, .d (.agg (rollC r))), (2, .d (iv c))] rfl (by simp) rfl ?_
 refine pq fun K0 hK0 => ?_
 simp only [zzK, QR, QP, QQ, zz35, JS, zz1, zzG, zzD, zzC, QA, yyE, Qe, QS, QN, zzH, JB, ledC, legs, rollC, memsD, instsD, assetsD, zz6, QO, ↓Qb]
 refine kK hK0 [2, 3, 4] ?_
 refine pq fun K0 hK0 => ?_
 simp only [zzK, QR, QP, QQ, F_ok24, F_ag24, F_sz24, zz8, zz23, zzD, QS, QN, zzH, zzC, QA, yyE, Qe, JE, JF, JB, ledC, legs, QW, zz6, QO, ↓Qb]
 refine cgA F_go26 (fun hG => lchk_ nx l (by omega)) ?_
 simp only [zzK, QR, QP, QQ, F_ok24, F_ag24, F_sz24, zz8, zz23, zzD, QS, QN, zzH, zzC, QA, yyE, Qe, JE, JF, JB, ledC, legs, QW, zz6, QO, ↓Qb, atsL, oksG, JV, QZ, Qa, JO, Qm, QT, QS, zz9, QB, QA, S_mem, yyF, QF, zz2]
 refine kK hK0 [2, 3, 4, 9] ?_
 refine JA fun K0 hK0 => ?_
 refine pq fun K1 hK1 => ?_
 simp only [zzK, QR, QP, QQ, JC, zz21, JM, zz34, zz6, QO, ↓Qb]
 refine kK hK1 [2, 3, 4, 9, 21] ?_
 refine cnA ?_ ?_
 ·intro hb
  have he : ledE ⟨nx, l⟩ = 0 := by simpa using hb
  clear hb
  have he2 : (ledE ⟨nx, l⟩ != 0) = false := by simp [he]
  refine pz ?_
  simp only [zzK, QR, QP, QQ, F_ok29, F_ag29, F_sz29, zz8, zz23, zzD, QS, QN, zzH, zzC, QA, yyE, Qe, JE, JF, JB, memsD, instsD, assetsD, rollC, QW, memA, memC, instA, instC, zzG, zz6, QO, ↓Qb]
  refine call_go F_go35 (fun hG => check_ r h) (by simp [QY, QX, memA, memC, instA, instC]) (by simp) ?_
  simp only [zzK, QR, QP, QQ, F_ok29, F_ag29, F_sz29, zz8, zz23, zzD, QS, QN, zzH, zzC, QA, yyE, Qe, JE, JF, JB, memsD, instsD, assetsD, rollC, QW, memA, memC, instA, instC, zzG, zz6, QO, ↓Qb, atsL, oksG, JV, QZ, Qa, JO, Qm, QT, QS, zz9, QB, QA, S_mem, yyF, QF, zz2]
  refine kK hK0 [2, 3, 4, 9] ?_
  refine JA fun K0 hK0 => ?_
  refine JA fun K1 hK1 => ?_
  refine Qz F_mixed [some 24, some 25, some 26, some 27, some 28, some 29, some 30] rfl ?_
  simp only [zzK, QR, QP, QQ, QU, JZ, zz5, Qj, Qi, Qh, and_self, JC, zz21, JM, zz34, JE, JF, zz29, zz30, zz13, JQ, JR, zz6, QO, ↓Qb]
  refine cgA F_go27 (fun hG => rightCur_ c) ?_
  simp only [zzK, QR, QP, QQ, QU, JZ, zz5, Qj, Qi, Qh, and_self, JC, zz21, JM, zz34, JE, JF, zz29, zz30, zz13, JQ, JR, zz6, QO, ↓Qb, atsL, oksG, JV, QZ, Qa, JO, Qm, QT, QS, zz9, QB, QA, zzC, yyF, zzD, zz2]
  refine kK hK1 [2, 3, 4, 9, 30] ?_
  refine cnA ?_ ?_
  ·intro hb
   have hb2 : rollE r = 0 ∧ curOk c = false := by simpa using hb
   clear hb
   obtain ⟨hr, hc⟩ := hb2
   have hr2 : (rollE r != 0) = false := by simp [hr]
   have hc2 : (!curOk c) = true := by simp [hc]
   refine pz ?_
   simp only [zzK, QR, QP, QQ, JB, zz6, QO, ↓Qb]
   refine kK hK0 [2, 3, 4, 9] ?_
   refine JA fun K0 hK0 => ?_
   refine pq fun K1 hK1 => ?_
   simp only [zzK, QR, QP, QQ, JC, zz21, JM, zz28, zz6, QO, ↓Qb]
   refine kK hK1 [2, 3, 4, 9, 32] ?_
   refine cnA ?_ ?_
   ·intro hb
    clear hb
    refine pq fun K2 hK2 => ?_
    simp only [zzK, QR, QP, QQ, JC, JB, zz6, QO, ↓Qb]
    refine kK hK2 [6, 7, 8] ?_
    refine awp_le (leK id [0, 1] (l' := [(6, .ref 0 0), (7, .ref 1 0), (8, .d (iv 3))]) (m' := [(0, (⟨True, 75, 4, true, true, 0, []⟩ : ARow)), (1, (⟨True, 81, 3, true, true, 1, []⟩ : ARow))])) ?_
    refine JJ ?_
    simp only [zz6, QO, ↓Qb]
    rw [show rfV ⟨nx, l⟩ r c = [] by simp only [rfV, show (rfE ⟨nx, l⟩ r c != 0) = true by simp only [rfE, he2, hr2, hc2, Qd, Qc] <;> first | assumption | rfl, Qd], show rfU ⟨nx, l⟩ r c = [] by simp only [rfU, show (rfE ⟨nx, l⟩ r c != 0) = true by simp only [rfE, he2, hr2, hc2, Qd, Qc] <;> first | assumption | rfl, Qd], show rfE ⟨nx, l⟩ r c = 3 by simp only [rfE, he2, hr2, hc2, Qd, Qc]]
    refine doneN [0, 1] (by simp [resCs, resC, S, List.getD, JD, lookR, legC, fdueC]) ?_ (by simp [Ja, Jb, Jc, ]) (by simp [QY, QX, ]) (by decide) ?_
    ·simp only [QD, QE, resA, JZ, S_mem, lookR_cons, lookR_nil, QR, QP, JD, QQ, Qd, Qc, JP, QI, QJ, QH, QL, QK, List.take_zero, legC, fdueC]; rfl
    ·exact ⟨⟨_, rfl, trivial, rfl, rfl, rfl, rfl⟩, by simp [flatDs, Jc, legC], ⟨_, rfl, trivial, rfl, rfl, rfl, rfl⟩, by simp [flatDs, Jc, fdueC], trivial⟩
   ·intro hb
    simp at hb
  ·intro hb
   have hb2 := hb
   clear hb
   refine JI ?_
   simp only [zz6, QO, ↓Qb]
   refine kK hK0 [2, 3, 4, 9] ?_
   refine JA fun K0 hK0 => ?_
   refine pq fun K1 hK1 => ?_
   simp only [zzK, QR, QP, QQ, JC, zz21, JM, zz28, zz6, QO, ↓Qb]
   refine kK hK1 [2, 3, 4, 9, 32] ?_
   refine cnA ?_ ?_
   ·intro hb
    have hr2 : (rollE r != 0) = true := hb
    clear hb
    refine pq fun K2 hK2 => ?_
    simp only [zzK, QR, QP, QQ, JC, JB, zz6, QO, ↓Qb]
    refine kK hK2 [6, 7, 8] ?_
    refine awp_le (leK id [0, 1] (l' := [(6, .ref 0 0), (7, .ref 1 0), (8, .d (iv (rollE r)))]) (m' := [(0, (⟨True, 75, 4, true, true, 0, []⟩ : ARow)), (1, (⟨True, 81, 3, true, true, 1, []⟩ : ARow))])) ?_
    refine JJ ?_
    simp only [zz6, QO, ↓Qb]
    rw [show rfV ⟨nx, l⟩ r c = [] by simp only [rfV, show (rfE ⟨nx, l⟩ r c != 0) = true by simp only [rfE, he2, hr2, Qd, Qc] <;> first | assumption | rfl, Qd], show rfU ⟨nx, l⟩ r c = [] by simp only [rfU, show (rfE ⟨nx, l⟩ r c != 0) = true by simp only [rfE, he2, hr2, Qd, Qc] <;> first | assumption | rfl, Qd], show rfE ⟨nx, l⟩ r c = rollE r by simp only [rfE, he2, hr2, Qd, Qc]]
    refine doneN [0, 1] (by simp [resCs, resC, S, List.getD, JD, lookR, legC, fdueC]) ?_ (by simp [Ja, Jb, Jc, ]) (by simp [QY, QX, ]) (by decide) ?_
    ·simp only [QD, QE, resA, JZ, S_mem, lookR_cons, lookR_nil, QR, QP, JD, QQ, Qd, Qc, JP, QI, QJ, QH, QL, QK, List.take_zero, legC, fdueC]; rfl
    ·exact ⟨⟨_, rfl, trivial, rfl, rfl, rfl, rfl⟩, by simp [flatDs, Jc, legC], ⟨_, rfl, trivial, rfl, rfl, rfl, rfl⟩, by simp [flatDs, Jc, fdueC], trivial⟩
   ·intro hb
    have hr2 : (rollE r != 0) = false := hb
    clear hb
    have hr : rollE r = 0 := by simpa using hr2
    have hc2 : (!curOk c) = false := by simpa [hr] using hb2
    clear hb2
    refine JI ?_
    simp only [zz6, QO, ↓Qb]
    refine kK hK0 [2, 3, 4] ?_
    refine pq fun K0 hK0 => ?_
    simp only [zzK, QR, QP, QQ, JB, zz6, QO, ↓Qb]
    refine kK hK0 [2, 3, 4, 10] ?_
    refine pq fun K0 hK0 => ?_
    simp only [zzK, QR, QP, QQ, JB, zz6, QO, ↓Qb]
    refine kK hK0 [2, 3, 4, 10, 11] ?_
    refine JA fun K0 hK0 => ?_
    refine pq fun K1 hK1 => ?_
    simp only [zzK, QR, QP, QQ, zz19, zz23, F_off29_0, zzH, QN, QS, F_ok25, F_ag25, F_sz25, zz8, zzD, zzC, QA, yyE, Qe, JE, zz12, F_sl25, Option.isSome_some, JC, JN, zz6, QO, ↓Qb]
    refine kK hK1 [2, 3, 10, 11, 35, 36, 37] ?_
    refine JH ?_
    refine JL (fun m s => ∃ (pre : List MemV) (post : List MemV), (r.mems = pre ++ post) ∧ m = post.length ∧ s = S 95 [(2, .d (iv c)), (3, .ptr 3 0 0), (10, .ref 10 (rfLs l c pre).length), (11, .ref 11 (rfDs l c pre).length), (35, .d (.sl 3 (r.mems.map memC))), (36, .d (iv r.mems.length)), (37, .d (iv pre.length))] [(3, (⟨True, 24, 2, true, false, 3, [[.d (iv nx), .d (.sl 4 (l.map legC))]]⟩ : ARow)), (10, grow 75 4 10 ((rfLs l c pre).map legC)), (11, grow 81 3 11 ((rfDs l c pre).map fdueC))]) (r.mems.length) _ (leK id [10, 11]) ⟨[], r.mems, rfl, rfl, rfl⟩ ?_
    rintro m s ⟨pre, post, hsp, rfl, rfl⟩
    have hspl := congrArg List.length hsp
    simp only [QC] at hspl
    have hLl := rfLs_len l c pre
    have hDl := rfDs_len l c pre
    refine pq fun K2 hK2 => ?_
    simp only [zzK, QR, QP, QQ, zz21, JM, zz22, zz6, QO, ↓Qb]
    refine kK hK2 [2, 3, 10, 11, 35, 36, 37, 38] ?_
    refine JA fun K2 hK2 => ?_
    refine cnA ?_ ?_
    ·intro hb
     obtain ⟨x, post2, rfl⟩ : ∃ x t, post = x :: t := by
      cases post with
      | nil => have := Qg hb; simp at hspl; omega
      | cons x t => exact ⟨x, t, rfl⟩
     clear hb
     simp only [QF] at hspl
     have gx : (r.mems.map memC).getD pre.length [] = [iv x.no, iv x.state, iv x.need] := by
      rw [hsp, List.map_append]; exact gd_mid' (A := pre.map memC) _ _ (by simp)
     have bx := ltI (show pre.length < r.mems.length by omega)
     have hwx : Ql .i64 ((pre.length : Int) + 1) = ((pre ++ [x]).length : Int) := by rw [wrapI (by omega) (by omega)]; simp
     refine JI ?_
     simp only [zz6, QO, ↓Qb]
     refine kK hK2 [2, 3, 10, 11, 35, 36, 37] ?_
     refine JA fun K2 hK2 => ?_
     refine JH ?_
     refine pq fun K3 hK3 => ?_
     simp only [zzK, QR, QP, QQ, JW, zz23, zz24, F_sl25, F_sz77, QA, zzC, yyE, Qe, F_ok77, F_ag77, zz8, zzD, QS, QN, zzH, zz32, JS, F_zero77, zz10, zz18, splice, QG, zz1, zzG, gx, bx, hwx, JN, ge0, QV, QW, zz6, QO, ↓Qb]
     refine kK hK3 [2, 3, 10, 11, 13, 35, 36, 37] ?_
     refine JA fun K3 hK3 => ?_
     refine pq fun K4 hK4 => ?_
     simp only [zzK, QR, QP, QQ, zz19, zz23, F_off77_1, zzH, QN, QS, F_ok3, F_ag3, F_sz3, zz8, zzD, zzC, QA, yyE, Qe, zz21, JM, zz28, zz6, QO, ↓Qb]
     refine kK hK4 [2, 3, 10, 11, 13, 35, 36, 37, 43] ?_
     refine cnA ?_ ?_
     ·intro hb
      have hx : (x.state != 1) = true := hb
      clear hb
      have hl0 : rfLs l c (pre ++ [x]) = rfLs l c pre := by rw [rfLs_snoc]; simp only [rfL1, hx, Qd, QG]
      have hd0 : rfDs l c (pre ++ [x]) = rfDs l c pre := by rw [rfDs_snoc]; simp only [rfD1, hx, Qd, QG]
      refine JK ?_
      simp only [zz6, QO, ↓Qb]
      refine kK hK2 [2, 3, 10, 11, 35, 36, 37] ?_
      refine pz ?_
      simp only [zzK, QR, QP, QQ, zz21, JM, zz26, JC, hwx, zz6, QO, ↓Qb]
      refine ⟨post2.length, _, by simp, leK id [] (hl := by simp only [leV, JD, QQ, Qd, Qc, hwx, hl0, hd0]; exact ⟨vA, vA, vA, vA, vA, vA, vA, trivial⟩) (hr := by exact ⟨fun _ => ⟨_, rfl, rA⟩, (by simp), fun _ => ⟨_, rfl, Qw (by rw [hl0])⟩, (by simp), fun _ => ⟨_, rfl, Qw (by rw [hd0])⟩, (by simp), trivial⟩), (pre ++ [x]), post2, by simp [hsp], rfl, rfl⟩
     ·intro hb
      have hx : (x.state != 1) = false := hb
      clear hb
      have hl1 : rfLs l c (pre ++ [x]) = rfLs l c pre ++ moveL ⟨2, x.no, c⟩ ⟨3, x.no, c⟩ (pyN l c x) := by rw [rfLs_snoc]; simp only [rfL1, hx, Qc]; rfl
      have hmv : (moveL ⟨2, x.no, c⟩ ⟨3, x.no, c⟩ (pyN l c x)).length = 2 := rfl
      have hk : (if (0 : Int) > Ql .i64 (x.need - ofL ⟨3, x.no, c⟩ l) then 0 else Ql .i64 (x.need - ofL ⟨3, x.no, c⟩ l)) = lkN l c x := rfl
      have hch : (if (0 : Int) > ofL ⟨2, x.no, c⟩ l then 0 else ofL ⟨2, x.no, c⟩ l) = chN l c x := rfl
      have hpy := py_eq l c x
      refine JI ?_
      simp only [zz6, QO, ↓Qb]
      refine kK hK3 [2, 3, 10, 11, 13, 35, 36, 37] ?_
      refine JA fun K3 hK3 => ?_
      refine awp_tree F_mixed [some 44, some 45, some 46, some 47, some 48, some 49, some 50, some 51, some 14, some 15, none, none] rfl (.one 0 (.one 1 (.one 2 (.one 3 (.one 4 (.one 6 (.one 8 (.one 9 (.two (.one 5 (.one 7 (.one 10 (.one 11 .nil)))) (.one 10 (.one 5 (.one 7 (.one 11 .nil))))))))))))) (by kernel_rfl) ?_
      simp only [zzK, QR, QP, QQ, zz19, zz23, F_off77_0, zzH, QN, QS, F_ok3, F_ag3, F_sz3, zz8, zzD, zzC, QA, yyE, Qe, JC, F_zero73, F_bld73, zz7, splice, Option.getD_some, QG, zz1, zzG, zz10, F_fld73_0, F_fld73_1, F_fld73_2, zz32, JS, zz18, F_ok73, F_sz73, acC, fAc, zz6, QO, ↓Qb, evT, List.getElem?_cons_zero, List.getElem?_cons_succ]
      refine kK hK3 [2, 3, 10, 11, 13, 14, 15, 35, 36, 37] ?_
      refine JA fun K3 hK3 => ?_
      refine awp_draw F_mixed [some 52, some 53, some 54, some 55, some 56, some 57, some 58, some 16] rfl (by kernel_rfl) ?_
      simp only [zzK, QR, QP, QQ, zz19, zz23, F_off77_2, zzH, QN, QS, F_ok3, F_ag3, F_sz3, zz8, zzD, zzC, QA, yyE, Qe, F_ok24, F_ag24, F_sz24, F_ok73, F_ag73, F_sz73, JE, JF, zz21, JM, zz33, zz11, grsL, QB, oksL, JB, ledC, legs, acC, fAc, hk, QW, zz6, QO, ↓Qb]
      refine cgA F_go43 (fun hG => of10_ nx l (fAc 3 x.no c) (by omega)) ?_
      simp only [zzK, QR, QP, QQ, zz19, zz23, F_off77_2, zzH, QN, QS, F_ok3, F_ag3, F_sz3, zz8, zzD, zzC, QA, yyE, Qe, F_ok24, F_ag24, F_sz24, F_ok73, F_ag73, F_sz73, JE, JF, zz21, JM, zz33, zz11, grsL, QB, oksL, JB, ledC, legs, acC, fAc, hk, QW, zz6, QO, ↓Qb, atsL, oksG, JV, QZ, Qa, JO, Qm, QT, QS, zz9, QB, QA, S_mem, yyF, QF, zz2]
      refine kK hK3 [2, 3, 10, 11, 13, 14, 15, 16, 35, 36, 37] ?_
      refine pq fun K3 hK3 => ?_
      simp only [zzK, QR, QP, QQ, JC, F_ok24, F_ag24, F_sz24, zz8, zz23, zzD, QS, QN, zzH, zzC, QA, yyE, Qe, F_ok73, F_ag73, F_sz73, JE, JF, zz11, grsL, JM, QB, oksL, evC_min, pure_min, mn_int, JB, ledC, legs, acC, fAc, hch, hpy, QW, zz6, QO, ↓Qb]
      refine cgA F_go43 (fun hG => of10_ nx l (fAc 2 x.no c) (by omega)) ?_
      simp only [zzK, QR, QP, QQ, JC, F_ok24, F_ag24, F_sz24, zz8, zz23, zzD, QS, QN, zzH, zzC, QA, yyE, Qe, F_ok73, F_ag73, F_sz73, JE, JF, zz11, grsL, JM, QB, oksL, evC_min, pure_min, mn_int, JB, ledC, legs, acC, fAc, hch, hpy, QW, zz6, QO, ↓Qb, atsL, oksG, JV, QZ, Qa, JO, Qm, QT, QS, zz9, QB, QA, S_mem, yyF, QF, zz2]
      refine kK hK3 [2, 3, 10, 11, 13, 14, 15, 16, 17, 35, 36, 37] ?_
      refine pq fun K3 hK3 => ?_
      simp only [zzK, QR, QP, QQ, JC, F_ok73, F_ag73, F_sz73, zz8, zz23, zzD, QS, QN, zzH, zzC, QA, yyE, Qe, JE, JF, F_sl41, F_zero75, F_sz75, F_by75, zz4, maxLen_le, QT, JS, zz9, QB, JB, acC, fAc, legs, grow, unDs_map, JN, hmv, QW, zz6, QO, ↓Qb]
      refine cgA F_go44 (fun hG => MoveF (fAc 2 x.no c) (fAc 3 x.no c) (pyN l c x)) ?_
      simp only [zzK, QR, QP, QQ, JC, F_ok73, F_ag73, F_sz73, zz8, zz23, zzD, QS, QN, zzH, zzC, QA, yyE, Qe, JE, JF, F_sl41, F_zero75, F_sz75, F_by75, zz4, maxLen_le, QT, JS, zz9, QB, JB, acC, fAc, legs, grow, unDs_map, JN, hmv, QW, zz6, QO, ↓Qb, atsL, oksG, JV, QZ, Qa, JO, Qm, QT, QS, unDs_cons, QB, QA, S_mem, yyF, QF, zz2]
      have hm : (rfLs l c pre).length + 1 + 1 ≤ 1000000 := by first | omega | (simp; omega)
      first | refine ⟨le_maxLen hm, by omega, ?_⟩ | refine ⟨by simp, le_maxLen hm, by omega, ?_⟩
      clear hm
      refine kK hK3 [2, 3, 10, 11, 13, 16, 17, 35, 36, 37] ?_
      refine pq fun K3 hK3 => ?_
      simp only [zzK, QR, QP, QQ, JC, zz21, JM, zz25, zz6, QO, ↓Qb]
      refine kK hK3 [2, 3, 10, 11, 13, 16, 17, 35, 36, 37, 73] ?_
      refine cnA ?_ ?_
      ·intro hb
       have hd1 : rfDs l c (pre ++ [x]) = rfDs l c pre ++ [⟨x.no, c, Ql .i64 (lkN l c x - pyN l c x)⟩] := by rw [rfDs_snoc]; simp only [rfD1, hx, show decide (lkN l c x > pyN l c x) = true from hb, Qd, Qc]
       clear hb
       refine pz ?_
       simp only [zzK, QR, QP, QQ, JC, zz19, zz23, F_off77_0, zzH, QN, QS, F_ok3, F_ag3, F_sz3, zz8, zzD, zzC, QA, yyE, Qe, zz21, JM, zz33, F_zero81, F_bld81, zz7, splice, Option.getD_some, QG, zz1, zzG, zz10, F_fld81_0, F_fld81_1, F_fld81_2, F_sl49, F_sz81, zz3, JS, maxLen_le, QT, JE, F_by81, zz4, zz9, QB, JB, fdueC, grow, unDs_map, QW, zz6, QO, ↓Qb]
       have hm : (rfDs l c pre).length + 1 ≤ 1000000 := by first | omega | (simp; omega)
       first | refine ⟨le_maxLen hm, by omega, ?_⟩ | refine ⟨by simp, le_maxLen hm, by omega, ?_⟩
       clear hm
       refine kK hK2 [2, 3, 10, 11, 35, 36, 37] ?_
       refine pz ?_
       simp only [zzK, QR, QP, QQ, zz21, JM, zz26, JC, hwx, zz6, QO, ↓Qb]
       refine ⟨post2.length, _, by simp, leK (fun r => bif r == 11 then 83 else bif r == 10 then 70 else r) [] (hl := by simp only [leV, JD, QQ, Qd, Qc, hwx]; exact ⟨vA, vA, (Qr (by simp) (by rfl) (by rw [hl1]; first | (simp; done) | (simp; rfl))), (Qr (by simp) (by rfl) (by rw [hd1]; first | (simp; done) | (simp; rfl))), vA, vA, vA, trivial⟩) (hr := by exact ⟨fun _ => ⟨_, rfl, rA⟩, (by simp), fun _ => ⟨_, rfl, Qw (by rw [hl1]; simp [fdueC])⟩, (by simp), fun _ => ⟨_, rfl, Qw (by rw [hd1]; simp [fdueC])⟩, (by simp), trivial⟩), (pre ++ [x]), post2, by simp [hsp], rfl, rfl⟩
      ·intro hb
       have hd0 : rfDs l c (pre ++ [x]) = rfDs l c pre := by rw [rfDs_snoc]; simp only [rfD1, hx, show decide (lkN l c x > pyN l c x) = false from hb, Qc, QG]
       clear hb
       refine JI ?_
       simp only [zz6, QO, ↓Qb]
       refine kK hK2 [2, 3, 10, 11, 35, 36, 37] ?_
       refine pz ?_
       simp only [zzK, QR, QP, QQ, zz21, JM, zz26, JC, hwx, zz6, QO, ↓Qb]
       refine ⟨post2.length, _, by simp, leK (fun r => bif r == 10 then 70 else r) [] (hl := by simp only [leV, JD, QQ, Qd, Qc, hwx, hd0]; exact ⟨vA, vA, (Qr (by simp) (by rfl) (by rw [hl1]; first | (simp; done) | (simp; rfl))), vA, vA, vA, vA, trivial⟩) (hr := by exact ⟨fun _ => ⟨_, rfl, rA⟩, (by simp), fun _ => ⟨_, rfl, Qw (by rw [hl1]; simp [fdueC])⟩, (by simp), fun _ => ⟨_, rfl, Qw (by rw [hd0])⟩, (by simp), trivial⟩), (pre ++ [x]), post2, by simp [hsp], rfl, rfl⟩
    ·intro hb
     obtain rfl : post = [] := by
      cases post with
      | nil => rfl
      | cons x t => have := Qf hb; simp at hspl; omega
     clear hb
     simp only [QG] at hsp
     subst hsp
     refine JK ?_
     simp only [zz6, QO, ↓Qb]
     refine kK hK0 [10, 11] ?_
     refine pq fun K0 hK0 => ?_
     simp only [zzK, QR, QP, QQ, JC, JE, JF, zz14, zzD, QS, QN, zzF, JB, legs, grow, JN, zz6, QO, ↓Qb]
     refine cgA F_go45 (fun hG => Join_ (rfLs l c r.mems) (by omega)) ?_
     simp only [zzK, QR, QP, QQ, JC, JE, JF, zz14, zzD, QS, QN, zzF, JB, legs, grow, JN, zz6, QO, ↓Qb, atsL, oksG, JV, QZ, Qa, JO, Qm, QT, QS, zz9, QB, QA, zzC, yyF, QF, zz2]
     refine kK hK0 [9, 10, 11] ?_
     refine JA fun K0 hK0 => ?_
     refine pq fun K1 hK1 => ?_
     simp only [zzK, QR, QP, QQ, JC, zz21, JM, zz28, zz6, QO, ↓Qb]
     refine kK hK1 [9, 10, 11, 91] ?_
     refine cnA ?_ ?_
     ·intro hb
      have hj : (joinR (rfLs l c r.mems) != 0) = true := hb
      clear hb
      refine pq fun K2 hK2 => ?_
      simp only [zzK, QR, QP, QQ, JC, JB, zz6, QO, ↓Qb]
      refine kK hK2 [6, 7, 8] ?_
      refine awp_le (leK id [0, 1] (l' := [(6, .ref 0 0), (7, .ref 1 0), (8, .d (iv (joinR (rfLs l c r.mems))))]) (m' := [(0, (⟨True, 75, 4, true, true, 0, []⟩ : ARow)), (1, (⟨True, 81, 3, true, true, 1, []⟩ : ARow))])) ?_
      refine JJ ?_
      simp only [zz6, QO, ↓Qb]
      rw [show rfV ⟨nx, l⟩ r c = [] by simp only [rfV, show (rfE ⟨nx, l⟩ r c != 0) = true by simp only [rfE, he2, hr2, hc2, Qd, Qc] <;> first | assumption | rfl, Qd], show rfU ⟨nx, l⟩ r c = [] by simp only [rfU, show (rfE ⟨nx, l⟩ r c != 0) = true by simp only [rfE, he2, hr2, hc2, Qd, Qc] <;> first | assumption | rfl, Qd], show rfE ⟨nx, l⟩ r c = joinR (rfLs l c r.mems) by simp only [rfE, he2, hr2, hc2, Qd, Qc]]
      refine doneN [0, 1] (by simp [resCs, resC, S, List.getD, JD, lookR, legC, fdueC]) ?_ (by simp [Ja, Jb, Jc, ]) (by simp [QY, QX, ]) (by decide) ?_
      ·simp only [QD, QE, resA, JZ, S_mem, lookR_cons, lookR_nil, QR, QP, JD, QQ, Qd, Qc, JP, QI, QJ, QH, QL, QK, List.take_zero, legC, fdueC]; rfl
      ·exact ⟨⟨_, rfl, trivial, rfl, rfl, rfl, rfl⟩, by simp [flatDs, Jc, legC], ⟨_, rfl, trivial, rfl, rfl, rfl, rfl⟩, by simp [flatDs, Jc, fdueC], trivial⟩
     ·intro hb
      have hj : (joinR (rfLs l c r.mems) != 0) = false := hb
      clear hb
      have e0 : rfE ⟨nx, l⟩ r c = joinR (rfLs l c r.mems) := by simp only [rfE, he2, hr2, hc2, Qc]
      have e4 : joinR (rfLs l c r.mems) = 0 := by simpa using hj
      have e1 : rfV ⟨nx, l⟩ r c = joinV (rfLs l c r.mems) := by simp only [rfV, e0, hj, Qc]
      have e2 : rfU ⟨nx, l⟩ r c = rfDs l c r.mems := by simp only [rfU, e0, hj, Qc]
      refine JI ?_
      simp only [zz6, QO, ↓Qb]
      refine kK hK0 [10, 11] ?_
      refine pq fun K0 hK0 => ?_
      simp only [zzK, QR, QP, QQ, JC, JB, zz6, QO, ↓Qb]
      refine kK hK0 [6, 7, 8] ?_
      refine awp_le (leK id [] (l' := [(6, .ref 88000 (joinV (rfLs l c r.mems)).length), (7, .ref 11 (rfDs l c r.mems).length), (8, .d (iv 0))]) (m' := [(88000, (⟨True, 75, 4, true, true, 88000, ((joinV (rfLs l c r.mems)).map legC).map (·.map .d)⟩ : ARow)), (11, (⟨True, 81, 3, true, true, 11, ((rfDs l c r.mems).map fdueC).map (·.map .d)⟩ : ARow))]) (hr := by exact ⟨fun _ => (by refine ⟨_, rfl, ?_⟩; first | exact RowLe.uq_ (by rfl) (by simp) ids_data | exact RowLe.uq2 (by first | rfl | simp) (by simp) ids_data | exact RowLe.same rfl ids_data), (by simp), fun _ => (by refine ⟨_, rfl, ?_⟩; first | exact RowLe.uq_ (by rfl) (by simp) ids_data | exact RowLe.uq2 (by first | rfl | simp) (by simp) ids_data | exact RowLe.same rfl ids_data), (by simp), trivial⟩) (hwr := by simp [wfR, QX, QY, lookR, legC, fdueC])) ?_
      refine JJ ?_
      simp only [zz6, QO, ↓Qb]
      rw [e0, e1, e2, e4]
      refine doneN [88000, 11] (by simp [resCs, resC, S, List.getD, JD, lookR, legC, fdueC]) ?_ (by simp [Ja, Jb, Jc, ]) (by simp [QY, QX, ]) (by decide) ?_
      ·simp only [QD, QE, resA, JZ, S_mem, lookR_cons, lookR_nil, QR, QP, JD, QQ, Qd, Qc, JP, QI, QJ, QH, QL, QK, List.take_zero, legC, fdueC]; rfl
      ·exact ⟨⟨_, rfl, trivial, rfl, rfl, rfl, rfl⟩, by simp [flatDs, Jc, legC], ⟨_, rfl, trivial, rfl, rfl, rfl, rfl⟩, by simp [flatDs, Jc, fdueC], trivial⟩
 ·intro hb
  have he : (ledE ⟨nx, l⟩ != 0) = true := by cases h : ledE ⟨nx, l⟩ != 0 with
   | true => rfl
   | false => simp at h; rw [h] at hb; cases hb
  clear hb
  have he3 : ledE ⟨nx, l⟩ ≠ 0 := by simpa using he
  refine JI ?_
  simp only [zz6, QO, ↓Qb]
  refine kK hK0 [2, 3, 4, 9] ?_
  refine JA fun K0 hK0 => ?_
  refine JA fun K1 hK1 => ?_
  refine Qz F_mixed [some 24, some 25, some 26, some 27, some 28, some 29, some 30] rfl ?_
  simp only [zzK, QR, QP, QQ, QU, JZ, zz5, Qj, Qi, Qh, and_self, JC, zz21, JM, zz34, JE, JF, zz29, zz30, zz13, JQ, JR, zz6, QO, ↓Qb]
  refine cgA F_go27 (fun hG => rightCur_ c) ?_
  simp only [zzK, QR, QP, QQ, QU, JZ, zz5, Qj, Qi, Qh, and_self, JC, zz21, JM, zz34, JE, JF, zz29, zz30, zz13, JQ, JR, zz6, QO, ↓Qb, atsL, oksG, JV, QZ, Qa, JO, Qm, QT, QS, zz9, QB, QA, zzC, yyF, zzD, zz2]
  refine kK hK1 [2, 3, 4, 9, 30] ?_
  refine cnA ?_ ?_
  ·intro hb
   simp [he3] at hb
  ·intro hb
   clear hb
   refine JI ?_
   simp only [zz6, QO, ↓Qb]
   refine kK hK0 [2, 3, 4, 9] ?_
   refine JA fun K0 hK0 => ?_
   refine pq fun K1 hK1 => ?_
   simp only [zzK, QR, QP, QQ, JC, zz21, JM, zz28, zz6, QO, ↓Qb]
   refine kK hK1 [2, 3, 4, 9, 32] ?_
   refine cnA ?_ ?_
   ·intro hb
    clear hb
    refine pq fun K2 hK2 => ?_
    simp only [zzK, QR, QP, QQ, JC, JB, zz6, QO, ↓Qb]
    refine kK hK2 [6, 7, 8] ?_
    refine awp_le (leK id [0, 1] (l' := [(6, .ref 0 0), (7, .ref 1 0), (8, .d (iv (ledE ⟨nx, l⟩)))]) (m' := [(0, (⟨True, 75, 4, true, true, 0, []⟩ : ARow)), (1, (⟨True, 81, 3, true, true, 1, []⟩ : ARow))])) ?_
    refine JJ ?_
    simp only [zz6, QO, ↓Qb]
    rw [show rfV ⟨nx, l⟩ r c = [] by simp only [rfV, show (rfE ⟨nx, l⟩ r c != 0) = true by simp only [rfE, he, Qd, Qc] <;> first | assumption | rfl, Qd], show rfU ⟨nx, l⟩ r c = [] by simp only [rfU, show (rfE ⟨nx, l⟩ r c != 0) = true by simp only [rfE, he, Qd, Qc] <;> first | assumption | rfl, Qd], show rfE ⟨nx, l⟩ r c = ledE ⟨nx, l⟩ by simp only [rfE, he, Qd, Qc]]
    refine doneN [0, 1] (by simp [resCs, resC, S, List.getD, JD, lookR, legC, fdueC]) ?_ (by simp [Ja, Jb, Jc, ]) (by simp [QY, QX, ]) (by decide) ?_
    ·simp only [QD, QE, resA, JZ, S_mem, lookR_cons, lookR_nil, QR, QP, JD, QQ, Qd, Qc, JP, QI, QJ, QH, QL, QK, List.take_zero, legC, fdueC]; rfl
    ·exact ⟨⟨_, rfl, trivial, rfl, rfl, rfl, rfl⟩, by simp [flatDs, Jc, legC], ⟨_, rfl, trivial, rfl, rfl, rfl, rfl⟩, by simp [flatDs, Jc, fdueC], trivial⟩
   ·intro hb
    simp [he3] at hb
end Go.Proofs.YtjkfadaedgidpaaGreat
