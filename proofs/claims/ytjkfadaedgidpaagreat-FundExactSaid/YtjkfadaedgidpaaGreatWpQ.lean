import Derived.Test.YtjkfadaedgidpaaGreatWpI
namespace Go.Proofs.YtjkfadaedgidpaaGreat
open Go.RowKit
set_option linter.unusedVariables false
set_option linter.unusedSimpArgs false
open Option renaming map_some → QA, bind_some → QB
open List renaming map_cons → QD, map_nil → QE, length_cons → QF, append_nil → QG, drop_zero → QH, getD_cons_zero → QI, getD_cons_succ → QJ, take_succ_cons → QK, drop_succ_cons → QL
open Nat renaming zero_add → QN, reduceEqDiff → QO, reduceLeDiff → QP, reduceBEq → QQ, reduceLT → QR, reduceAdd → QS, reduceMul → QT, reduceSub → QU
open D.agg renaming injEq → QW
open AV renaming ren → QZ, renL → Qa
open _root_ renaming reduceIte → Qb, cond_false → Qc, cond_true → Qd, reduceCtorEq → Qe, imp_self → Qh, imp_and → Qi, and_imp → Qj
open ORow renaming row → Qm
open VLe renaming refl → Qn
open Go.Proofs.YtjkfadaedgidpaaGreat renaming awp_plain → Qz, awp_seq → JA, evS_assign → JB, evS_move → JC, look_cons → JD, evS_call → JE, evC_value → JF, awp_block → JH, awp_skip → JI, awp_ret → JJ, awp_exit → JK, awp_loop → JL, gr_v → JM, len_map → JN, addRows → JO, resAll → JP, pickK_l → JQ, pickK_r → JR, newRow1 → JS, freeN → JV, evS_indexAddr → JW, S_getD → JZ
theorem F_go87 : goFn Tryz.prog 87 := ⟨_, Tryz.func87, rfl, rfl⟩
theorem F_off77_0 : offT Tryz.prog 77 0 = some 0 := by kernel_rfl
theorem F_off77_1 : offT Tryz.prog 77 1 = some 1 := by kernel_rfl
theorem F_off77_2 : offT Tryz.prog 77 2 = some 2 := by kernel_rfl
theorem F_go66 : goFn Tryz.prog 66 := ⟨_, Tryz.func66, rfl, rfl⟩
theorem F_off118_0 : offT Tryz.prog 118 0 = some 0 := by kernel_rfl
theorem F_off118_1 : offT Tryz.prog 118 1 = some 1 := by kernel_rfl
theorem F_off118_2 : offT Tryz.prog 118 2 = some 2 := by kernel_rfl
theorem F_off118_3 : offT Tryz.prog 118 3 = some 3 := by kernel_rfl
theorem F_go42 : goFn Tryz.prog 42 := ⟨_, Tryz.func42, rfl, rfl⟩
theorem F_off113_6 : offT Tryz.prog 113 6 = some 6 := by kernel_rfl
theorem F_arr111 : arrT Tryz.prog 111 = some (6, 3) := by kernel_rfl
theorem F_off113_0 : offT Tryz.prog 113 0 = some 0 := by kernel_rfl
theorem F_off113_1 : offT Tryz.prog 113 1 = some 1 := by kernel_rfl
theorem F_off113_2 : offT Tryz.prog 113 2 = some 2 := by kernel_rfl
theorem F_off113_3 : offT Tryz.prog 113 3 = some 3 := by kernel_rfl
theorem F_off113_4 : offT Tryz.prog 113 4 = some 4 := by kernel_rfl
theorem F_off113_5 : offT Tryz.prog 113 5 = some 5 := by kernel_rfl
theorem F_off29_0 : offT Tryz.prog 29 0 = some 0 := by kernel_rfl
theorem F_ok25 : tyOk Tryz.prog 25 = true := by kernel_rfl
theorem F_ag25 : aggT Tryz.prog 25 = false := by kernel_rfl
theorem F_sz25 : szT Tryz.prog 25 = 1 := by kernel_rfl
theorem F_sl25 : sliceT Tryz.prog 25 = some 77 := by kernel_rfl
theorem F_sz77 : szT Tryz.prog 77 = 3 := by kernel_rfl
theorem F_ok77 : tyOk Tryz.prog 77 = true := by kernel_rfl
theorem F_ag77 : aggT Tryz.prog 77 = true := by kernel_rfl
theorem F_go80 : goFn Tryz.prog 80 := ⟨_, Tryz.func80, rfl, rfl⟩
theorem F_off29_1 : offT Tryz.prog 29 1 = some 1 := by kernel_rfl
theorem F_ok26 : tyOk Tryz.prog 26 = true := by kernel_rfl
theorem F_ag26 : aggT Tryz.prog 26 = false := by kernel_rfl
theorem F_sz26 : szT Tryz.prog 26 = 1 := by kernel_rfl
theorem F_sl26 : sliceT Tryz.prog 26 = some 113 := by kernel_rfl
theorem F_sz113 : szT Tryz.prog 113 = 12 := by kernel_rfl
theorem F_ok113 : tyOk Tryz.prog 113 = true := by kernel_rfl
theorem F_ag113 : aggT Tryz.prog 113 = true := by kernel_rfl
theorem F_go81 : goFn Tryz.prog 81 := ⟨_, Tryz.func81, rfl, rfl⟩
theorem F_off29_2 : offT Tryz.prog 29 2 = some 2 := by kernel_rfl
theorem F_ok27 : tyOk Tryz.prog 27 = true := by kernel_rfl
theorem F_ag27 : aggT Tryz.prog 27 = false := by kernel_rfl
theorem F_sz27 : szT Tryz.prog 27 = 1 := by kernel_rfl
theorem F_sl27 : sliceT Tryz.prog 27 = some 118 := by kernel_rfl
theorem F_sz118 : szT Tryz.prog 118 = 4 := by kernel_rfl
theorem F_ok118 : tyOk Tryz.prog 118 = true := by kernel_rfl
theorem F_ag118 : aggT Tryz.prog 118 = true := by kernel_rfl
theorem F_go82 : goFn Tryz.prog 82 := ⟨_, Tryz.func82, rfl, rfl⟩
theorem F_zero77 : zeroT Tryz.prog 77 = some [(.int .i64 0), (.int .i64 0), (.int .i64 0)] := by kernel_rfl
theorem F_bld77 : bldT Tryz.prog 77 = true := by kernel_rfl
theorem rIn_ (n lo hi : Int) : ACalls Tryz.prog 87 [iv n, iv lo, iv hi] [] (bv (inR n lo hi)) := by
 refine acalls_S (rs := [.tmp 6]) Tryz.func87 rfl rfl 15 [(0, .d (iv n)), (1, .d (iv lo)), (2, .d (iv hi))] rfl (by simp) rfl ?_
 refine pq fun K0 hK0 => ?_
 simp only [zzK, QR, QP, QQ, JB, zz6, QO, ↓Qb]
 refine kK hK0 [0, 1, 2] ?_
 refine JA fun K0 hK0 => ?_
 refine Qz F_mixed [some 7, some 8, some 9, some 10, some 11, some 12, some 13, some 14, some 6] rfl ?_
 simp only [zzK, QR, QP, QQ, QU, JZ, zz5, Qj, Qi, Qh, and_self, JC, zz21, JM, zz31, b_leq, pure_leq, zz13, JQ, JR, JB, zz6, QO, ↓Qb]
 refine kK hK0 [6] ?_
 refine JJ ?_
 simp only [zz6, QO, ↓Qb]
 refine dnA ?_
 simp only [QD, QE, resA, JZ, QR, QP, JD, QQ, Qd, Qc, JP]
 rfl
theorem rWho_ (n : Int) : ACalls Tryz.prog 66 [iv n] [] (bv (inR n 1 16)) := by
 refine acalls_S (rs := [.tmp 2]) Tryz.func66 rfl rfl 5 [(0, .d (iv n))] rfl (by simp) rfl ?_
 refine pq fun K0 hK0 => ?_
 simp only [zzK, QR, QP, QQ, JB, zz6, QO, ↓Qb]
 refine kK hK0 [0] ?_
 refine pq fun K0 hK0 => ?_
 simp only [zzK, QR, QP, QQ, JC, JE, JF, JB, zz6, QO, ↓Qb]
 refine cgA F_go87 (fun hG => rIn_ n 1 16) ?_
 simp only [zzK, QR, QP, QQ, JC, JE, JF, JB, zz6, QO, ↓Qb, atsL, oksG, JV, QZ, Qa, JO, Qm, QT, QS, zz9, QB, QA, zzC, yyF, zzD, zz2]
 refine kK hK0 [2] ?_
 refine JJ ?_
 simp only [zz6, QO, ↓Qb]
 refine dnA ?_
 simp only [QD, QE, resA, JZ, QR, QP, JD, QQ, Qd, Qc, JP]
 
theorem rCur_ (n : Int) : ACalls Tryz.prog 42 [iv n] [] (bv (inR n 0 2)) := by
 refine acalls_S (rs := [.tmp 2]) Tryz.func42 rfl rfl 5 [(0, .d (iv n))] rfl (by simp) rfl ?_
 refine pq fun K0 hK0 => ?_
 simp only [zzK, QR, QP, QQ, JB, zz6, QO, ↓Qb]
 refine kK hK0 [0] ?_
 refine pq fun K0 hK0 => ?_
 simp only [zzK, QR, QP, QQ, JC, JE, JF, JB, zz6, QO, ↓Qb]
 refine cgA F_go87 (fun hG => rIn_ n 0 2) ?_
 simp only [zzK, QR, QP, QQ, JC, JE, JF, JB, zz6, QO, ↓Qb, atsL, oksG, JV, QZ, Qa, JO, Qm, QT, QS, zz9, QB, QA, zzC, yyF, zzD, zz2]
 refine kK hK0 [2] ?_
 refine JJ ?_
 simp only [zz6, QO, ↓Qb]
 refine dnA ?_
 simp only [QD, QE, resA, JZ, QR, QP, JD, QQ, Qd, Qc, JP]
 
theorem memOk_ref (m : MemV) : (inR m.no 1 16 && inR m.state 1 3 && inR m.need 0 4611686018427387904) = memOk m := by
 unfold memOk
 rw [Bool.and_assoc _ ([m.need].all rightN)]
 congr 1
 simp only [inR, rightN, List.all_cons, List.all_nil, Bool.and_true]
 rw [Bool.eq_iff_iff]
 simp
 omega
theorem rMemOk_ (m : MemV) : ACalls Tryz.prog 80 [.agg (memC m)] [] (bv (memOk m)) := by
 refine acalls_S (rs := [.tmp 2]) Tryz.func80 rfl rfl 16 [(0, .d (.agg (memC m)))] rfl (by simp) rfl ?_
 refine pq fun K0 hK0 => ?_
 simp only [zzK, QR, QP, QQ, zz35, JS, zz1, zzG, zzD, zzC, QA, yyE, Qe, QS, QN, zzH, JB, memC, zz6, QO, ↓Qb]
 refine kK hK0 [1] ?_
 refine JA fun K0 hK0 => ?_
 refine Qz F_mixed [some 3, some 4, some 5, some 6, some 7, some 8, some 9, some 10, some 11, some 12, some 13, some 14, some 15, some 2] rfl ?_
 simp only [zzK, QR, QP, QQ, QU, JZ, zz5, Qj, Qi, Qh, zz19, zz23, F_off77_0, zzH, QN, QS, F_ok3, F_ag3, F_sz3, zz8, zzD, zzC, QA, yyE, Qe, JE, JF, JC, F_off77_1, zz13, JQ, JR, F_off77_2, JB, zz6, QO, ↓Qb]
 refine cgA F_go66 (fun hG => rWho_ m.no) ?_
 simp only [zzK, QR, QP, QQ, QU, JZ, zz5, Qj, Qi, Qh, zz19, zz23, F_off77_0, zzH, QN, QS, F_ok3, F_ag3, F_sz3, zz8, zzD, zzC, QA, yyE, Qe, JE, JF, JC, F_off77_1, zz13, JQ, JR, F_off77_2, JB, zz6, QO, ↓Qb, atsL, oksG, JV, QZ, Qa, JO, Qm, QT, QS, zz9, QB, QA, S_mem, yyF, QF, zz2]
 refine cgA F_go87 (fun hG => rIn_ m.state 1 3) ?_
 simp only [zzK, QR, QP, QQ, QU, JZ, zz5, Qj, Qi, Qh, zz19, zz23, F_off77_0, zzH, QN, QS, F_ok3, F_ag3, F_sz3, zz8, zzD, zzC, QA, yyE, Qe, JE, JF, JC, F_off77_1, zz13, JQ, JR, F_off77_2, JB, zz6, QO, ↓Qb, atsL, oksG, JV, QZ, Qa, JO, Qm, QT, QS, zz9, QB, QA, S_mem, yyF, QF, zz2]
 refine cgA F_go87 (fun hG => rIn_ m.need 0 4611686018427387904) ?_
 simp only [zzK, QR, QP, QQ, QU, JZ, zz5, Qj, Qi, Qh, zz19, zz23, F_off77_0, zzH, QN, QS, F_ok3, F_ag3, F_sz3, zz8, zzD, zzC, QA, yyE, Qe, JE, JF, JC, F_off77_1, zz13, JQ, JR, F_off77_2, JB, zz6, QO, ↓Qb, atsL, oksG, JV, QZ, Qa, JO, Qm, QT, QS, zz9, QB, QA, S_mem, yyF, QF, zz2]
 refine kK hK0 [2] ?_
 refine JJ ?_
 simp only [zz6, QO, ↓Qb]
 refine dnA ?_
 simp only [QD, QE, resA, JZ, QR, QP, JD, QQ, Qd, Qc, JP]
 rw [memOk_ref]
theorem rAssetOk_ (m : AssetV) : ACalls Tryz.prog 82 [.agg (assetC m)] [] (bv (assetOk m)) := by
 refine acalls_S (rs := [.tmp 2]) Tryz.func82 rfl rfl 21 [(0, .d (.agg (assetC m)))] rfl (by simp) rfl ?_
 refine pq fun K0 hK0 => ?_
 simp only [zzK, QR, QP, QQ, zz35, JS, zz1, zzG, zzD, zzC, QA, yyE, Qe, QS, QN, zzH, JB, assetC, zz6, QO, ↓Qb]
 refine kK hK0 [1] ?_
 refine JA fun K0 hK0 => ?_
 refine Qz F_mixed [some 3, some 4, some 5, some 6, some 7, some 8, some 9, some 10, some 11, some 12, some 13, some 14, some 15, some 16, some 17, some 18, some 19, some 20, some 2] rfl ?_
 simp only [zzK, QR, QP, QQ, QU, JZ, zz5, Qj, Qi, Qh, zz19, zz23, F_off118_0, zzH, QN, QS, F_ok3, F_ag3, F_sz3, zz8, zzD, zzC, QA, yyE, Qe, JE, JF, JC, F_off118_1, zz13, JQ, JR, F_off118_2, F_off118_3, JB, zz6, QO, ↓Qb]
 refine cgA F_go87 (fun hG => rIn_ m.no 1 6) ?_
 simp only [zzK, QR, QP, QQ, QU, JZ, zz5, Qj, Qi, Qh, zz19, zz23, F_off118_0, zzH, QN, QS, F_ok3, F_ag3, F_sz3, zz8, zzD, zzC, QA, yyE, Qe, JE, JF, JC, F_off118_1, zz13, JQ, JR, F_off118_2, F_off118_3, JB, zz6, QO, ↓Qb, atsL, oksG, JV, QZ, Qa, JO, Qm, QT, QS, zz9, QB, QA, S_mem, yyF, QF, zz2]
 refine cgA F_go42 (fun hG => rCur_ m.cur) ?_
 simp only [zzK, QR, QP, QQ, QU, JZ, zz5, Qj, Qi, Qh, zz19, zz23, F_off118_0, zzH, QN, QS, F_ok3, F_ag3, F_sz3, zz8, zzD, zzC, QA, yyE, Qe, JE, JF, JC, F_off118_1, zz13, JQ, JR, F_off118_2, F_off118_3, JB, zz6, QO, ↓Qb, atsL, oksG, JV, QZ, Qa, JO, Qm, QT, QS, zz9, QB, QA, S_mem, yyF, QF, zz2]
 refine cgA F_go87 (fun hG => rIn_ m.price 1 1073741824) ?_
 simp only [zzK, QR, QP, QQ, QU, JZ, zz5, Qj, Qi, Qh, zz19, zz23, F_off118_0, zzH, QN, QS, F_ok3, F_ag3, F_sz3, zz8, zzD, zzC, QA, yyE, Qe, JE, JF, JC, F_off118_1, zz13, JQ, JR, F_off118_2, F_off118_3, JB, zz6, QO, ↓Qb, atsL, oksG, JV, QZ, Qa, JO, Qm, QT, QS, zz9, QB, QA, S_mem, yyF, QF, zz2]
 refine cgA F_go87 (fun hG => rIn_ m.cut 0 10000) ?_
 simp only [zzK, QR, QP, QQ, QU, JZ, zz5, Qj, Qi, Qh, zz19, zz23, F_off118_0, zzH, QN, QS, F_ok3, F_ag3, F_sz3, zz8, zzD, zzC, QA, yyE, Qe, JE, JF, JC, F_off118_1, zz13, JQ, JR, F_off118_2, F_off118_3, JB, zz6, QO, ↓Qb, atsL, oksG, JV, QZ, Qa, JO, Qm, QT, QS, zz9, QB, QA, S_mem, yyF, QF, zz2]
 refine kK hK0 [2] ?_
 refine JJ ?_
 simp only [zz6, QO, ↓Qb]
 refine dnA ?_
 simp only [QD, QE, resA, JZ, QR, QP, JD, QQ, Qd, Qc, JP]
 rfl
theorem rInstOk_ (i : InstV) : ACalls Tryz.prog 81 [.agg (instC i)] [] (bv (instOk i)) := by
 refine acalls_S (rs := [.tmp 2]) Tryz.func81 rfl rfl 42 [(0, .d (.agg (instC i)))] rfl (by simp) rfl ?_
 refine pq fun K0 hK0 => ?_
 simp only [zzK, QR, QP, QQ, zz35, JS, zz1, zzG, zzD, zzC, QA, yyE, Qe, QS, QN, zzH, JB, instC, zz6, QO, ↓Qb]
 refine kK hK0 [1] ?_
 refine JA fun K0 hK0 => ?_
 refine pq fun K1 hK1 => ?_
 simp only [zzK, QR, QP, QQ, JB, zz6, QO, ↓Qb]
 refine kK hK1 [1, 3] ?_
 refine JH ?_
 refine JL (fun m s => (m = 6 ∧ s = S 42 [(1, .ptr 1 0 0), (3, .d (iv 0))] [(1, (⟨True, 113, 12, true, false, 1, [[.d (iv i.no), .d (iv i.cur), .d (iv i.mult), .d (iv i.add), .d (iv i.set), .d (iv i.price), .d (iv i.s0), .d (iv i.s1), .d (iv i.s2), .d (iv i.s3), .d (iv i.s4), .d (iv i.s5)]]⟩ : ARow))]) ∨ (m = 5 ∧ shOk i.s0 = true ∧ s = S 42 [(1, .ptr 1 0 0), (3, .d (iv 1))] [(1, (⟨True, 113, 12, true, false, 1, [[.d (iv i.no), .d (iv i.cur), .d (iv i.mult), .d (iv i.add), .d (iv i.set), .d (iv i.price), .d (iv i.s0), .d (iv i.s1), .d (iv i.s2), .d (iv i.s3), .d (iv i.s4), .d (iv i.s5)]]⟩ : ARow))]) ∨ (m = 4 ∧ shOk i.s0 = true ∧ shOk i.s1 = true ∧ s = S 42 [(1, .ptr 1 0 0), (3, .d (iv 2))] [(1, (⟨True, 113, 12, true, false, 1, [[.d (iv i.no), .d (iv i.cur), .d (iv i.mult), .d (iv i.add), .d (iv i.set), .d (iv i.price), .d (iv i.s0), .d (iv i.s1), .d (iv i.s2), .d (iv i.s3), .d (iv i.s4), .d (iv i.s5)]]⟩ : ARow))]) ∨ (m = 3 ∧ shOk i.s0 = true ∧ shOk i.s1 = true ∧ shOk i.s2 = true ∧ s = S 42 [(1, .ptr 1 0 0), (3, .d (iv 3))] [(1, (⟨True, 113, 12, true, false, 1, [[.d (iv i.no), .d (iv i.cur), .d (iv i.mult), .d (iv i.add), .d (iv i.set), .d (iv i.price), .d (iv i.s0), .d (iv i.s1), .d (iv i.s2), .d (iv i.s3), .d (iv i.s4), .d (iv i.s5)]]⟩ : ARow))]) ∨ (m = 2 ∧ shOk i.s0 = true ∧ shOk i.s1 = true ∧ shOk i.s2 = true ∧ shOk i.s3 = true ∧ s = S 42 [(1, .ptr 1 0 0), (3, .d (iv 4))] [(1, (⟨True, 113, 12, true, false, 1, [[.d (iv i.no), .d (iv i.cur), .d (iv i.mult), .d (iv i.add), .d (iv i.set), .d (iv i.price), .d (iv i.s0), .d (iv i.s1), .d (iv i.s2), .d (iv i.s3), .d (iv i.s4), .d (iv i.s5)]]⟩ : ARow))]) ∨ (m = 1 ∧ shOk i.s0 = true ∧ shOk i.s1 = true ∧ shOk i.s2 = true ∧ shOk i.s3 = true ∧ shOk i.s4 = true ∧ s = S 42 [(1, .ptr 1 0 0), (3, .d (iv 5))] [(1, (⟨True, 113, 12, true, false, 1, [[.d (iv i.no), .d (iv i.cur), .d (iv i.mult), .d (iv i.add), .d (iv i.set), .d (iv i.price), .d (iv i.s0), .d (iv i.s1), .d (iv i.s2), .d (iv i.s3), .d (iv i.s4), .d (iv i.s5)]]⟩ : ARow))]) ∨ (m = 0 ∧ shOk i.s0 = true ∧ shOk i.s1 = true ∧ shOk i.s2 = true ∧ shOk i.s3 = true ∧ shOk i.s4 = true ∧ shOk i.s5 = true ∧ s = S 42 [(1, .ptr 1 0 0), (3, .d (iv 6))] [(1, (⟨True, 113, 12, true, false, 1, [[.d (iv i.no), .d (iv i.cur), .d (iv i.mult), .d (iv i.add), .d (iv i.set), .d (iv i.price), .d (iv i.s0), .d (iv i.s1), .d (iv i.s2), .d (iv i.s3), .d (iv i.s4), .d (iv i.s5)]]⟩ : ARow))])) 6 _ (leK id [] (hr := by exact ⟨fun _ => ⟨_, rfl, ⟨id, rfl, rfl, fun _ => rfl, id, .inl, VLess.refl _⟩⟩, (by simp), trivial⟩)) (.inl (⟨rfl, rfl⟩)) ?_
 rintro m s (⟨rfl, rfl⟩ | ⟨rfl, h0, rfl⟩ | ⟨rfl, h0, h1, rfl⟩ | ⟨rfl, h0, h1, h2, rfl⟩ | ⟨rfl, h0, h1, h2, h3, rfl⟩ | ⟨rfl, h0, h1, h2, h3, h4, rfl⟩ | ⟨rfl, h0, h1, h2, h3, h4, h5, rfl⟩)
 ·skip
  refine JA fun K2 hK2 => ?_
  refine pq fun K3 hK3 => ?_
  simp only [zzK, QR, QP, QQ, JC, zz21, JM, zz22, zz6, QO, ↓Qb]
  refine kK hK3 [1, 3, 5] ?_
  refine cnA ?_ ?_
  ·intro hb
   clear hb
   refine JI ?_
   simp only [zz6, QO, ↓Qb]
   refine kK hK2 [1, 3] ?_
   refine JA fun K2 hK2 => ?_
   refine JH ?_
   refine pq fun K3 hK3 => ?_
   simp only [zzK, QR, QP, QQ, JC, zz19, zz23, F_off113_6, zzH, QN, QS, JW, zz15, F_arr111, F_sz3, zzC, QA, yyE, Qe, F_ok3, F_ag3, zz8, zzD, JE, JF, zz29, JM, zz30, Int.reduceToNat, Int.reduceLT, Int.reduceLE, cast6, QT, zz6, QO, ↓Qb]
   refine cgA F_go87 (fun hG => rIn_ i.s0 (-1073741824) 1073741824) ?_
   simp only [zzK, QR, QP, QQ, JC, zz19, zz23, F_off113_6, zzH, QN, QS, JW, zz15, F_arr111, F_sz3, zzC, QA, yyE, Qe, F_ok3, F_ag3, zz8, zzD, JE, JF, zz29, JM, zz30, Int.reduceToNat, Int.reduceLT, Int.reduceLE, cast6, QT, zz6, QO, ↓Qb, atsL, oksG, JV, QZ, Qa, JO, Qm, QT, QS, zz9, QB, QA, S_mem, yyF, QF, zz2]
   refine kK hK3 [1, 3, 13] ?_
   refine cnA ?_ ?_
   ·intro hb
    simp only [Bool.not_eq_true'] at hb
    refine pq fun K4 hK4 => ?_
    simp only [zzK, QR, QP, QQ, JB, zz6, QO, ↓Qb]
    refine kK hK4 [2] ?_
    refine JJ ?_
    simp only [zz6, QO, ↓Qb]
    refine dnA ?_
    simp only [QD, QE, resA, JZ, QR, QP, JD, QQ, Qd, Qc, JP]
    have e : instOk i = false := by simp [instOk, shOk, hb]
    rw [e]
   ·intro hb
    simp only [Bool.not_eq_false'] at hb
    refine JI ?_
    simp only [zz6, QO, ↓Qb]
    refine kK hK2 [1, 3] ?_
    refine pz ?_
    simp only [zzK, QR, QP, QQ, JC, zz21, JM, zz26, JB, zz6, QO, ↓Qb]
    refine ⟨5, _, by decide, leK id [] (hr := by exact ⟨fun _ => ⟨_, rfl, ⟨id, rfl, rfl, fun _ => rfl, id, .inl, VLess.refl _⟩⟩, (by simp), trivial⟩), .inr (.inl (⟨rfl, hb, rfl⟩))⟩
  ·intro hb
   simp at hb
 ·skip
  refine JA fun K2 hK2 => ?_
  refine pq fun K3 hK3 => ?_
  simp only [zzK, QR, QP, QQ, JC, zz21, JM, zz22, zz6, QO, ↓Qb]
  refine kK hK3 [1, 3, 5] ?_
  refine cnA ?_ ?_
  ·intro hb
   clear hb
   refine JI ?_
   simp only [zz6, QO, ↓Qb]
   refine kK hK2 [1, 3] ?_
   refine JA fun K2 hK2 => ?_
   refine JH ?_
   refine pq fun K3 hK3 => ?_
   simp only [zzK, QR, QP, QQ, JC, zz19, zz23, F_off113_6, zzH, QN, QS, JW, zz15, F_arr111, F_sz3, zzC, QA, yyE, Qe, F_ok3, F_ag3, zz8, zzD, JE, JF, zz29, JM, zz30, Int.reduceToNat, Int.reduceLT, Int.reduceLE, cast6, QT, zz6, QO, ↓Qb]
   refine cgA F_go87 (fun hG => rIn_ i.s1 (-1073741824) 1073741824) ?_
   simp only [zzK, QR, QP, QQ, JC, zz19, zz23, F_off113_6, zzH, QN, QS, JW, zz15, F_arr111, F_sz3, zzC, QA, yyE, Qe, F_ok3, F_ag3, zz8, zzD, JE, JF, zz29, JM, zz30, Int.reduceToNat, Int.reduceLT, Int.reduceLE, cast6, QT, zz6, QO, ↓Qb, atsL, oksG, JV, QZ, Qa, JO, Qm, QT, QS, zz9, QB, QA, S_mem, yyF, QF, zz2]
   refine kK hK3 [1, 3, 13] ?_
   refine cnA ?_ ?_
   ·intro hb
    simp only [Bool.not_eq_true'] at hb
    refine pq fun K4 hK4 => ?_
    simp only [zzK, QR, QP, QQ, JB, zz6, QO, ↓Qb]
    refine kK hK4 [2] ?_
    refine JJ ?_
    simp only [zz6, QO, ↓Qb]
    refine dnA ?_
    simp only [QD, QE, resA, JZ, QR, QP, JD, QQ, Qd, Qc, JP]
    have e : instOk i = false := by simp [instOk, shOk, hb]
    rw [e]
   ·intro hb
    simp only [Bool.not_eq_false'] at hb
    refine JI ?_
    simp only [zz6, QO, ↓Qb]
    refine kK hK2 [1, 3] ?_
    refine pz ?_
    simp only [zzK, QR, QP, QQ, JC, zz21, JM, zz26, JB, zz6, QO, ↓Qb]
    refine ⟨4, _, by decide, leK id [] (hr := by exact ⟨fun _ => ⟨_, rfl, ⟨id, rfl, rfl, fun _ => rfl, id, .inl, VLess.refl _⟩⟩, (by simp), trivial⟩), .inr (.inr (.inl (⟨rfl, h0, hb, rfl⟩)))⟩
  ·intro hb
   simp at hb
 ·skip
  refine JA fun K2 hK2 => ?_
  refine pq fun K3 hK3 => ?_
  simp only [zzK, QR, QP, QQ, JC, zz21, JM, zz22, zz6, QO, ↓Qb]
  refine kK hK3 [1, 3, 5] ?_
  refine cnA ?_ ?_
  ·intro hb
   clear hb
   refine JI ?_
   simp only [zz6, QO, ↓Qb]
   refine kK hK2 [1, 3] ?_
   refine JA fun K2 hK2 => ?_
   refine JH ?_
   refine pq fun K3 hK3 => ?_
   simp only [zzK, QR, QP, QQ, JC, zz19, zz23, F_off113_6, zzH, QN, QS, JW, zz15, F_arr111, F_sz3, zzC, QA, yyE, Qe, F_ok3, F_ag3, zz8, zzD, JE, JF, zz29, JM, zz30, Int.reduceToNat, Int.reduceLT, Int.reduceLE, cast6, QT, zz6, QO, ↓Qb]
   refine cgA F_go87 (fun hG => rIn_ i.s2 (-1073741824) 1073741824) ?_
   simp only [zzK, QR, QP, QQ, JC, zz19, zz23, F_off113_6, zzH, QN, QS, JW, zz15, F_arr111, F_sz3, zzC, QA, yyE, Qe, F_ok3, F_ag3, zz8, zzD, JE, JF, zz29, JM, zz30, Int.reduceToNat, Int.reduceLT, Int.reduceLE, cast6, QT, zz6, QO, ↓Qb, atsL, oksG, JV, QZ, Qa, JO, Qm, QT, QS, zz9, QB, QA, S_mem, yyF, QF, zz2]
   refine kK hK3 [1, 3, 13] ?_
   refine cnA ?_ ?_
   ·intro hb
    simp only [Bool.not_eq_true'] at hb
    refine pq fun K4 hK4 => ?_
    simp only [zzK, QR, QP, QQ, JB, zz6, QO, ↓Qb]
    refine kK hK4 [2] ?_
    refine JJ ?_
    simp only [zz6, QO, ↓Qb]
    refine dnA ?_
    simp only [QD, QE, resA, JZ, QR, QP, JD, QQ, Qd, Qc, JP]
    have e : instOk i = false := by simp [instOk, shOk, hb]
    rw [e]
   ·intro hb
    simp only [Bool.not_eq_false'] at hb
    refine JI ?_
    simp only [zz6, QO, ↓Qb]
    refine kK hK2 [1, 3] ?_
    refine pz ?_
    simp only [zzK, QR, QP, QQ, JC, zz21, JM, zz26, JB, zz6, QO, ↓Qb]
    refine ⟨3, _, by decide, leK id [] (hr := by exact ⟨fun _ => ⟨_, rfl, ⟨id, rfl, rfl, fun _ => rfl, id, .inl, VLess.refl _⟩⟩, (by simp), trivial⟩), .inr (.inr (.inr (.inl (⟨rfl, h0, h1, hb, rfl⟩))))⟩
  ·intro hb
   simp at hb
 ·skip
  refine JA fun K2 hK2 => ?_
  refine pq fun K3 hK3 => ?_
  simp only [zzK, QR, QP, QQ, JC, zz21, JM, zz22, zz6, QO, ↓Qb]
  refine kK hK3 [1, 3, 5] ?_
  refine cnA ?_ ?_
  ·intro hb
   clear hb
   refine JI ?_
   simp only [zz6, QO, ↓Qb]
   refine kK hK2 [1, 3] ?_
   refine JA fun K2 hK2 => ?_
   refine JH ?_
   refine pq fun K3 hK3 => ?_
   simp only [zzK, QR, QP, QQ, JC, zz19, zz23, F_off113_6, zzH, QN, QS, JW, zz15, F_arr111, F_sz3, zzC, QA, yyE, Qe, F_ok3, F_ag3, zz8, zzD, JE, JF, zz29, JM, zz30, Int.reduceToNat, Int.reduceLT, Int.reduceLE, cast6, QT, zz6, QO, ↓Qb]
   refine cgA F_go87 (fun hG => rIn_ i.s3 (-1073741824) 1073741824) ?_
   simp only [zzK, QR, QP, QQ, JC, zz19, zz23, F_off113_6, zzH, QN, QS, JW, zz15, F_arr111, F_sz3, zzC, QA, yyE, Qe, F_ok3, F_ag3, zz8, zzD, JE, JF, zz29, JM, zz30, Int.reduceToNat, Int.reduceLT, Int.reduceLE, cast6, QT, zz6, QO, ↓Qb, atsL, oksG, JV, QZ, Qa, JO, Qm, QT, QS, zz9, QB, QA, S_mem, yyF, QF, zz2]
   refine kK hK3 [1, 3, 13] ?_
   refine cnA ?_ ?_
   ·intro hb
    simp only [Bool.not_eq_true'] at hb
    refine pq fun K4 hK4 => ?_
    simp only [zzK, QR, QP, QQ, JB, zz6, QO, ↓Qb]
    refine kK hK4 [2] ?_
    refine JJ ?_
    simp only [zz6, QO, ↓Qb]
    refine dnA ?_
    simp only [QD, QE, resA, JZ, QR, QP, JD, QQ, Qd, Qc, JP]
    have e : instOk i = false := by simp [instOk, shOk, hb]
    rw [e]
   ·intro hb
    simp only [Bool.not_eq_false'] at hb
    refine JI ?_
    simp only [zz6, QO, ↓Qb]
    refine kK hK2 [1, 3] ?_
    refine pz ?_
    simp only [zzK, QR, QP, QQ, JC, zz21, JM, zz26, JB, zz6, QO, ↓Qb]
    refine ⟨2, _, by decide, leK id [] (hr := by exact ⟨fun _ => ⟨_, rfl, ⟨id, rfl, rfl, fun _ => rfl, id, .inl, VLess.refl _⟩⟩, (by simp), trivial⟩), .inr (.inr (.inr (.inr (.inl (⟨rfl, h0, h1, h2, hb, rfl⟩)))))⟩
  ·intro hb
   simp at hb
 ·skip
  refine JA fun K2 hK2 => ?_
  refine pq fun K3 hK3 => ?_
  simp only [zzK, QR, QP, QQ, JC, zz21, JM, zz22, zz6, QO, ↓Qb]
  refine kK hK3 [1, 3, 5] ?_
  refine cnA ?_ ?_
  ·intro hb
   clear hb
   refine JI ?_
   simp only [zz6, QO, ↓Qb]
   refine kK hK2 [1, 3] ?_
   refine JA fun K2 hK2 => ?_
   refine JH ?_
   refine pq fun K3 hK3 => ?_
   simp only [zzK, QR, QP, QQ, JC, zz19, zz23, F_off113_6, zzH, QN, QS, JW, zz15, F_arr111, F_sz3, zzC, QA, yyE, Qe, F_ok3, F_ag3, zz8, zzD, JE, JF, zz29, JM, zz30, Int.reduceToNat, Int.reduceLT, Int.reduceLE, cast6, QT, zz6, QO, ↓Qb]
   refine cgA F_go87 (fun hG => rIn_ i.s4 (-1073741824) 1073741824) ?_
   simp only [zzK, QR, QP, QQ, JC, zz19, zz23, F_off113_6, zzH, QN, QS, JW, zz15, F_arr111, F_sz3, zzC, QA, yyE, Qe, F_ok3, F_ag3, zz8, zzD, JE, JF, zz29, JM, zz30, Int.reduceToNat, Int.reduceLT, Int.reduceLE, cast6, QT, zz6, QO, ↓Qb, atsL, oksG, JV, QZ, Qa, JO, Qm, QT, QS, zz9, QB, QA, S_mem, yyF, QF, zz2]
   refine kK hK3 [1, 3, 13] ?_
   refine cnA ?_ ?_
   ·intro hb
    simp only [Bool.not_eq_true'] at hb
    refine pq fun K4 hK4 => ?_
    simp only [zzK, QR, QP, QQ, JB, zz6, QO, ↓Qb]
    refine kK hK4 [2] ?_
    refine JJ ?_
    simp only [zz6, QO, ↓Qb]
    refine dnA ?_
    simp only [QD, QE, resA, JZ, QR, QP, JD, QQ, Qd, Qc, JP]
    have e : instOk i = false := by simp [instOk, shOk, hb]
    rw [e]
   ·intro hb
    simp only [Bool.not_eq_false'] at hb
    refine JI ?_
    simp only [zz6, QO, ↓Qb]
    refine kK hK2 [1, 3] ?_
    refine pz ?_
    simp only [zzK, QR, QP, QQ, JC, zz21, JM, zz26, JB, zz6, QO, ↓Qb]
    refine ⟨1, _, by decide, leK id [] (hr := by exact ⟨fun _ => ⟨_, rfl, ⟨id, rfl, rfl, fun _ => rfl, id, .inl, VLess.refl _⟩⟩, (by simp), trivial⟩), .inr (.inr (.inr (.inr (.inr (.inl (⟨rfl, h0, h1, h2, h3, hb, rfl⟩))))))⟩
  ·intro hb
   simp at hb
 ·skip
  refine JA fun K2 hK2 => ?_
  refine pq fun K3 hK3 => ?_
  simp only [zzK, QR, QP, QQ, JC, zz21, JM, zz22, zz6, QO, ↓Qb]
  refine kK hK3 [1, 3, 5] ?_
  refine cnA ?_ ?_
  ·intro hb
   clear hb
   refine JI ?_
   simp only [zz6, QO, ↓Qb]
   refine kK hK2 [1, 3] ?_
   refine JA fun K2 hK2 => ?_
   refine JH ?_
   refine pq fun K3 hK3 => ?_
   simp only [zzK, QR, QP, QQ, JC, zz19, zz23, F_off113_6, zzH, QN, QS, JW, zz15, F_arr111, F_sz3, zzC, QA, yyE, Qe, F_ok3, F_ag3, zz8, zzD, JE, JF, zz29, JM, zz30, Int.reduceToNat, Int.reduceLT, Int.reduceLE, cast6, QT, zz6, QO, ↓Qb]
   refine cgA F_go87 (fun hG => rIn_ i.s5 (-1073741824) 1073741824) ?_
   simp only [zzK, QR, QP, QQ, JC, zz19, zz23, F_off113_6, zzH, QN, QS, JW, zz15, F_arr111, F_sz3, zzC, QA, yyE, Qe, F_ok3, F_ag3, zz8, zzD, JE, JF, zz29, JM, zz30, Int.reduceToNat, Int.reduceLT, Int.reduceLE, cast6, QT, zz6, QO, ↓Qb, atsL, oksG, JV, QZ, Qa, JO, Qm, QT, QS, zz9, QB, QA, S_mem, yyF, QF, zz2]
   refine kK hK3 [1, 3, 13] ?_
   refine cnA ?_ ?_
   ·intro hb
    simp only [Bool.not_eq_true'] at hb
    refine pq fun K4 hK4 => ?_
    simp only [zzK, QR, QP, QQ, JB, zz6, QO, ↓Qb]
    refine kK hK4 [2] ?_
    refine JJ ?_
    simp only [zz6, QO, ↓Qb]
    refine dnA ?_
    simp only [QD, QE, resA, JZ, QR, QP, JD, QQ, Qd, Qc, JP]
    have e : instOk i = false := by simp [instOk, shOk, hb]
    rw [e]
   ·intro hb
    simp only [Bool.not_eq_false'] at hb
    refine JI ?_
    simp only [zz6, QO, ↓Qb]
    refine kK hK2 [1, 3] ?_
    refine pz ?_
    simp only [zzK, QR, QP, QQ, JC, zz21, JM, zz26, JB, zz6, QO, ↓Qb]
    refine ⟨0, _, by decide, leK id [] (hr := by exact ⟨fun _ => ⟨_, rfl, ⟨id, rfl, rfl, fun _ => rfl, id, .inl, VLess.refl _⟩⟩, (by simp), trivial⟩), .inr (.inr (.inr (.inr (.inr (.inr (⟨rfl, h0, h1, h2, h3, h4, hb, rfl⟩))))))⟩
  ·intro hb
   simp at hb
 ·skip
  refine JA fun K2 hK2 => ?_
  refine pq fun K3 hK3 => ?_
  simp only [zzK, QR, QP, QQ, JC, zz21, JM, zz22, zz6, QO, ↓Qb]
  refine kK hK3 [1, 3, 5] ?_
  refine cnA ?_ ?_
  ·intro hb
   simp at hb
  ·intro hb
   clear hb
   refine JK ?_
   simp only [zz6, QO, ↓Qb]
   refine kK hK0 [1] ?_
   refine JA fun K0 hK0 => ?_
   refine Qz F_mixed [some 14, some 15, some 16, some 17, some 18, some 19, some 20, some 21, some 22, some 23, some 24, some 25, some 26, some 27, some 28, some 29, some 30, some 31, some 32, some 33, some 34, some 35, some 36, some 37, some 38, some 39, some 40, some 41, some 2] rfl ?_
   simp only [zzK, QR, QP, QQ, QU, JZ, zz5, Qj, Qi, Qh, zz19, zz23, F_off113_0, zzH, QN, QS, F_ok3, F_ag3, F_sz3, zz8, zzD, zzC, QA, yyE, Qe, JE, JF, JC, F_off113_1, zz13, JQ, JR, F_off113_2, F_off113_3, F_off113_4, F_off113_5, JB, zz6, QO, ↓Qb]
   refine cgA F_go87 (fun hG => rIn_ i.no 1 8) ?_
   simp only [zzK, QR, QP, QQ, QU, JZ, zz5, Qj, Qi, Qh, zz19, zz23, F_off113_0, zzH, QN, QS, F_ok3, F_ag3, F_sz3, zz8, zzD, zzC, QA, yyE, Qe, JE, JF, JC, F_off113_1, zz13, JQ, JR, F_off113_2, F_off113_3, F_off113_4, F_off113_5, JB, zz6, QO, ↓Qb, atsL, oksG, JV, QZ, Qa, JO, Qm, QT, QS, zz9, QB, QA, S_mem, yyF, QF, zz2]
   refine cgA F_go42 (fun hG => rCur_ i.cur) ?_
   simp only [zzK, QR, QP, QQ, QU, JZ, zz5, Qj, Qi, Qh, zz19, zz23, F_off113_0, zzH, QN, QS, F_ok3, F_ag3, F_sz3, zz8, zzD, zzC, QA, yyE, Qe, JE, JF, JC, F_off113_1, zz13, JQ, JR, F_off113_2, F_off113_3, F_off113_4, F_off113_5, JB, zz6, QO, ↓Qb, atsL, oksG, JV, QZ, Qa, JO, Qm, QT, QS, zz9, QB, QA, S_mem, yyF, QF, zz2]
   refine cgA F_go87 (fun hG => rIn_ i.mult 1 1024) ?_
   simp only [zzK, QR, QP, QQ, QU, JZ, zz5, Qj, Qi, Qh, zz19, zz23, F_off113_0, zzH, QN, QS, F_ok3, F_ag3, F_sz3, zz8, zzD, zzC, QA, yyE, Qe, JE, JF, JC, F_off113_1, zz13, JQ, JR, F_off113_2, F_off113_3, F_off113_4, F_off113_5, JB, zz6, QO, ↓Qb, atsL, oksG, JV, QZ, Qa, JO, Qm, QT, QS, zz9, QB, QA, S_mem, yyF, QF, zz2]
   refine cgA F_go87 (fun hG => rIn_ i.add 0 1073741824) ?_
   simp only [zzK, QR, QP, QQ, QU, JZ, zz5, Qj, Qi, Qh, zz19, zz23, F_off113_0, zzH, QN, QS, F_ok3, F_ag3, F_sz3, zz8, zzD, zzC, QA, yyE, Qe, JE, JF, JC, F_off113_1, zz13, JQ, JR, F_off113_2, F_off113_3, F_off113_4, F_off113_5, JB, zz6, QO, ↓Qb, atsL, oksG, JV, QZ, Qa, JO, Qm, QT, QS, zz9, QB, QA, S_mem, yyF, QF, zz2]
   refine cgA F_go87 (fun hG => rIn_ i.set 0 1073741824) ?_
   simp only [zzK, QR, QP, QQ, QU, JZ, zz5, Qj, Qi, Qh, zz19, zz23, F_off113_0, zzH, QN, QS, F_ok3, F_ag3, F_sz3, zz8, zzD, zzC, QA, yyE, Qe, JE, JF, JC, F_off113_1, zz13, JQ, JR, F_off113_2, F_off113_3, F_off113_4, F_off113_5, JB, zz6, QO, ↓Qb, atsL, oksG, JV, QZ, Qa, JO, Qm, QT, QS, zz9, QB, QA, S_mem, yyF, QF, zz2]
   refine cgA F_go87 (fun hG => rIn_ i.price 0 1073741824) ?_
   simp only [zzK, QR, QP, QQ, QU, JZ, zz5, Qj, Qi, Qh, zz19, zz23, F_off113_0, zzH, QN, QS, F_ok3, F_ag3, F_sz3, zz8, zzD, zzC, QA, yyE, Qe, JE, JF, JC, F_off113_1, zz13, JQ, JR, F_off113_2, F_off113_3, F_off113_4, F_off113_5, JB, zz6, QO, ↓Qb, atsL, oksG, JV, QZ, Qa, JO, Qm, QT, QS, zz9, QB, QA, S_mem, yyF, QF, zz2]
   refine kK hK0 [2] ?_
   refine JJ ?_
   simp only [zz6, QO, ↓Qb]
   refine dnA ?_
   simp only [QD, QE, resA, JZ, QR, QP, JD, QQ, Qd, Qc, JP]
   simp only [instOk, h0, h1, h2, h3, h4, h5, Bool.true_and]
set_option maxRecDepth 100000 in
set_option maxHeartbeats 4000000 in
theorem rRoll_ (r : RollV) (h : r.Small) : ACalls Tryz.prog 37 [.agg (rollC r)] [] (bv (rollOk r)) := by
 refine acalls_S (rs := [.tmp 2]) Tryz.func37 rfl rfl 108 [(0, .d (.agg (rollC r)))] rfl (by simp) rfl ?_
 obtain ⟨ms, is, zs⟩ := r
 obtain ⟨hm, hi, hz⟩ := h
 simp only at hm hi hz
 refine pq fun K0 hK0 => ?_
 simp only [zzK, QR, QP, QQ, zz35, JS, zz1, zzG, zzD, zzC, QA, yyE, Qe, QS, QN, zzH, JB, rollC, memsD, instsD, assetsD, zz6, QO, ↓Qb]
 refine kK hK0 [1] ?_
 refine JA fun K0 hK0 => ?_
 refine pq fun K1 hK1 => ?_
 simp only [zzK, QR, QP, QQ, JB, zz6, QO, ↓Qb]
 refine kK hK1 [1, 3] ?_
 refine JH ?_
 refine JL (fun m s => ∃ pre post : List MemV, ms = pre ++ post ∧ chk memOk MemV.no none ms = chk memOk MemV.no pre.getLast? post ∧ m = post.length ∧ s = S 108 [(1, .ptr 1 0 0), (3, .d (iv pre.length))] [(1, (⟨True, 29, 3, true, false, 1, [[.d (.sl 3 (ms.map memC)), .d (.sl 12 (is.map instC)), .d (.sl 4 (zs.map assetC))]]⟩ : ARow))]) ms.length _ (leK id [] (hl := by simp only [leV, JD, QQ, Qd, Qc, JN]; exact ⟨Qn _, Qn _, trivial⟩) (hr := by exact ⟨fun _ => ⟨_, rfl, ⟨id, rfl, rfl, fun _ => rfl, id, .inl, VLess.refl _⟩⟩, (by simp), trivial⟩)) ⟨[], ms, rfl, rfl, rfl, rfl⟩ ?_
 rintro m s ⟨pre, post, rfl, hck, rfl, rfl⟩
 refine JA fun K2 hK2 => ?_
 refine pq fun K3 hK3 => ?_
 simp only [zzK, QR, QP, QQ, JC, zz19, zz23, F_off29_0, zzH, QN, QS, F_ok25, F_ag25, F_sz25, zz8, zzD, zzC, QA, yyE, Qe, JE, zz12, F_sl25, Option.isSome_some, zz21, JM, zz22, JN, zz6, QO, ↓Qb]
 refine kK hK3 [1, 3, 10] ?_
 refine cnA ?_ ?_
 ·intro hb
  obtain ⟨x, post, rfl⟩ := more_of hb; clear hb
  have hp : pre.length < 4611686018427387904 := by simp at hm; omega
  have hpg := prev_get memC pre post x [] hp
  refine JI ?_
  simp only [zz6, QO, ↓Qb]
  refine kK hK2 [1, 3] ?_
  refine JA fun K2 hK2 => ?_
  refine JH ?_
  refine JA fun K3 hK3 => ?_
  refine awp_draw F_mixed [some 13, some 14, some 15, some 16, some 17, some 18, some 19, some 20, some 21, some 22, some 23, some 24, some 25, some 26, some 27, some 28, some 29, some 30, some 31, some 32, some 33, some 34, some 35, some 36, some 37, some 38, some 39] rfl (by kernel_rfl) ?_
  simp only [zzK, QR, QP, QQ, QU, JZ, zz5, Qj, Qi, Qh, zz19, zz23, F_off29_0, zzH, QN, QS, F_ok25, F_ag25, F_sz25, zz8, zzD, zzC, QA, yyE, Qe, JC, JW, zz24, F_sl25, F_sz77, F_ok77, F_ag77, JE, JF, zz29, JM, zz30, zz21, zz25, F_off77_0, F_ok3, F_ag3, F_sz3, zz33, b_leq, pure_leq, zz13, JQ, JR, memC, getD_mid, JN, lt_mid, ge_mid, hpg, QW, zz6, QO, ↓Qb]
  refine cgA F_go80 (fun hG => rMemOk_ x) ?_
  simp only [zzK, QR, QP, QQ, QU, JZ, zz5, Qj, Qi, Qh, zz19, zz23, F_off29_0, zzH, QN, QS, F_ok25, F_ag25, F_sz25, zz8, zzD, zzC, QA, yyE, Qe, JC, JW, zz24, F_sl25, F_sz77, F_ok77, F_ag77, JE, JF, zz29, JM, zz30, zz21, zz25, F_off77_0, F_ok3, F_ag3, F_sz3, zz33, b_leq, pure_leq, zz13, JQ, JR, memC, getD_mid, JN, lt_mid, ge_mid, hpg, QW, zz6, QO, ↓Qb, atsL, oksG, JV, QZ, Qa, JO, Qm, QT, QS, zz9, QB, QA, S_mem, yyF, QF, zz2]
  refine ⟨⟨fun _ hp2 => prev_ok pre hp hp2, fun _ _ => prev_lt pre post x hp⟩, ?_⟩
  refine kK hK3 [1, 3, 39] ?_
  refine cnA ?_ ?_
  ·intro hb
   have hs : (!memOk x || (decide ((pre.length : Int) > 0) && decide ((lastOr x pre).no ≥ x.no))) = true := hb
   refine pq fun K4 hK4 => ?_
   simp only [zzK, QR, QP, QQ, JB, zz6, QO, ↓Qb]
   refine kK hK4 [2] ?_
   refine JJ ?_
   simp only [zz6, QO, ↓Qb]
   refine dnA ?_
   simp only [QD, QE, resA, JZ, QR, QP, JD, QQ, Qd, Qc, JP]
   have e : chk memOk MemV.no none (pre ++ x :: post) = false := by rw [hck, chk_step, hs]; rfl
   simp [rollOk, e]
  ·intro hb
   have hs : (!memOk x || (decide ((pre.length : Int) > 0) && decide ((lastOr x pre).no ≥ x.no))) = false := hb
   clear hb
   refine JI ?_
   simp only [zz6, QO, ↓Qb]
   refine kK hK2 [1, 3] ?_
   refine pz ?_
   simp only [zzK, QR, QP, QQ, JC, zz21, JM, zz26, JB, zz6, QO, ↓Qb]
   refine ⟨post.length, _, by simp, leK id [] (hl := by simp only [leV, JD, QQ, Qd, Qc, JN, wrap_len pre x (by simp at hm; omega)]; exact ⟨Qn _, Qn _, trivial⟩) (hr := by exact ⟨fun _ => ⟨_, rfl, ⟨id, rfl, rfl, fun _ => rfl, id, .inl, VLess.refl _⟩⟩, (by simp), trivial⟩), pre ++ [x], post, by simp, by rw [hck, chk_step, hs]; simp, rfl, rfl⟩
 ·intro hb
  obtain rfl := none_of hb; clear hb
  simp only [QG] at hck hm ⊢
  have hk0 := hck; clear hck
  obtain ⟨ms, ems⟩ : ∃ x, x = pre := ⟨_, rfl⟩
  subst ems
  refine JK ?_
  simp only [zz6, QO, ↓Qb]
  refine kK hK0 [1] ?_
  refine JA fun K0 hK0 => ?_
  refine pq fun K1 hK1 => ?_
  simp only [zzK, QR, QP, QQ, JB, zz6, QO, ↓Qb]
  refine kK hK1 [1, 4] ?_
  refine JH ?_
  refine JL (fun m s => ∃ pre post : List InstV, is = pre ++ post ∧ chk instOk InstV.no none is = chk instOk InstV.no pre.getLast? post ∧ m = post.length ∧ s = S 108 [(1, .ptr 1 0 0), (4, .d (iv pre.length))] [(1, (⟨True, 29, 3, true, false, 1, [[.d (.sl 3 (ms.map memC)), .d (.sl 12 (is.map instC)), .d (.sl 4 (zs.map assetC))]]⟩ : ARow))]) is.length _ (leK id [] (hl := by simp only [leV, JD, QQ, Qd, Qc, JN]; exact ⟨Qn _, Qn _, trivial⟩) (hr := by exact ⟨fun _ => ⟨_, rfl, ⟨id, rfl, rfl, fun _ => rfl, id, .inl, VLess.refl _⟩⟩, (by simp), trivial⟩)) ⟨[], is, rfl, rfl, rfl, rfl⟩ ?_
  rintro m s ⟨pre, post, rfl, hck, rfl, rfl⟩
  refine JA fun K2 hK2 => ?_
  refine pq fun K3 hK3 => ?_
  simp only [zzK, QR, QP, QQ, JC, zz19, zz23, F_off29_1, zzH, QN, QS, F_ok26, F_ag26, F_sz26, zz8, zzD, zzC, QA, yyE, Qe, JE, zz12, F_sl26, Option.isSome_some, zz21, JM, zz22, JN, zz6, QO, ↓Qb]
  refine kK hK3 [1, 4, 44] ?_
  refine cnA ?_ ?_
  ·intro hb
   obtain ⟨x, post, rfl⟩ := more_of hb; clear hb
   have hp : pre.length < 4611686018427387904 := by simp at hi; omega
   have hpg := prev_get instC pre post x [] hp
   refine JI ?_
   simp only [zz6, QO, ↓Qb]
   refine kK hK2 [1, 4] ?_
   refine JA fun K2 hK2 => ?_
   refine JH ?_
   refine JA fun K3 hK3 => ?_
   refine awp_draw F_mixed [some 47, some 48, some 49, some 50, some 51, some 52, some 53, some 54, some 55, some 56, some 57, some 58, some 59, some 60, some 61, some 62, some 63, some 64, some 65, some 66, some 67, some 68, some 69, some 70, some 71, some 72, some 73] rfl (by kernel_rfl) ?_
   simp only [zzK, QR, QP, QQ, QU, JZ, zz5, Qj, Qi, Qh, zz19, zz23, F_off29_1, zzH, QN, QS, F_ok26, F_ag26, F_sz26, zz8, zzD, zzC, QA, yyE, Qe, JC, JW, zz24, F_sl26, F_sz113, F_ok113, F_ag113, JE, JF, zz29, JM, zz30, zz21, zz25, F_off113_0, F_ok3, F_ag3, F_sz3, zz33, b_leq, pure_leq, zz13, JQ, JR, instC, getD_mid, JN, lt_mid, ge_mid, hpg, QW, zz6, QO, ↓Qb]
   refine cgA F_go81 (fun hG => rInstOk_ x) ?_
   simp only [zzK, QR, QP, QQ, QU, JZ, zz5, Qj, Qi, Qh, zz19, zz23, F_off29_1, zzH, QN, QS, F_ok26, F_ag26, F_sz26, zz8, zzD, zzC, QA, yyE, Qe, JC, JW, zz24, F_sl26, F_sz113, F_ok113, F_ag113, JE, JF, zz29, JM, zz30, zz21, zz25, F_off113_0, F_ok3, F_ag3, F_sz3, zz33, b_leq, pure_leq, zz13, JQ, JR, instC, getD_mid, JN, lt_mid, ge_mid, hpg, QW, zz6, QO, ↓Qb, atsL, oksG, JV, QZ, Qa, JO, Qm, QT, QS, zz9, QB, QA, S_mem, yyF, QF, zz2]
   refine ⟨⟨fun _ hp2 => prev_ok pre hp hp2, fun _ _ => prev_lt pre post x hp⟩, ?_⟩
   refine kK hK3 [1, 4, 73] ?_
   refine cnA ?_ ?_
   ·intro hb
    have hs : (!instOk x || (decide ((pre.length : Int) > 0) && decide ((lastOr x pre).no ≥ x.no))) = true := hb
    refine pq fun K4 hK4 => ?_
    simp only [zzK, QR, QP, QQ, JB, zz6, QO, ↓Qb]
    refine kK hK4 [2] ?_
    refine JJ ?_
    simp only [zz6, QO, ↓Qb]
    refine dnA ?_
    simp only [QD, QE, resA, JZ, QR, QP, JD, QQ, Qd, Qc, JP]
    have e : chk instOk InstV.no none (pre ++ x :: post) = false := by rw [hck, chk_step, hs]; rfl
    simp [rollOk, e]
   ·intro hb
    have hs : (!instOk x || (decide ((pre.length : Int) > 0) && decide ((lastOr x pre).no ≥ x.no))) = false := hb
    clear hb
    refine JI ?_
    simp only [zz6, QO, ↓Qb]
    refine kK hK2 [1, 4] ?_
    refine pz ?_
    simp only [zzK, QR, QP, QQ, JC, zz21, JM, zz26, JB, zz6, QO, ↓Qb]
    refine ⟨post.length, _, by simp, leK id [] (hl := by simp only [leV, JD, QQ, Qd, Qc, JN, wrap_len pre x (by simp at hi; omega)]; exact ⟨Qn _, Qn _, trivial⟩) (hr := by exact ⟨fun _ => ⟨_, rfl, ⟨id, rfl, rfl, fun _ => rfl, id, .inl, VLess.refl _⟩⟩, (by simp), trivial⟩), pre ++ [x], post, by simp, by rw [hck, chk_step, hs]; simp, rfl, rfl⟩
  ·intro hb
   obtain rfl := none_of hb; clear hb
   simp only [QG] at hck hi ⊢
   have hk1 := hck; clear hck
   obtain ⟨is, eis⟩ : ∃ x, x = pre := ⟨_, rfl⟩
   subst eis
   refine JK ?_
   simp only [zz6, QO, ↓Qb]
   refine kK hK0 [1] ?_
   refine JA fun K0 hK0 => ?_
   refine pq fun K1 hK1 => ?_
   simp only [zzK, QR, QP, QQ, JB, zz6, QO, ↓Qb]
   refine kK hK1 [1, 5] ?_
   refine JH ?_
   refine JL (fun m s => ∃ pre post : List AssetV, zs = pre ++ post ∧ chk assetOk AssetV.no none zs = chk assetOk AssetV.no pre.getLast? post ∧ m = post.length ∧ s = S 108 [(1, .ptr 1 0 0), (5, .d (iv pre.length))] [(1, (⟨True, 29, 3, true, false, 1, [[.d (.sl 3 (ms.map memC)), .d (.sl 12 (is.map instC)), .d (.sl 4 (zs.map assetC))]]⟩ : ARow))]) zs.length _ (leK id [] (hl := by simp only [leV, JD, QQ, Qd, Qc, JN]; exact ⟨Qn _, Qn _, trivial⟩) (hr := by exact ⟨fun _ => ⟨_, rfl, ⟨id, rfl, rfl, fun _ => rfl, id, .inl, VLess.refl _⟩⟩, (by simp), trivial⟩)) ⟨[], zs, rfl, rfl, rfl, rfl⟩ ?_
   rintro m s ⟨pre, post, rfl, hck, rfl, rfl⟩
   refine JA fun K2 hK2 => ?_
   refine pq fun K3 hK3 => ?_
   simp only [zzK, QR, QP, QQ, JC, zz19, zz23, F_off29_2, zzH, QN, QS, F_ok27, F_ag27, F_sz27, zz8, zzD, zzC, QA, yyE, Qe, JE, zz12, F_sl27, Option.isSome_some, zz21, JM, zz22, JN, zz6, QO, ↓Qb]
   refine kK hK3 [1, 5, 78] ?_
   refine cnA ?_ ?_
   ·intro hb
    obtain ⟨x, post, rfl⟩ := more_of hb; clear hb
    have hp : pre.length < 4611686018427387904 := by simp at hz; omega
    have hpg := prev_get assetC pre post x [] hp
    refine JI ?_
    simp only [zz6, QO, ↓Qb]
    refine kK hK2 [1, 5] ?_
    refine JA fun K2 hK2 => ?_
    refine JH ?_
    refine JA fun K3 hK3 => ?_
    refine awp_draw F_mixed [some 81, some 82, some 83, some 84, some 85, some 86, some 87, some 88, some 89, some 90, some 91, some 92, some 93, some 94, some 95, some 96, some 97, some 98, some 99, some 100, some 101, some 102, some 103, some 104, some 105, some 106, some 107] rfl (by kernel_rfl) ?_
    simp only [zzK, QR, QP, QQ, QU, JZ, zz5, Qj, Qi, Qh, zz19, zz23, F_off29_2, zzH, QN, QS, F_ok27, F_ag27, F_sz27, zz8, zzD, zzC, QA, yyE, Qe, JC, JW, zz24, F_sl27, F_sz118, F_ok118, F_ag118, JE, JF, zz29, JM, zz30, zz21, zz25, F_off118_0, F_ok3, F_ag3, F_sz3, zz33, b_leq, pure_leq, zz13, JQ, JR, assetC, getD_mid, JN, lt_mid, ge_mid, hpg, QW, zz6, QO, ↓Qb]
    refine cgA F_go82 (fun hG => rAssetOk_ x) ?_
    simp only [zzK, QR, QP, QQ, QU, JZ, zz5, Qj, Qi, Qh, zz19, zz23, F_off29_2, zzH, QN, QS, F_ok27, F_ag27, F_sz27, zz8, zzD, zzC, QA, yyE, Qe, JC, JW, zz24, F_sl27, F_sz118, F_ok118, F_ag118, JE, JF, zz29, JM, zz30, zz21, zz25, F_off118_0, F_ok3, F_ag3, F_sz3, zz33, b_leq, pure_leq, zz13, JQ, JR, assetC, getD_mid, JN, lt_mid, ge_mid, hpg, QW, zz6, QO, ↓Qb, atsL, oksG, JV, QZ, Qa, JO, Qm, QT, QS, zz9, QB, QA, S_mem, yyF, QF, zz2]
    refine ⟨⟨fun _ hp2 => prev_ok pre hp hp2, fun _ _ => prev_lt pre post x hp⟩, ?_⟩
    refine kK hK3 [1, 5, 107] ?_
    refine cnA ?_ ?_
    ·intro hb
     have hs : (!assetOk x || (decide ((pre.length : Int) > 0) && decide ((lastOr x pre).no ≥ x.no))) = true := hb
     refine pq fun K4 hK4 => ?_
     simp only [zzK, QR, QP, QQ, JB, zz6, QO, ↓Qb]
     refine kK hK4 [2] ?_
     refine JJ ?_
     simp only [zz6, QO, ↓Qb]
     refine dnA ?_
     simp only [QD, QE, resA, JZ, QR, QP, JD, QQ, Qd, Qc, JP]
     have e : chk assetOk AssetV.no none (pre ++ x :: post) = false := by rw [hck, chk_step, hs]; rfl
     simp [rollOk, e]
    ·intro hb
     have hs : (!assetOk x || (decide ((pre.length : Int) > 0) && decide ((lastOr x pre).no ≥ x.no))) = false := hb
     clear hb
     refine JI ?_
     simp only [zz6, QO, ↓Qb]
     refine kK hK2 [1, 5] ?_
     refine pz ?_
     simp only [zzK, QR, QP, QQ, JC, zz21, JM, zz26, JB, zz6, QO, ↓Qb]
     refine ⟨post.length, _, by simp, leK id [] (hl := by simp only [leV, JD, QQ, Qd, Qc, JN, wrap_len pre x (by simp at hz; omega)]; exact ⟨Qn _, Qn _, trivial⟩) (hr := by exact ⟨fun _ => ⟨_, rfl, ⟨id, rfl, rfl, fun _ => rfl, id, .inl, VLess.refl _⟩⟩, (by simp), trivial⟩), pre ++ [x], post, by simp, by rw [hck, chk_step, hs]; simp, rfl, rfl⟩
   ·intro hb
    obtain rfl := none_of hb; clear hb
    simp only [QG] at hck hz ⊢
    have hk2 := hck; clear hck
    obtain ⟨zs, ezs⟩ : ∃ x, x = pre := ⟨_, rfl⟩
    subst ezs
    refine JK ?_
    simp only [zz6, QO, ↓Qb]
    refine kK hK0 [] ?_
    refine pq fun K0 hK0 => ?_
    simp only [zzK, QR, QP, QQ, JB, zz6, QO, ↓Qb]
    refine kK hK0 [2] ?_
    refine JJ ?_
    simp only [zz6, QO, ↓Qb]
    refine dnA ?_
    simp only [QD, QE, resA, JZ, QR, QP, JD, QQ, Qd, Qc, JP]
    simp only [rollOk, QG]; rw [hk0, hk1, hk2]; rfl
theorem rMember_ (ms : List MemV) (is : List InstV) (zs : List AssetV) (n : Int) (hl : ms.length ≤ 1000000) : ACalls Tryz.prog 83 [.agg (rollC ⟨ms, is, zs⟩), iv n] [] (.tp [memA (findX MemV.no n zMem ms), bv (hasX MemV.no n ms)]) := by
 refine acalls_S (rs := [.cell 4 77, .tmp 5]) Tryz.func83 rfl rfl 28 [(0, .d (.agg (rollC ⟨ms, is, zs⟩))), (1, .d (iv n))] rfl (by simp) rfl ?_
 refine pq fun K0 hK0 => ?_
 simp only [zzK, QR, QP, QQ, zz35, JS, zz1, zzG, zzD, zzC, QA, yyE, Qe, QS, QN, zzH, zz32, F_zero77, zz10, JB, rollC, memsD, instsD, assetsD, zz6, QO, ↓Qb]
 refine kK hK0 [1, 2, 4] ?_
 refine JA fun K0 hK0 => ?_
 refine pq fun K1 hK1 => ?_
 simp only [zzK, QR, QP, QQ, JB, zz6, QO, ↓Qb]
 refine kK hK1 [1, 2, 4, 6] ?_
 refine JH ?_
 refine JL (fun m s => ∃ pre post : List MemV, ms = pre ++ post ∧ findX MemV.no n zMem ms = findX MemV.no n zMem post ∧ hasX MemV.no n ms = hasX MemV.no n post ∧ m = post.length ∧ s = S 28 [(1, .d (iv n)), (2, .ptr 2 0 0), (4, .ptr 4 0 0), (6, .d (iv pre.length))] [(2, (⟨True, 29, 3, true, false, 2, [[.d (.sl 3 (ms.map memC)), .d (.sl 12 (is.map instC)), .d (.sl 4 (zs.map assetC))]]⟩ : ARow)), (4, (⟨True, 77, 3, true, false, 4, [[.d (.v (.int .i64 0)), .d (.v (.int .i64 0)), .d (.v (.int .i64 0))]]⟩ : ARow))]) ms.length _ (leK id [] (hr := by exact ⟨fun _ => ⟨_, rfl, ⟨id, rfl, rfl, fun _ => rfl, id, .inl, VLess.refl _⟩⟩, (by simp), fun _ => ⟨_, rfl, ⟨id, rfl, rfl, fun _ => rfl, id, .inl, VLess.refl _⟩⟩, (by simp), trivial⟩)) ⟨[], ms, rfl, rfl, rfl, rfl, rfl⟩ ?_
 rintro m s ⟨pre, post, rfl, hfx, hfi, rfl, rfl⟩
 refine JA fun K2 hK2 => ?_
 refine pq fun K3 hK3 => ?_
 simp only [zzK, QR, QP, QQ, JC, zz19, zz23, F_off29_0, zzH, QN, QS, F_ok25, F_ag25, F_sz25, zz8, zzD, zzC, QA, yyE, Qe, JE, zz12, F_sl25, Option.isSome_some, zz21, JM, zz22, JN, zz6, QO, ↓Qb]
 refine kK hK3 [1, 2, 4, 6, 11] ?_
 refine cnA ?_ ?_
 ·intro hb
  obtain ⟨x, post, rfl⟩ := more_of hb; clear hb
  refine JI ?_
  simp only [zz6, QO, ↓Qb]
  refine kK hK2 [1, 2, 4, 6] ?_
  refine JA fun K2 hK2 => ?_
  refine JH ?_
  refine pq fun K3 hK3 => ?_
  simp only [zzK, QR, QP, QQ, zz19, zz23, F_off29_0, zzH, QN, QS, F_ok25, F_ag25, F_sz25, zz8, zzD, zzC, QA, yyE, Qe, JC, JW, zz24, F_sl25, F_sz77, F_off77_0, F_ok3, F_ag3, F_sz3, zz21, JM, zz34, memC, getD_mid, JN, lt_mid, ge_mid, zz6, QO, ↓Qb]
  refine kK hK3 [1, 2, 4, 6, 21] ?_
  refine cnA ?_ ?_
  ·intro hb
   refine pq fun K4 hK4 => ?_
   simp only [zzK, QR, QP, QQ, zz19, zz23, F_off29_0, zzH, QN, QS, F_ok25, F_ag25, F_sz25, zz8, zzD, zzC, QA, yyE, Qe, JC, JW, zz24, F_sl25, F_sz77, F_ok77, F_ag77, zz18, splice, QG, zz1, zzG, JB, memC, getD_mid, JN, lt_mid, ge_mid, zz6, QO, ↓Qb]
   refine kK hK4 [4, 5] ?_
   refine JJ ?_
   simp only [zz6, QO, ↓Qb]
   refine done0 (by simp [resCs, resC, S, List.getD, JD, lookR, F_ag77, F_sz77, F_ok77]) ?_ (by simp [flatA, flatAs, flatD, memA, memC]) (by simp [AV.ids, AV.idsL, memA, memC])
   simp only [QD, QE, resA, JZ, S_mem, lookR_cons, lookR_nil, QR, QP, JD, QQ, Qd, Qc, JP, QI, QJ, QH, QL, QK, List.take_zero, F_ag77, F_sz77, F_ok77]
   rw [hfx, hfi, findX, hasX, hb]; rfl
  ·intro hb
   refine JI ?_
   simp only [zz6, QO, ↓Qb]
   refine kK hK2 [1, 2, 4, 6] ?_
   refine pz ?_
   simp only [zzK, QR, QP, QQ, JC, zz21, JM, zz26, JB, zz6, QO, ↓Qb]
   refine ⟨post.length, _, by simp, leK id [] (hl := by simp only [leV, JD, QQ, Qd, Qc, wrap_len pre x (by simp at hl; omega)]; exact ⟨Qn _, Qn _, Qn _, Qn _, trivial⟩) (hr := by exact ⟨fun _ => ⟨_, rfl, ⟨id, rfl, rfl, fun _ => rfl, id, .inl, VLess.refl _⟩⟩, (by simp), fun _ => ⟨_, rfl, ⟨id, rfl, rfl, fun _ => rfl, id, .inl, VLess.refl _⟩⟩, (by simp), trivial⟩), pre ++ [x], post, by simp, by rw [hfx, findX, hb]; rfl, by rw [hfi, hasX, hb]; rfl, rfl, rfl⟩
 ·intro hb
  obtain rfl := none_of hb; clear hb
  refine JK ?_
  simp only [zz6, QO, ↓Qb]
  refine kK hK0 [4] ?_
  refine pq fun K0 hK0 => ?_
  simp only [zzK, QR, QP, QQ, F_zero77, F_bld77, zz7, splice, Option.getD_some, QG, zz1, zzG, zzD, zzC, QA, yyE, Qe, QS, QN, zzH, zz10, zz18, F_ok77, F_sz77, JB, zz6, QO, ↓Qb]
  refine kK hK0 [4, 5] ?_
  refine JJ ?_
  simp only [zz6, QO, ↓Qb]
  refine done0 (by simp [resCs, resC, S, List.getD, JD, lookR, F_ag77, F_sz77, F_ok77]) ?_ (by simp [flatA, flatAs, flatD, memA, memC]) (by simp [AV.ids, AV.idsL, memA, memC])
  simp only [QD, QE, resA, JZ, S_mem, lookR_cons, lookR_nil, QR, QP, JD, QQ, Qd, Qc, JP, QI, QJ, QH, QL, QK, List.take_zero, F_ag77, F_sz77, F_ok77]
  rw [hfx, hfi]; rfl
end Go.Proofs.YtjkfadaedgidpaaGreat
