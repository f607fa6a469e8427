import Derived.Test.YtjkfadaedgidpaaGreatWpU
import Derived.Test.YtjkfadaedgidpaaGreatWpM
import Derived.Test.YtjkfadaedgidpaaGreatWpK
import Derived.Test.YtjkfadaedgidpaaGreatSpecFE
namespace Go.Proofs.YtjkfadaedgidpaaGreat
open Go.RowKit
set_option linter.unusedVariables false
set_option linter.unusedSimpArgs false
open Option renaming map_some → QA, bind_some → QB
open List renaming map_cons → QD, map_nil → QE, length_cons → QF, append_nil → QG, length_singleton → QM
open Nat renaming zero_add → QN, reduceEqDiff → QO, reduceLeDiff → QP, reduceBEq → QQ, reduceLT → QR, reduceAdd → QS, reduceMul → QT, reduceSub → QU
open D.agg renaming injEq → QW
open AV renaming idsL → QX, ids → QY, ren → QZ, renL → Qa
open _root_ renaming reduceIte → Qb, reduceCtorEq → Qe, imp_self → Qh, imp_and → Qi, and_imp → Qj
open ORow renaming row → Qm
open Go.Proofs.YtjkfadaedgidpaaGreat renaming awp_plain → Qz, awp_seq → JA, evS_assign → JB, evS_move → JC, evS_call → JE, evC_value → JF, gr_v → JM, len_map → JN, addRows → JO, pickK_l → JQ, pickK_r → JR, newRow1 → JS, freeN → JV, S_getD → JZ
theorem F_go4 : goFn Tryz.prog 4 := ⟨_, Tryz.func4, rfl, rfl⟩
theorem F_go5 : goFn Tryz.prog 5 := ⟨_, Tryz.func5, rfl, rfl⟩
theorem F_go6 : goFn Tryz.prog 6 := ⟨_, Tryz.func6, rfl, rfl⟩
theorem F_go7 : goFn Tryz.prog 7 := ⟨_, Tryz.func7, rfl, rfl⟩
theorem F_go13 : goFn Tryz.prog 13 := ⟨_, Tryz.func13, rfl, rfl⟩
theorem F_go14 : goFn Tryz.prog 14 := ⟨_, Tryz.func14, rfl, rfl⟩
theorem F_go15 : goFn Tryz.prog 15 := ⟨_, Tryz.func15, rfl, rfl⟩
theorem F_go16 : goFn Tryz.prog 16 := ⟨_, Tryz.func16, rfl, rfl⟩
theorem F_go17 : goFn Tryz.prog 17 := ⟨_, Tryz.func17, rfl, rfl⟩
theorem F_go18 : goFn Tryz.prog 18 := ⟨_, Tryz.func18, rfl, rfl⟩
theorem F_go19 : goFn Tryz.prog 19 := ⟨_, Tryz.func19, rfl, rfl⟩
theorem F_go20 : goFn Tryz.prog 20 := ⟨_, Tryz.func20, rfl, rfl⟩
theorem F_go21 : goFn Tryz.prog 21 := ⟨_, Tryz.func21, rfl, rfl⟩
theorem F_go22 : goFn Tryz.prog 22 := ⟨_, Tryz.func22, rfl, rfl⟩
theorem F_go23 : goFn Tryz.prog 23 := ⟨_, Tryz.func23, rfl, rfl⟩
theorem F_go24 : goFn Tryz.prog 24 := ⟨_, Tryz.func24, rfl, rfl⟩
theorem F_go25 : goFn Tryz.prog 25 := ⟨_, Tryz.func25, rfl, rfl⟩
set_option maxRecDepth 100000 in
set_option maxHeartbeats 4000000 in
theorem fundExact_ (nx : Int) (l : List LegV) (r : RollV) (c amt : Int) (ws : List Int) : ACalls Tryz.prog 3 [.agg (ledC ⟨nx, l⟩), .agg (rollC r), iv c, iv amt, ints ws] [] (bv true) := by
 refine acalls_S (rs := [.tmp 10]) Tryz.func3 rfl rfl 200 [(0, .d (.agg (ledC ⟨nx, l⟩))), (1, .d (.agg (rollC r))), (2, .d (iv c)), (3, .d (iv amt)), (4, .d (ints ws))] rfl (by simp) rfl ?_
 refine pq fun K0 hK0 => ?_
 simp only [zzK, QR, QP, QQ, zz35, JS, zz1, zzG, zzD, zzC, QA, yyE, Qe, QS, QN, zzH, JB, ledC, legs, rollC, memsD, instsD, assetsD, QW, zz6, QO, ↓Qb]
 refine kK hK0 [2, 3, 4, 5, 6] ?_
 refine JA fun K0 hK0 => ?_
 refine JA fun K1 hK1 => ?_
 refine Qz F_mixed [some 23, some 24, some 25, some 26, some 27, some 28, some 29, some 30, some 31, some 32, some 33, some 34, some 35] rfl ?_
 simp only [zzK, QR, QP, QQ, QU, JZ, zz5, Qj, Qi, Qh, zz19, zz23, F_off24_1, zzH, QN, QS, F_ok22, F_ag22, F_sz22, zz8, zzD, zzC, QA, yyE, Qe, JE, zz12, F_sl22, Option.isSome_some, zz21, JM, zz25, JC, F_ok29, F_ag29, F_sz29, JF, zz13, JQ, JR, F_sl30, ledC, legs, rollC, memsD, instsD, assetsD, QW, ints, JN, zz6, QO, ↓Qb]
 refine cgA F_go4 (fun hG => heavy_ r) ?_
 simp only [zzK, QR, QP, QQ, QU, JZ, zz5, Qj, Qi, Qh, zz19, zz23, F_off24_1, zzH, QN, QS, F_ok22, F_ag22, F_sz22, zz8, zzD, zzC, QA, yyE, Qe, JE, zz12, F_sl22, Option.isSome_some, zz21, JM, zz25, JC, F_ok29, F_ag29, F_sz29, JF, zz13, JQ, JR, F_sl30, ledC, legs, rollC, memsD, instsD, assetsD, QW, ints, JN, zz6, QO, ↓Qb, atsL, oksG, JV, QZ, Qa, JO, Qm, QT, QS, zz9, QB, QA, S_mem, yyF, QF, zz2]
 refine kK hK1 [2, 3, 4, 5, 6, 35] ?_
 refine cnA ?_ ?_
 ·intro hb
  clear hb
  refine pq fun K2 hK2 => ?_
  simp only [zzK, QR, QP, QQ, JB, zz6, QO, ↓Qb]
  refine kK hK2 [10] ?_
  refine awp_ret ?_
  simp only [zz6, QO, ↓Qb]
  refine dnA ?_
  simp only [QD, QE, resA, JZ, QR, QP, look_cons, QQ, cond_true, cond_false, resAll]
  
 ·intro hb
  have hb2 : l.length ≤ 300 ∧ heavy r = false ∧ ws.length ≤ 300 := by
   simp only [Bool.or_eq_false_iff, decide_eq_false_iff_not] at hb
   exact ⟨by omega, hb.1.2, by omega⟩
  clear hb
  obtain ⟨hl, hh, hw⟩ := hb2
  have hS := small_of hh
  have hm : r.mems.length ≤ 400000 := by simp [heavy] at hh; omega
  have hv1 := lvV_len ⟨nx, l⟩ c amt ws
  have hv2 := aqV_len r c amt ws
  have hv3 := rfV_len ⟨nx, l⟩ r c
  have hv4 := rfU_len ⟨nx, l⟩ r c
  refine awp_skip ?_
  simp only [zz6, QO, ↓Qb]
  refine kK hK0 [2, 3, 4, 5, 6] ?_
  refine JA fun K0 hK0 => ?_
  refine awp_tree F_mixed [some 36, some 37, some 38, some 39, some 40, some 41, some 11, some 12, none, none, some 13] rfl (.one 0 (.one 1 (.one 4 (.one 6 (.one 7 (.one 2 (.one 3 (.one 5 (.one 8 (.one 9 (.one 10 .nil))))))))))) (by kernel_rfl) ?_
  simp only [zzK, QR, QP, QQ, F_ok24, F_ag24, F_sz24, zz8, zz23, zzD, QS, QN, zzH, zzC, QA, yyE, Qe, JE, JF, JC, zz32, JS, F_zero24, zz10, F_zero29, F_ok29, F_ag29, F_sz29, zz18, splice, QG, zz1, zzG, JB, ledC, legs, rollC, memsD, instsD, assetsD, QW, ints, evT, List.getElem?_cons_zero, List.getElem?_cons_succ, zz6, QO, ↓Qb]
  refine cgA F_go5 (fun hG => twinLedF nx l (by omega)) ?_
  simp only [zzK, QR, QP, QQ, F_ok24, F_ag24, F_sz24, zz8, zz23, zzD, QS, QN, zzH, zzC, QA, yyE, Qe, JE, JF, JC, zz32, JS, F_zero24, zz10, F_zero29, F_ok29, F_ag29, F_sz29, zz18, splice, QG, zz1, zzG, JB, ledC, legs, rollC, memsD, instsD, assetsD, QW, ints, evT, List.getElem?_cons_zero, List.getElem?_cons_succ, zz6, QO, ↓Qb, atsL, oksG, JV, QZ, Qa, JO, Qm, QT, QS, zz9, QB, QA, S_mem, yyF, QF, zz2]
  refine cgA F_go6 (fun hG => twinRollF r hS) ?_
  simp only [zzK, QR, QP, QQ, F_ok24, F_ag24, F_sz24, zz8, zz23, zzD, QS, QN, zzH, zzC, QA, yyE, Qe, JE, JF, JC, zz32, JS, F_zero24, zz10, F_zero29, F_ok29, F_ag29, F_sz29, zz18, splice, QG, zz1, zzG, JB, ledC, legs, rollC, memsD, instsD, assetsD, QW, ints, evT, List.getElem?_cons_zero, List.getElem?_cons_succ, zz6, QO, ↓Qb, atsL, oksG, JV, QZ, Qa, JO, Qm, QT, QS, zz9, QB, QA, S_mem, yyF, QF, zz2]
  refine cgA F_go7 (fun hG => twinIntsF ws (by omega)) ?_
  simp only [zzK, QR, QP, QQ, F_ok24, F_ag24, F_sz24, zz8, zz23, zzD, QS, QN, zzH, zzC, QA, yyE, Qe, JE, JF, JC, zz32, JS, F_zero24, zz10, F_zero29, F_ok29, F_ag29, F_sz29, zz18, splice, QG, zz1, zzG, JB, ledC, legs, rollC, memsD, instsD, assetsD, QW, ints, evT, List.getElem?_cons_zero, List.getElem?_cons_succ, zz6, QO, ↓Qb, atsL, oksG, JV, QZ, Qa, JO, Qm, QT, QS, zz9, QB, QA, S_mem, yyF, QF, zz2]
  refine kK hK0 [2, 3, 4, 5, 6, 11, 12, 13] ?_
  refine pq fun K0 hK0 => ?_
  simp only [zzK, QR, QP, QQ, F_ok24, F_ag24, F_sz24, zz8, zz23, zzD, QS, QN, zzH, zzC, QA, yyE, Qe, JC, JE, JF, zz14, JB, ledC, legs, rollC, memsD, instsD, assetsD, QW, ints, zz6, QO, ↓Qb]
  refine cgA F_go8 (fun hG => fShares_ nx l c ws (by omega) (by omega)) ?_
  simp only [zzK, QR, QP, QQ, F_ok24, F_ag24, F_sz24, zz8, zz23, zzD, QS, QN, zzH, zzC, QA, yyE, Qe, JC, JE, JF, zz14, JB, ledC, legs, rollC, memsD, instsD, assetsD, QW, ints, zz6, QO, ↓Qb, atsL, oksG, JV, QZ, Qa, JO, Qm, QT, QS, zz9, QB, QA, S_mem, yyF, QF, zz2]
  refine kK hK0 [2, 3, 4, 5, 6, 11, 12, 13, 14, 15] ?_
  refine pq fun K0 hK0 => ?_
  simp only [zzK, QR, QP, QQ, F_ok24, F_ag24, F_sz24, zz8, zz23, zzD, QS, QN, zzH, zzC, QA, yyE, Qe, JC, JE, JF, zz14, JB, ledC, legs, rollC, memsD, instsD, assetsD, QW, ints, zz6, QO, ↓Qb]
  refine cgA F_go9 (fun hG => rShares_ nx l c ws (by omega) (by omega)) ?_
  simp only [zzK, QR, QP, QQ, F_ok24, F_ag24, F_sz24, zz8, zz23, zzD, QS, QN, zzH, zzC, QA, yyE, Qe, JC, JE, JF, zz14, JB, ledC, legs, rollC, memsD, instsD, assetsD, QW, ints, zz6, QO, ↓Qb, atsL, oksG, JV, QZ, Qa, JO, Qm, QT, QS, zz9, QB, QA, S_mem, yyF, QF, zz2]
  refine kK hK0 [2, 3, 4, 5, 6, 11, 12, 13, 14, 15, 16, 17] ?_
  refine JA fun K0 hK0 => ?_
  refine Qz F_mixed [some 56, some 57, some 58, some 59, some 60, some 61, some 62, some 63, some 18] rfl ?_
  simp only [zzK, QR, QP, QQ, QU, JZ, zz5, Qj, Qi, Qh, and_self, JC, zz21, JM, zz34, zz13, JQ, JR, JB, beq_self_eq_true, Gp_some, legs, fds, D.sl.injEq, zz6, QO, ↓Qb]
  refine kK hK0 [2, 3, 4, 5, 6, 11, 12, 13, 18] ?_
  refine pq fun K0 hK0 => ?_
  simp only [zzK, QR, QP, QQ, F_ok29, F_ag29, F_sz29, zz8, zz23, zzD, QS, QN, zzH, zzC, QA, yyE, Qe, JC, JE, JF, zz14, JB, ledC, legs, rollC, memsD, instsD, assetsD, QW, ints, zz6, QO, ↓Qb]
  refine cgA F_go10 (fun hG => Needs_ r ws hS (by omega)) ?_
  simp only [zzK, QR, QP, QQ, F_ok29, F_ag29, F_sz29, zz8, zz23, zzD, QS, QN, zzH, zzC, QA, yyE, Qe, JC, JE, JF, zz14, JB, ledC, legs, rollC, memsD, instsD, assetsD, QW, ints, zz6, QO, ↓Qb, atsL, oksG, JV, QZ, Qa, JO, Qm, QT, QS, zz9, QB, QA, S_mem, yyF, QF, zz2]
  refine kK hK0 [2, 3, 4, 5, 6, 11, 12, 13, 14, 15, 18] ?_
  refine pq fun K0 hK0 => ?_
  simp only [zzK, QR, QP, QQ, F_ok29, F_ag29, F_sz29, zz8, zz23, zzD, QS, QN, zzH, zzC, QA, yyE, Qe, JC, JE, JF, zz14, JB, ledC, legs, rollC, memsD, instsD, assetsD, QW, ints, zz6, QO, ↓Qb]
  refine cgA F_go11 (fun hG => rNeeds_ r ws hS hm (by omega)) ?_
  simp only [zzK, QR, QP, QQ, F_ok29, F_ag29, F_sz29, zz8, zz23, zzD, QS, QN, zzH, zzC, QA, yyE, Qe, JC, JE, JF, zz14, JB, ledC, legs, rollC, memsD, instsD, assetsD, QW, ints, zz6, QO, ↓Qb, atsL, oksG, JV, QZ, Qa, JO, Qm, QT, QS, zz9, QB, QA, S_mem, yyF, QF, zz2]
  refine kK hK0 [2, 3, 4, 5, 6, 11, 12, 13, 14, 15, 16, 17, 18] ?_
  refine JA fun K0 hK0 => ?_
  refine Qz F_mixed [some 76, some 77, some 78, some 79, some 80, some 81, some 82, some 83, some 84, some 85, some 86, some 18] rfl ?_
  simp only [zzK, QR, QP, QQ, QU, JZ, zz5, Qj, Qi, Qh, and_self, JC, zz21, JM, zz34, zz13, JQ, JR, JB, beq_self_eq_true, Gp_some, legs, fds, D.sl.injEq, zz6, QO, ↓Qb]
  refine kK hK0 [2, 3, 4, 5, 6, 11, 12, 13, 18] ?_
  refine pq fun K0 hK0 => ?_
  simp only [zzK, QR, QP, QQ, F_ok24, F_ag24, F_sz24, zz8, zz23, zzD, QS, QN, zzH, zzC, QA, yyE, Qe, JC, JE, JF, zz14, JB, ledC, legs, rollC, memsD, instsD, assetsD, QW, ints, zz6, QO, ↓Qb]
  refine cgA F_go12 (fun hG => levy_ nx l c amt ws (by omega) (by omega)) ?_
  simp only [zzK, QR, QP, QQ, F_ok24, F_ag24, F_sz24, zz8, zz23, zzD, QS, QN, zzH, zzC, QA, yyE, Qe, JC, JE, JF, zz14, JB, ledC, legs, rollC, memsD, instsD, assetsD, QW, ints, zz6, QO, ↓Qb, atsL, oksG, JV, QZ, Qa, JO, Qm, QT, QS, zz9, QB, QA, S_mem, yyF, QF, zz2]
  refine kK hK0 [2, 3, 4, 5, 6, 11, 12, 13, 15, 18, 19] ?_
  refine pq fun K0 hK0 => ?_
  simp only [zzK, QR, QP, QQ, F_ok24, F_ag24, F_sz24, zz8, zz23, zzD, QS, QN, zzH, zzC, QA, yyE, Qe, JC, JE, JF, zz14, JB, ledC, legs, rollC, memsD, instsD, assetsD, QW, ints, zz6, QO, ↓Qb]
  refine cgA F_go13 (fun hG => rLevyF nx l c amt ws (by omega) (by omega)) ?_
  simp only [zzK, QR, QP, QQ, F_ok24, F_ag24, F_sz24, zz8, zz23, zzD, QS, QN, zzH, zzC, QA, yyE, Qe, JC, JE, JF, zz14, JB, ledC, legs, rollC, memsD, instsD, assetsD, QW, ints, zz6, QO, ↓Qb, atsL, oksG, JV, QZ, Qa, JO, Qm, QT, QS, zz9, QB, QA, S_mem, yyF, QF, zz2]
  refine kK hK0 [2, 3, 4, 5, 6, 11, 12, 13, 15, 17, 18, 19, 20] ?_
  refine JA fun K0 hK0 => ?_
  refine Qz F_mixed [some 103, some 104, some 105, some 106, some 107, some 108, some 109, some 110, some 111, some 112, some 113, some 18] rfl ?_
  simp only [zzK, QR, QP, QQ, QU, JZ, zz5, Qj, Qi, Qh, and_self, JC, JE, JF, zz13, JQ, JR, zz21, JM, zz34, JB, beq_self_eq_true, Gp_some, legs, fds, D.sl.injEq, zz6, QO, ↓Qb]
  refine cgA F_go14 (fun hG => kLegs_ (lvV ⟨nx, l⟩ c amt ws) (by omega)) ?_
  simp only [zzK, QR, QP, QQ, QU, JZ, zz5, Qj, Qi, Qh, and_self, JC, JE, JF, zz13, JQ, JR, zz21, JM, zz34, JB, beq_self_eq_true, Gp_some, legs, fds, zz6, QO, ↓Qb, atsL, oksG, JV, QZ, Qa, JO, Qm, QT, QS, zz9, QB, QA, zzC, yyF, zzD, zz2]
  first | refine ⟨by simp, ?_⟩ | skip
  refine kK hK0 [2, 3, 4, 5, 6, 11, 12, 13, 18, 19] ?_
  refine JA fun K0 hK0 => ?_
  refine awp_mut [some 114, some 115] rfl 1 rfl ?_
  simp only [zzK, QR, QP, QQ, JC, JE, JF, JN, zzB, zz6, QO, ↓Qb]
  refine mut_go [93000] F_go15 (spoilLegs_ (lvV ⟨nx, l⟩ c amt ws) (by omega)) (by simp [QY, QX, memA, memC, instA, instC]) (by decide) (by first | exact ⟨by decide, by simp⟩ | rfl) ?_
  simp only [zzK, QR, QP, QQ, JC, JE, JF, JN, zzB, zz6, QO, ↓Qb, mArgs_nil, asE_cl, asF_cl, asD_ptr, asG_ptr, asD_ep, asG_ep, List.mem_singleton, forall_eq, asEc_cons, asEc_nil, mArgs_d, mArgs_m, mRows_nil, mRows_cons, mNewL, nxM, mBase, mName, oksL, List.getElem?_cons_zero, List.getElem?_cons_succ, zzF, asE_ag, asE_d, asE_ref, asEc_cons, asEc_nil, asF_d, asF_ref, asF_ag, asGs, QY, QX, QM, List.not_mem_nil, false_implies, forall_const, atsL, asD_self, asD_nil, asD_sl, asD_agg, asD_int, asD_bool, asD_func, asD_ag, asD_ref, asG_d, asG_ag, asG_ref, JV, QZ, Qa, JO, Qm, QT, QS, zz9, QB, QA, zzC, yyF, zzD, S_func, Sk_func]
  refine ⟨by simp [flatDs, flatD, legC, spoilL], ?_⟩
  refine kK hK0 [2, 3, 4, 5, 6, 11, 12, 13, 18] ?_
  refine pq fun K0 hK0 => ?_
  simp only [zzK, QR, QP, QQ, F_ok29, F_ag29, F_sz29, zz8, zz23, zzD, QS, QN, zzH, zzC, QA, yyE, Qe, JC, JE, JF, zz14, JB, ledC, legs, rollC, memsD, instsD, assetsD, QW, ints, zz6, QO, ↓Qb]
  refine cgA F_go16 (fun hG => assess_ r c amt ws hS (by omega)) ?_
  simp only [zzK, QR, QP, QQ, F_ok29, F_ag29, F_sz29, zz8, zz23, zzD, QS, QN, zzH, zzC, QA, yyE, Qe, JC, JE, JF, zz14, JB, ledC, legs, rollC, memsD, instsD, assetsD, QW, ints, zz6, QO, ↓Qb, atsL, oksG, JV, QZ, Qa, JO, Qm, QT, QS, zz9, QB, QA, S_mem, yyF, QF, zz2]
  refine kK hK0 [2, 3, 4, 5, 6, 11, 12, 13, 15, 18, 19] ?_
  refine pq fun K0 hK0 => ?_
  simp only [zzK, QR, QP, QQ, F_ok29, F_ag29, F_sz29, zz8, zz23, zzD, QS, QN, zzH, zzC, QA, yyE, Qe, JC, JE, JF, zz14, JB, ledC, legs, rollC, memsD, instsD, assetsD, QW, ints, zz6, QO, ↓Qb]
  refine cgA F_go17 (fun hG => rAssessF r c amt ws hS hm (by omega)) ?_
  simp only [zzK, QR, QP, QQ, F_ok29, F_ag29, F_sz29, zz8, zz23, zzD, QS, QN, zzH, zzC, QA, yyE, Qe, JC, JE, JF, zz14, JB, ledC, legs, rollC, memsD, instsD, assetsD, QW, ints, zz6, QO, ↓Qb, atsL, oksG, JV, QZ, Qa, JO, Qm, QT, QS, zz9, QB, QA, S_mem, yyF, QF, zz2]
  refine kK hK0 [2, 4, 5, 6, 11, 12, 13, 15, 17, 18, 19, 20] ?_
  refine JA fun K0 hK0 => ?_
  refine Qz F_mixed [some 132, some 133, some 134, some 135, some 136, some 137, some 138, some 139, some 140, some 141, some 142, some 18] rfl ?_
  simp only [zzK, QR, QP, QQ, QU, JZ, zz5, Qj, Qi, Qh, and_self, JC, JE, JF, zz13, JQ, JR, zz21, JM, zz34, JB, beq_self_eq_true, Gp_some, legs, fds, D.sl.injEq, zz6, QO, ↓Qb]
  refine cgA F_go14 (fun hG => kLegs_ (aqV r c amt ws) (by omega)) ?_
  simp only [zzK, QR, QP, QQ, QU, JZ, zz5, Qj, Qi, Qh, and_self, JC, JE, JF, zz13, JQ, JR, zz21, JM, zz34, JB, beq_self_eq_true, Gp_some, legs, fds, zz6, QO, ↓Qb, atsL, oksG, JV, QZ, Qa, JO, Qm, QT, QS, zz9, QB, QA, zzC, yyF, zzD, zz2]
  first | refine ⟨by simp, ?_⟩ | skip
  refine kK hK0 [2, 4, 5, 6, 11, 12, 13, 18, 19] ?_
  refine JA fun K0 hK0 => ?_
  refine awp_mut [some 143, some 144] rfl 1 rfl ?_
  simp only [zzK, QR, QP, QQ, JC, JE, JF, JN, zzB, zz6, QO, ↓Qb]
  refine mut_go [122000] F_go15 (spoilLegs_ (aqV r c amt ws) (by omega)) (by simp [QY, QX, memA, memC, instA, instC]) (by decide) (by first | exact ⟨by decide, by simp⟩ | rfl) ?_
  simp only [zzK, QR, QP, QQ, JC, JE, JF, JN, zzB, zz6, QO, ↓Qb, mArgs_nil, asE_cl, asF_cl, asD_ptr, asG_ptr, asD_ep, asG_ep, List.mem_singleton, forall_eq, asEc_cons, asEc_nil, mArgs_d, mArgs_m, mRows_nil, mRows_cons, mNewL, nxM, mBase, mName, oksL, List.getElem?_cons_zero, List.getElem?_cons_succ, zzF, asE_ag, asE_d, asE_ref, asEc_cons, asEc_nil, asF_d, asF_ref, asF_ag, asGs, QY, QX, QM, List.not_mem_nil, false_implies, forall_const, atsL, asD_self, asD_nil, asD_sl, asD_agg, asD_int, asD_bool, asD_func, asD_ag, asD_ref, asG_d, asG_ag, asG_ref, JV, QZ, Qa, JO, Qm, QT, QS, zz9, QB, QA, zzC, yyF, zzD, S_func, Sk_func]
  refine ⟨by simp [flatDs, flatD, legC, spoilL], ?_⟩
  refine kK hK0 [2, 4, 5, 6, 11, 12, 13, 18] ?_
  refine pq fun K0 hK0 => ?_
  simp only [zzK, QR, QP, QQ, F_ok24, F_ag24, F_sz24, zz8, zz23, zzD, QS, QN, zzH, zzC, QA, yyE, Qe, F_ok29, F_ag29, F_sz29, JC, JE, JF, zz14, JB, ledC, legs, rollC, memsD, instsD, assetsD, QW, zz6, QO, ↓Qb]
  refine cgA F_go18 (fun hG => refill_ nx l r c (by omega) hS hm) ?_
  simp only [zzK, QR, QP, QQ, F_ok24, F_ag24, F_sz24, zz8, zz23, zzD, QS, QN, zzH, zzC, QA, yyE, Qe, F_ok29, F_ag29, F_sz29, JC, JE, JF, zz14, JB, ledC, legs, rollC, memsD, instsD, assetsD, QW, zz6, QO, ↓Qb, atsL, oksG, JV, QZ, Qa, JO, Qm, QT, QS, zz9, QB, QA, S_mem, yyF, QF, zz2]
  refine kK hK0 [2, 4, 5, 6, 11, 12, 13, 15, 18, 19, 21] ?_
  refine pq fun K0 hK0 => ?_
  simp only [zzK, QR, QP, QQ, F_ok24, F_ag24, F_sz24, zz8, zz23, zzD, QS, QN, zzH, zzC, QA, yyE, Qe, F_ok29, F_ag29, F_sz29, JC, JE, JF, zz14, JB, ledC, legs, rollC, memsD, instsD, assetsD, QW, zz6, QO, ↓Qb]
  refine cgA F_go19 (fun hG => rRefillF nx l r c (by omega) hS hm) ?_
  simp only [zzK, QR, QP, QQ, F_ok24, F_ag24, F_sz24, zz8, zz23, zzD, QS, QN, zzH, zzC, QA, yyE, Qe, F_ok29, F_ag29, F_sz29, JC, JE, JF, zz14, JB, ledC, legs, rollC, memsD, instsD, assetsD, QW, zz6, QO, ↓Qb, atsL, oksG, JV, QZ, Qa, JO, Qm, QT, QS, zz9, QB, QA, S_mem, yyF, QF, zz2]
  refine kK hK0 [4, 5, 6, 11, 12, 13, 15, 17, 18, 19, 20, 21, 22] ?_
  refine JA fun K0 hK0 => ?_
  refine Qz F_mixed [some 161, some 162, some 163, some 164, some 165, some 166, some 167, some 168, some 169, some 170, some 171, some 172, some 173, some 174, some 175, some 176, some 18] rfl ?_
  simp only [zzK, QR, QP, QQ, QU, JZ, zz5, Qj, Qi, Qh, and_self, JC, JE, JF, zz13, JQ, JR, zz21, JM, zz34, JB, beq_self_eq_true, Gp_some, legs, fds, D.sl.injEq, zz6, QO, ↓Qb]
  refine cgA F_go14 (fun hG => kLegs_ (rfV ⟨nx, l⟩ r c) (by omega)) ?_
  simp only [zzK, QR, QP, QQ, QU, JZ, zz5, Qj, Qi, Qh, and_self, JC, JE, JF, zz13, JQ, JR, zz21, JM, zz34, JB, beq_self_eq_true, Gp_some, legs, fds, zz6, QO, ↓Qb, atsL, oksG, JV, QZ, Qa, JO, Qm, QT, QS, zz9, QB, QA, zzC, yyF, zzD, zz2]
  first | refine ⟨by simp, ?_⟩ | skip
  refine cgA F_go20 (fun hG => kfDues_ (rfU ⟨nx, l⟩ r c) (by omega)) ?_
  simp only [zzK, QR, QP, QQ, QU, JZ, zz5, Qj, Qi, Qh, and_self, JC, JE, JF, zz13, JQ, JR, zz21, JM, zz34, JB, beq_self_eq_true, Gp_some, legs, fds, zz6, QO, ↓Qb, atsL, oksG, JV, QZ, Qa, JO, Qm, QT, QS, zz9, QB, QA, zzC, yyF, zzD, zz2]
  first | refine ⟨by simp, ?_⟩ | skip
  refine kK hK0 [4, 5, 6, 11, 12, 13, 18, 19, 21] ?_
  refine JA fun K0 hK0 => ?_
  refine awp_mut [some 177, some 178] rfl 1 rfl ?_
  simp only [zzK, QR, QP, QQ, JC, JE, JF, JN, zzB, zz6, QO, ↓Qb]
  refine mut_go [150000] F_go15 (spoilLegs_ (rfV ⟨nx, l⟩ r c) (by omega)) (by simp [QY, QX, memA, memC, instA, instC]) (by decide) (by first | exact ⟨by decide, by simp⟩ | rfl) ?_
  simp only [zzK, QR, QP, QQ, JC, JE, JF, JN, zzB, zz6, QO, ↓Qb, mArgs_nil, asE_cl, asF_cl, asD_ptr, asG_ptr, asD_ep, asG_ep, List.mem_singleton, forall_eq, asEc_cons, asEc_nil, mArgs_d, mArgs_m, mRows_nil, mRows_cons, mNewL, nxM, mBase, mName, oksL, List.getElem?_cons_zero, List.getElem?_cons_succ, zzF, asE_ag, asE_d, asE_ref, asEc_cons, asEc_nil, asF_d, asF_ref, asF_ag, asGs, QY, QX, QM, List.not_mem_nil, false_implies, forall_const, atsL, asD_self, asD_nil, asD_sl, asD_agg, asD_int, asD_bool, asD_func, asD_ag, asD_ref, asG_d, asG_ag, asG_ref, JV, QZ, Qa, JO, Qm, QT, QS, zz9, QB, QA, zzC, yyF, zzD, S_func, Sk_func]
  refine ⟨by simp [flatDs, flatD, legC, spoilL], ?_⟩
  refine kK hK0 [4, 5, 6, 11, 12, 13, 18, 21] ?_
  refine JA fun K0 hK0 => ?_
  refine awp_mut [some 179, some 180] rfl 1 rfl ?_
  simp only [zzK, QR, QP, QQ, JC, JE, JF, JN, zzB, zz6, QO, ↓Qb]
  refine mut_go [150001] F_go21 (spoilFds_ (rfU ⟨nx, l⟩ r c) (by omega)) (by simp [QY, QX, memA, memC, instA, instC]) (by decide) (by first | exact ⟨by decide, by simp⟩ | rfl) ?_
  simp only [zzK, QR, QP, QQ, JC, JE, JF, JN, zzB, zz6, QO, ↓Qb, mArgs_nil, asE_cl, asF_cl, asD_ptr, asG_ptr, asD_ep, asG_ep, List.mem_singleton, forall_eq, asEc_cons, asEc_nil, mArgs_d, mArgs_m, mRows_nil, mRows_cons, mNewL, nxM, mBase, mName, oksL, List.getElem?_cons_zero, List.getElem?_cons_succ, zzF, asE_ag, asE_d, asE_ref, asEc_cons, asEc_nil, asF_d, asF_ref, asF_ag, asGs, QY, QX, QM, List.not_mem_nil, false_implies, forall_const, atsL, asD_self, asD_nil, asD_sl, asD_agg, asD_int, asD_bool, asD_func, asD_ag, asD_ref, asG_d, asG_ag, asG_ref, JV, QZ, Qa, JO, Qm, QT, QS, zz9, QB, QA, zzC, yyF, zzD, S_func, Sk_func]
  refine ⟨by simp [flatDs, flatD, fdueC, spoilFd], ?_⟩
  refine kK hK0 [4, 5, 6, 11, 12, 13, 18] ?_
  refine JA fun K0 hK0 => ?_
  refine Qz F_mixed [some 181, some 182, some 183, some 184, some 185, some 186, some 187, some 188, some 189, some 190, some 191, some 192, some 193, some 194, some 195, some 196, some 197, some 198, some 199, some 10] rfl ?_
  simp only [zzK, QR, QP, QQ, QU, JZ, zz5, Qj, Qi, Qh, JC, F_ok24, F_ag24, F_sz24, zz8, zz23, zzD, QS, QN, zzH, zzC, QA, yyE, Qe, JE, JF, zz13, JQ, JR, F_ok29, F_ag29, F_sz29, JB, ledC, legs, rollC, memsD, instsD, assetsD, QW, ints, beq_self_eq_true, Gp_some, legs, fds, D.sl.injEq, zz6, QO, ↓Qb]
  refine cgA F_go22 (fun hG => kLed_ nx l (by omega)) ?_
  simp only [zzK, QR, QP, QQ, QU, JZ, zz5, Qj, Qi, Qh, JC, F_ok24, F_ag24, F_sz24, zz8, zz23, zzD, QS, QN, zzH, zzC, QA, yyE, Qe, JE, JF, zz13, JQ, JR, F_ok29, F_ag29, F_sz29, JB, ledC, legs, rollC, memsD, instsD, assetsD, QW, ints, beq_self_eq_true, Gp_some, legs, fds, zz6, QO, ↓Qb, atsL, oksG, JV, QZ, Qa, JO, Qm, QT, QS, zz9, QB, QA, S_mem, yyF, QF, zz2]
  refine cgA F_go23 (fun hG => kRoll_ r hS) ?_
  simp only [zzK, QR, QP, QQ, QU, JZ, zz5, Qj, Qi, Qh, JC, F_ok24, F_ag24, F_sz24, zz8, zz23, zzD, QS, QN, zzH, zzC, QA, yyE, Qe, JE, JF, zz13, JQ, JR, F_ok29, F_ag29, F_sz29, JB, ledC, legs, rollC, memsD, instsD, assetsD, QW, ints, beq_self_eq_true, Gp_some, legs, fds, zz6, QO, ↓Qb, atsL, oksG, JV, QZ, Qa, JO, Qm, QT, QS, zz9, QB, QA, S_mem, yyF, QF, zz2]
  refine cgA F_go24 (fun hG => kInts_ ws (by omega)) ?_
  simp only [zzK, QR, QP, QQ, QU, JZ, zz5, Qj, Qi, Qh, JC, F_ok24, F_ag24, F_sz24, zz8, zz23, zzD, QS, QN, zzH, zzC, QA, yyE, Qe, JE, JF, zz13, JQ, JR, F_ok29, F_ag29, F_sz29, JB, ledC, legs, rollC, memsD, instsD, assetsD, QW, ints, beq_self_eq_true, Gp_some, legs, fds, zz6, QO, ↓Qb, atsL, oksG, JV, QZ, Qa, JO, Qm, QT, QS, zz9, QB, QA, S_mem, yyF, QF, zz2]
  refine cgA F_go25 (fun hG => wakes21_) ?_
  simp only [zzK, QR, QP, QQ, QU, JZ, zz5, Qj, Qi, Qh, JC, F_ok24, F_ag24, F_sz24, zz8, zz23, zzD, QS, QN, zzH, zzC, QA, yyE, Qe, JE, JF, zz13, JQ, JR, F_ok29, F_ag29, F_sz29, JB, ledC, legs, rollC, memsD, instsD, assetsD, QW, ints, beq_self_eq_true, Gp_some, legs, fds, zz6, QO, ↓Qb, atsL, oksG, JV, QZ, Qa, JO, Qm, QT, QS, zz9, QB, QA, S_mem, yyF, QF, zz2]
  refine kK hK0 [10] ?_
  refine awp_ret ?_
  simp only [zz6, QO, ↓Qb]
  refine dnA ?_
  simp only [QD, QE, resA, JZ, QR, QP, look_cons, QQ, cond_true, cond_false, resAll]
  try rfl
end Go.Proofs.YtjkfadaedgidpaaGreat
