import Derived.Test.YtjkfadaedgidpaaGreatWpB
import Derived.Test.YtjkfadaedgidpaaGreatSpecFE
namespace Go.Proofs.YtjkfadaedgidpaaGreat
open Go.RowKit
set_option linter.unusedVariables false
set_option linter.unusedSimpArgs false
open Option renaming map_some → QA, bind_some → QB
open List renaming length_append → QC, map_cons → QD, map_nil → QE, length_cons → QF, append_nil → QG, drop_zero → QH, getD_cons_zero → QI, getD_cons_succ → QJ, take_succ_cons → QK, drop_succ_cons → QL
open Nat renaming zero_add → QN, reduceEqDiff → QO, reduceLeDiff → QP, reduceBEq → QQ, reduceLT → QR, reduceAdd → QS, reduceMul → QT, reduceSub → QU
open Int renaming toNat_natCast → QV
open D.agg renaming injEq → QW
open AV renaming idsL → QX, ids → QY, ren → QZ, renL → Qa
open _root_ renaming reduceIte → Qb, cond_false → Qc, cond_true → Qd, reduceCtorEq → Qe, imp_self → Qh, imp_and → Qi, and_imp → Qj
open IntKind renaming wrap → Ql
open ORow renaming row → Qm
open VLe renaming refl → Qn
open RowLe renaming same → Qu
open Go.Proofs.YtjkfadaedgidpaaGreat renaming awp_plain → Qz, awp_seq → JA, evS_assign → JB, evS_move → JC, look_cons → JD, evS_call → JE, evC_value → JF, awp_block → JH, awp_skip → JI, awp_ret → JJ, awp_exit → JK, awp_loop → JL, gr_v → JM, len_map → JN, addRows → JO, resAll → JP, pickK_l → JQ, pickK_r → JR, newRow1 → JS, freeN → JV, evS_indexAddr → JW, S_getD → JZ, flatAs → Jb, flatD → Jc
theorem F_go41 : goFn Tryz.prog 41 := ⟨_, Tryz.func41, rfl, rfl⟩
theorem F_off81_0 : offT Tryz.prog 81 0 = some 0 := by kernel_rfl
theorem F_off81_1 : offT Tryz.prog 81 1 = some 1 := by kernel_rfl
theorem F_off81_2 : offT Tryz.prog 81 2 = some 2 := by kernel_rfl
theorem F_sl49 : sliceT Tryz.prog 49 = some 81 := by kernel_rfl
theorem F_sz81 : szT Tryz.prog 81 = 3 := by kernel_rfl
theorem F_ok81 : tyOk Tryz.prog 81 = true := by kernel_rfl
theorem F_ag81 : aggT Tryz.prog 81 = true := by kernel_rfl
theorem F_go49 : goFn Tryz.prog 49 := ⟨_, Tryz.func49, rfl, rfl⟩
theorem F_off24_0 : offT Tryz.prog 24 0 = some 0 := by kernel_rfl
theorem F_off24_1 : offT Tryz.prog 24 1 = some 1 := by kernel_rfl
theorem F_ok22 : tyOk Tryz.prog 22 = true := by kernel_rfl
theorem F_ag22 : aggT Tryz.prog 22 = false := by kernel_rfl
theorem F_sz22 : szT Tryz.prog 22 = 1 := by kernel_rfl
theorem F_sl22 : sliceT Tryz.prog 22 = some 86 := by kernel_rfl
theorem F_sz86 : szT Tryz.prog 86 = 4 := by kernel_rfl
theorem F_off86_0 : offT Tryz.prog 86 0 = some 0 := by kernel_rfl
theorem F_off86_1 : offT Tryz.prog 86 1 = some 3 := by kernel_rfl
theorem F_ag24 : aggT Tryz.prog 24 = true := by kernel_rfl
theorem F_sz24 : szT Tryz.prog 24 = 2 := by kernel_rfl
theorem F_ok24 : tyOk Tryz.prog 24 = true := by kernel_rfl
theorem F_zero24 : zeroT Tryz.prog 24 = some [(.int .i64 0), (.slice none 0 0)] := by kernel_rfl
theorem F_bld24 : bldT Tryz.prog 24 = true := by kernel_rfl
theorem F_fld24_0 : fldT Tryz.prog 24 0 = some (0, 1) := by kernel_rfl
theorem F_zero86 : zeroT Tryz.prog 86 = some [(.int .i64 0), (.int .i64 0), (.int .i64 0), (.int .i64 0)] := by kernel_rfl
theorem F_by86 : byT Tryz.prog 86 = 32 := by kernel_rfl
theorem F_sl25 : sliceT Tryz.prog 25 = some 77 := by kernel_rfl
theorem F_sz77 : szT Tryz.prog 77 = 3 := by kernel_rfl
theorem F_off77_0 : offT Tryz.prog 77 0 = some 0 := by kernel_rfl
theorem F_off77_1 : offT Tryz.prog 77 1 = some 1 := by kernel_rfl
theorem F_off77_2 : offT Tryz.prog 77 2 = some 2 := by kernel_rfl
theorem F_off113_6 : offT Tryz.prog 113 6 = some 6 := by kernel_rfl
theorem F_arr111 : arrT Tryz.prog 111 = some (6, 3) := by kernel_rfl
theorem F_off113_0 : offT Tryz.prog 113 0 = some 0 := by kernel_rfl
theorem F_off113_1 : offT Tryz.prog 113 1 = some 1 := by kernel_rfl
theorem F_off113_2 : offT Tryz.prog 113 2 = some 2 := by kernel_rfl
theorem F_off113_3 : offT Tryz.prog 113 3 = some 3 := by kernel_rfl
theorem F_off113_4 : offT Tryz.prog 113 4 = some 4 := by kernel_rfl
theorem F_off113_5 : offT Tryz.prog 113 5 = some 5 := by kernel_rfl
theorem F_sl26 : sliceT Tryz.prog 26 = some 113 := by kernel_rfl
theorem F_sz113 : szT Tryz.prog 113 = 12 := by kernel_rfl
theorem F_ok113 : tyOk Tryz.prog 113 = true := by kernel_rfl
theorem F_ag113 : aggT Tryz.prog 113 = true := by kernel_rfl
theorem F_go94 : goFn Tryz.prog 94 := ⟨_, Tryz.func94, rfl, rfl⟩
theorem F_off118_0 : offT Tryz.prog 118 0 = some 0 := by kernel_rfl
theorem F_off118_1 : offT Tryz.prog 118 1 = some 1 := by kernel_rfl
theorem F_off118_2 : offT Tryz.prog 118 2 = some 2 := by kernel_rfl
theorem F_off118_3 : offT Tryz.prog 118 3 = some 3 := by kernel_rfl
theorem F_sl27 : sliceT Tryz.prog 27 = some 118 := by kernel_rfl
theorem F_sz118 : szT Tryz.prog 118 = 4 := by kernel_rfl
theorem F_ok118 : tyOk Tryz.prog 118 = true := by kernel_rfl
theorem F_ag118 : aggT Tryz.prog 118 = true := by kernel_rfl
theorem F_go95 : goFn Tryz.prog 95 := ⟨_, Tryz.func95, rfl, rfl⟩
theorem F_off29_0 : offT Tryz.prog 29 0 = some 0 := by kernel_rfl
theorem F_ok25 : tyOk Tryz.prog 25 = true := by kernel_rfl
theorem F_ag25 : aggT Tryz.prog 25 = false := by kernel_rfl
theorem F_sz25 : szT Tryz.prog 25 = 1 := by kernel_rfl
theorem F_off29_1 : offT Tryz.prog 29 1 = some 1 := by kernel_rfl
theorem F_ok26 : tyOk Tryz.prog 26 = true := by kernel_rfl
theorem F_ag26 : aggT Tryz.prog 26 = false := by kernel_rfl
theorem F_sz26 : szT Tryz.prog 26 = 1 := by kernel_rfl
theorem F_off29_2 : offT Tryz.prog 29 2 = some 2 := by kernel_rfl
theorem F_ok27 : tyOk Tryz.prog 27 = true := by kernel_rfl
theorem F_ag27 : aggT Tryz.prog 27 = false := by kernel_rfl
theorem F_sz27 : szT Tryz.prog 27 = 1 := by kernel_rfl
theorem F_go50 : goFn Tryz.prog 50 := ⟨_, Tryz.func50, rfl, rfl⟩
theorem F_go51 : goFn Tryz.prog 51 := ⟨_, Tryz.func51, rfl, rfl⟩
theorem F_go52 : goFn Tryz.prog 52 := ⟨_, Tryz.func52, rfl, rfl⟩
theorem F_ag29 : aggT Tryz.prog 29 = true := by kernel_rfl
theorem F_sz29 : szT Tryz.prog 29 = 3 := by kernel_rfl
theorem F_ok29 : tyOk Tryz.prog 29 = true := by kernel_rfl
theorem F_zero29 : zeroT Tryz.prog 29 = some [(.slice none 0 0), (.slice none 0 0), (.slice none 0 0)] := by kernel_rfl
theorem F_zero77 : zeroT Tryz.prog 77 = some [(.int .i64 0), (.int .i64 0), (.int .i64 0)] := by kernel_rfl
theorem F_by77 : byT Tryz.prog 77 = 24 := by kernel_rfl
theorem F_zero113 : zeroT Tryz.prog 113 = some [(.int .i64 0), (.int .i64 0), (.int .i64 0), (.int .i64 0), (.int .i64 0), (.int .i64 0), (.int .i64 0), (.int .i64 0), (.int .i64 0), (.int .i64 0), (.int .i64 0), (.int .i64 0)] := by kernel_rfl
theorem F_by113 : byT Tryz.prog 113 = 96 := by kernel_rfl
theorem F_zero118 : zeroT Tryz.prog 118 = some [(.int .i64 0), (.int .i64 0), (.int .i64 0), (.int .i64 0)] := by kernel_rfl
theorem F_by118 : byT Tryz.prog 118 = 32 := by kernel_rfl
theorem kAcct_ (a : AcV) : ACalls Tryz.prog 41 [.agg (acC a), .agg (acC a)] [] (bv true) := by
 refine acalls_S (rs := [.tmp 4]) Tryz.func41 rfl rfl 24 [(0, .d (.agg (acC a))), (1, .d (.agg (acC a)))] rfl (by simp) rfl ?_
 refine pq fun K0 hK0 => ?_
 simp only [zzK, QR, QP, QQ, zz35, JS, zz1, zzG, zzD, zzC, QA, yyE, Qe, QS, QN, zzH, JB, acC, zz6, QO, ↓Qb]
 refine kK hK0 [2, 3] ?_
 refine JA fun K0 hK0 => ?_
 refine Qz F_mixed [some 5, some 6, some 7, some 8, some 9, some 10, some 11, some 12, some 13, some 14, some 15, some 16, some 17, some 18, some 19, some 20, some 21, some 22, some 23, some 4] rfl ?_
 simp only [zzK, QR, QP, QQ, QU, JZ, zz5, Qj, Qi, Qh, zz19, zz23, F_off73_0, zzH, QN, QS, F_ok3, F_ag3, F_sz3, zz8, zzD, zzC, QA, yyE, Qe, zz21, JM, zz34, JC, F_off73_1, zz13, JQ, JR, F_off73_2, JB, zz6, QO, ↓Qb]
 refine kK hK0 [4] ?_
 refine JJ ?_
 simp only [zz6, QO, ↓Qb]
 refine dnA ?_
 simp only [QD, QE, resA, JZ, QR, QP, JD, QQ, Qd, Qc, JP]
 simp
theorem kLegs_ (l : List LegV) (hl : l.length ≤ 1000000) : ACalls Tryz.prog 14 [legs l, legs l] [] (bv true) := by
 refine acalls_S (rs := [.tmp 4]) Tryz.func14 rfl rfl 42 [(0, .d (legs l)), (1, .d (legs l))] rfl (by simp) rfl ?_
 refine pq fun K0 hK0 => ?_
 simp only [zzK, QR, QP, QQ, JB, zz6, QO, ↓Qb]
 refine kK hK0 [0, 1] ?_
 refine JA fun K0 hK0 => ?_
 refine pq fun K1 hK1 => ?_
 simp only [zzK, QR, QP, QQ, JC, JE, zz12, F_sl41, Option.isSome_some, zz21, JM, zz28, legs, JN, zz6, QO, ↓Qb]
 refine kK hK1 [0, 1, 10] ?_
 refine cnA ?_ ?_
 ·intro hb
  simp at hb
 ·intro hb
  clear hb
  refine JI ?_
  simp only [zz6, QO, ↓Qb]
  refine kK hK0 [0, 1] ?_
  refine JA fun K0 hK0 => ?_
  refine pq fun K1 hK1 => ?_
  simp only [zzK, QR, QP, QQ, JB, zz6, QO, ↓Qb]
  refine kK hK1 [0, 1, 5] ?_
  refine JH ?_
  refine JL (fun m s => ∃ pre post : List LegV, l = pre ++ post ∧ m = post.length ∧ s = S 42 [(0, .d (legs l)), (1, .d (legs l)), (5, .d (iv pre.length))] []) l.length _ (leK id [] (hl := by simp only [leV, JD, QQ, Qd, Qc, legs, JN]; exact ⟨Qn _, Qn _, Qn _, trivial⟩)) ⟨[], l, rfl, rfl, rfl⟩ ?_
  rintro m s ⟨pre, post, rfl, rfl, rfl⟩
  refine JA fun K2 hK2 => ?_
  refine pq fun K3 hK3 => ?_
  simp only [zzK, QR, QP, QQ, JC, JE, zz12, F_sl41, Option.isSome_some, zz21, JM, zz22, legs, JN, zz6, QO, ↓Qb]
  refine kK hK3 [0, 1, 5, 14] ?_
  refine cnA ?_ ?_
  ·intro hb
   obtain ⟨x, post, rfl⟩ := more_of hb; clear hb
   refine JI ?_
   simp only [zz6, QO, ↓Qb]
   refine kK hK2 [0, 1, 5] ?_
   refine JA fun K2 hK2 => ?_
   refine JH ?_
   refine JA fun K3 hK3 => ?_
   refine awp_draw F_mixed [some 17, some 18, some 19, some 20, some 21, some 22, some 23, some 24, some 25, some 26, some 27, some 28, some 29, some 30, some 31, some 32, some 33, some 34, some 35, some 36, some 37, some 38, some 39, some 40, some 41] rfl (by kernel_rfl) ?_
   simp only [zzK, QR, QP, QQ, QU, JZ, zz5, Qj, Qi, Qh, JC, JW, zz23, zz24, F_sl41, F_sz75, QA, zzC, yyE, Qe, zz19, F_off75_0, zzH, QN, QS, F_ok73, F_ag73, F_sz73, zz8, zzD, JE, JF, zz29, JM, zz30, F_off75_1, F_ok3, F_ag3, F_sz3, zz21, zz28, zz13, JQ, JR, legs, legC, getD_mid, JN, lt_mid, ge_mid, QW, acC, zz6, QO, ↓Qb]
   refine cgA F_go41 (fun hG => kAcct_ x.ac) ?_
   simp only [zzK, QR, QP, QQ, QU, JZ, zz5, Qj, Qi, Qh, JC, JW, zz23, zz24, F_sl41, F_sz75, QA, zzC, yyE, Qe, zz19, F_off75_0, zzH, QN, QS, F_ok73, F_ag73, F_sz73, zz8, zzD, JE, JF, zz29, JM, zz30, F_off75_1, F_ok3, F_ag3, F_sz3, zz21, zz28, zz13, JQ, JR, legs, legC, getD_mid, JN, lt_mid, ge_mid, QW, acC, zz6, QO, ↓Qb, atsL, oksG, JV, QZ, Qa, JO, Qm, QT, QS, zz9, QB, QA, S_mem, yyF, QF, zz2]
   refine kK hK3 [0, 1, 5, 41] ?_
   refine cnA ?_ ?_
   ·intro hb
    simp at hb
   ·intro hb
    clear hb
    refine JI ?_
    simp only [zz6, QO, ↓Qb]
    refine kK hK2 [0, 1, 5] ?_
    refine pz ?_
    simp only [zzK, QR, QP, QQ, JC, zz21, JM, zz26, JB, zz6, QO, ↓Qb]
    refine ⟨post.length, _, by simp, leK id [] (hl := by simp only [leV, JD, QQ, Qd, Qc, legs, JN, wrap_len pre x (by simp at hl; omega)]; exact ⟨Qn _, Qn _, Qn _, trivial⟩), pre ++ [x], post, by simp, rfl, rfl⟩
  ·intro hb
   clear hb
   refine JK ?_
   simp only [zz6, QO, ↓Qb]
   refine kK hK0 [] ?_
   refine pq fun K0 hK0 => ?_
   simp only [zzK, QR, QP, QQ, JB, zz6, QO, ↓Qb]
   refine kK hK0 [4] ?_
   refine JJ ?_
   simp only [zz6, QO, ↓Qb]
   refine dnA ?_
   simp only [QD, QE, resA, JZ, QR, QP, JD, QQ, Qd, Qc, JP]
   
theorem spoilLegs_ (l : List LegV) (hl : l.length ≤ 1000000) : MCalls Tryz.prog 15 [.m 0] [⟨75, 4, l.map legC⟩] [⟨75, 4, (l.map spoilL).map legC⟩] [] (.tp []) := by
 refine mcalls_S (rs := []) Tryz.func15 rfl rfl 14 [(0, .ref 1000000000 (l.map legC).length)] [(1000000000, (⟨True, 75, 4, true, false, 1000000000, (l.map legC).map (·.map .d)⟩ : ARow))] rfl (by simp) (by rfl) (by rfl) (by rfl) (by rfl) (by rfl) ?_
 simp only [avC_map, JN]
 refine pq fun K0 hK0 => ?_
 simp only [zzK, QR, QP, QQ, JB, zz6, QO, ↓Qb]
 refine kK hK0 [0, 2] ?_
 refine JH ?_
 refine JL (fun m s => ∃ A pre post : List LegV, l = pre ++ post ∧ A = pre.map spoilL ∧ m = post.length ∧ s = S 14 [(0, .ref 1000000000 (A ++ post).length), (2, .d (iv A.length))] [(1000000000, (⟨True, 75, 4, true, false, 1000000000, (A ++ post).map (avC legC)⟩ : ARow))]) l.length _ (leK id [] (hr := by exact ⟨fun _ => ⟨_, rfl, Qu (by simp) (idsL_avC _ _)⟩, (by simp), trivial⟩) (hwr := by exact ⟨fun e he r' hr' => by rw [idsL_avC _ _ e he] at hr'; simp at hr', trivial⟩)) ⟨[], [], l, rfl, rfl, rfl, rfl⟩ ?_
 rintro m s ⟨A, pre, post, hsp, hA, rfl, rfl⟩
 refine JA fun K1 hK1 => ?_
 refine pq fun K2 hK2 => ?_
 simp only [zzK, QR, QP, QQ, JC, JE, zz12, F_sl41, Option.isSome_some, zz21, JM, zz22, zz6, QO, ↓Qb]
 refine kK hK2 [0, 2, 6] ?_
 refine cnA ?_ ?_
 ·intro hb
  obtain ⟨x, post, rfl⟩ := more_of hb; clear hb
  have hw : Ql .i64 ((A.length : Int) + 1) = ((A ++ [spoilL x]).length : Int) := by
   have e := congrArg List.length hsp
   simp only [QC, QF] at e
   have e2 : A.length = pre.length := by rw [hA]; simp
   rw [wrapI (by omega) (by omega)]; simp
  refine JI ?_
  simp only [zz6, QO, ↓Qb]
  refine kK hK1 [0, 2] ?_
  refine JA fun K1 hK1 => ?_
  refine JH ?_
  refine pz ?_
  simp only [zzK, QR, QP, QQ, JC, JW, zz23, zz24, F_sl41, F_sz75, QA, zzC, yyE, Qe, zz19, F_off75_0, zzH, QN, QS, F_off73_1, zz18, F_ok3, F_sz3, splice, QG, zzD, zz1, zzG, getD_mid, JN, lt_mid, ge_mid, lt_midN, set_mid, avC, legC, QD, zz6, QO, ↓Qb]
  refine kK hK1 [0, 2] ?_
  refine pz ?_
  simp only [zzK, QR, QP, QQ, JC, zz21, JM, zz26, JB, zz6, QO, ↓Qb]
  refine ⟨post.length, _, by simp, le_SK id [] rfl (l' := [(0, .ref 1000000000 ((A ++ [spoilL x]) ++ post).length), (2, .d (iv (A ++ [spoilL x]).length))]) (m' := [(1000000000, (⟨True, 75, 4, true, false, 1000000000, ((A ++ [spoilL x]) ++ post).map (avC legC)⟩ : ARow))]) ?_ ?_ ?_ ?_, A ++ [spoilL x], pre ++ [x], post, by simp [hsp], by simp [hA], rfl, rfl⟩
  ·simp only [leV, JD, QQ, Qd, Qc, hw]
   refine ⟨?_, Qn _, trivial⟩
   rw [show (A ++ x :: post).length = (A ++ [spoilL x] ++ post).length from by simp]; exact Qn _
  ·exact ⟨fun _ => ⟨_, rfl, Qu (by simp [avC, legC, spoilL]) (by
    intro e he
    rcases List.mem_append.1 he with he | he
    ·exact idsL_avC _ _ e he
    ·rcases List.mem_cons.1 he with rfl | he
     ·simp [QX, QY]
     ·exact idsL_avC _ _ e he)⟩, (by simp), trivial⟩
  ·simp [wfV, QY, lookR]
  ·exact ⟨fun e he r' hr' => by rw [idsL_avC _ _ e he] at hr'; simp at hr', trivial⟩
 ·intro hb
  obtain rfl := none_of hb; clear hb
  simp only [QG] at hsp ⊢
  obtain rfl : l = pre := hsp
  subst hA
  refine JK ?_
  simp only [zz6, QO, ↓Qb]
  try simp only [QG]
  refine doneM [] (by simp [resCs, resC, S, List.getD, JD, lookR, ]) ?_ (by simp [flatA, Jb, Jc, ]) (by simp [QY, QX, ]) (by decide) (by simp) ?_ ?_
  ·simp only [QD, QE, resA, JZ, S_mem, lookR_cons, lookR_nil, QR, QP, JD, QQ, Qd, Qc, JP, QI, QJ, QH, QL, QK, List.take_zero, ]; rfl
  ·exact trivial
  ·exact ⟨⟨_, rfl, trivial, rfl, rfl, (avC_map _ _).symm⟩, by simp [flatDs, Jc, legC, spoilL], trivial⟩
theorem kfDue_ (d : FdV) : ACalls Tryz.prog 49 [.agg (fdueC d), .agg (fdueC d)] [] (bv true) := by
 refine acalls_S (rs := [.tmp 4]) Tryz.func49 rfl rfl 24 [(0, .d (.agg (fdueC d))), (1, .d (.agg (fdueC d)))] rfl (by simp) rfl ?_
 refine pq fun K0 hK0 => ?_
 simp only [zzK, QR, QP, QQ, zz35, JS, zz1, zzG, zzD, zzC, QA, yyE, Qe, QS, QN, zzH, JB, fdueC, zz6, QO, ↓Qb]
 refine kK hK0 [2, 3] ?_
 refine JA fun K0 hK0 => ?_
 refine Qz F_mixed [some 5, some 6, some 7, some 8, some 9, some 10, some 11, some 12, some 13, some 14, some 15, some 16, some 17, some 18, some 19, some 20, some 21, some 22, some 23, some 4] rfl ?_
 simp only [zzK, QR, QP, QQ, QU, JZ, zz5, Qj, Qi, Qh, zz19, zz23, F_off81_0, zzH, QN, QS, F_ok3, F_ag3, F_sz3, zz8, zzD, zzC, QA, yyE, Qe, zz21, JM, zz34, JC, F_off81_1, zz13, JQ, JR, F_off81_2, JB, zz6, QO, ↓Qb]
 refine kK hK0 [4] ?_
 refine JJ ?_
 simp only [zz6, QO, ↓Qb]
 refine dnA ?_
 simp only [QD, QE, resA, JZ, QR, QP, JD, QQ, Qd, Qc, JP]
 simp
theorem kfDues_ (l : List FdV) (hl : l.length ≤ 1000000) : ACalls Tryz.prog 20 [fds l, fds l] [] (bv true) := by
 refine acalls_S (rs := [.tmp 4]) Tryz.func20 rfl rfl 27 [(0, .d (fds l)), (1, .d (fds l))] rfl (by simp) rfl ?_
 refine pq fun K0 hK0 => ?_
 simp only [zzK, QR, QP, QQ, JB, zz6, QO, ↓Qb]
 refine kK hK0 [0, 1] ?_
 refine JA fun K0 hK0 => ?_
 refine pq fun K1 hK1 => ?_
 simp only [zzK, QR, QP, QQ, JC, JE, zz12, F_sl49, Option.isSome_some, zz21, JM, zz28, fds, JN, zz6, QO, ↓Qb]
 refine kK hK1 [0, 1, 10] ?_
 refine cnA ?_ ?_
 ·intro hb
  simp at hb
 ·intro hb
  clear hb
  refine JI ?_
  simp only [zz6, QO, ↓Qb]
  refine kK hK0 [0, 1] ?_
  refine JA fun K0 hK0 => ?_
  refine pq fun K1 hK1 => ?_
  simp only [zzK, QR, QP, QQ, JB, zz6, QO, ↓Qb]
  refine kK hK1 [0, 1, 5] ?_
  refine JH ?_
  refine JL (fun m s => ∃ pre post : List FdV, l = pre ++ post ∧ m = post.length ∧ s = S 27 [(0, .d (fds l)), (1, .d (fds l)), (5, .d (iv pre.length))] []) l.length _ (leK id [] (hl := by simp only [leV, JD, QQ, Qd, Qc, fds, JN]; exact ⟨Qn _, Qn _, Qn _, trivial⟩)) ⟨[], l, rfl, rfl, rfl⟩ ?_
  rintro m s ⟨pre, post, rfl, rfl, rfl⟩
  refine JA fun K2 hK2 => ?_
  refine pq fun K3 hK3 => ?_
  simp only [zzK, QR, QP, QQ, JC, JE, zz12, F_sl49, Option.isSome_some, zz21, JM, zz22, fds, JN, zz6, QO, ↓Qb]
  refine kK hK3 [0, 1, 5, 14] ?_
  refine cnA ?_ ?_
  ·intro hb
   obtain ⟨x, post, rfl⟩ := more_of hb; clear hb
   refine JI ?_
   simp only [zz6, QO, ↓Qb]
   refine kK hK2 [0, 1, 5] ?_
   refine JA fun K2 hK2 => ?_
   refine JH ?_
   refine JA fun K3 hK3 => ?_
   refine awp_draw F_mixed [some 17, some 18, some 19, some 20, some 21, some 22, some 23, some 24, some 25, some 26] rfl (by kernel_rfl) ?_
   simp only [zzK, QR, QP, QQ, JC, JW, zz23, zz24, F_sl49, F_sz81, QA, zzC, yyE, Qe, F_ok81, F_ag81, zz8, zzD, QS, QN, zzH, JE, JF, zz29, JM, zz30, fds, fdueC, getD_mid, JN, lt_mid, ge_mid, QW, zz6, QO, ↓Qb]
   refine cgA F_go49 (fun hG => kfDue_ x) ?_
   simp only [zzK, QR, QP, QQ, JC, JW, zz23, zz24, F_sl49, F_sz81, QA, zzC, yyE, Qe, F_ok81, F_ag81, zz8, zzD, QS, QN, zzH, JE, JF, zz29, JM, zz30, fds, fdueC, getD_mid, JN, lt_mid, ge_mid, QW, zz6, QO, ↓Qb, atsL, oksG, JV, QZ, Qa, JO, Qm, QT, QS, zz9, QB, QA, S_mem, yyF, QF, zz2]
   refine kK hK3 [0, 1, 5, 26] ?_
   refine cnA ?_ ?_
   ·intro hb
    simp at hb
   ·intro hb
    clear hb
    refine JI ?_
    simp only [zz6, QO, ↓Qb]
    refine kK hK2 [0, 1, 5] ?_
    refine pz ?_
    simp only [zzK, QR, QP, QQ, JC, zz21, JM, zz26, JB, zz6, QO, ↓Qb]
    refine ⟨post.length, _, by simp, leK id [] (hl := by simp only [leV, JD, QQ, Qd, Qc, fds, JN, wrap_len pre x (by simp at hl; omega)]; exact ⟨Qn _, Qn _, Qn _, trivial⟩), pre ++ [x], post, by simp, rfl, rfl⟩
  ·intro hb
   clear hb
   refine JK ?_
   simp only [zz6, QO, ↓Qb]
   refine kK hK0 [] ?_
   refine pq fun K0 hK0 => ?_
   simp only [zzK, QR, QP, QQ, JB, zz6, QO, ↓Qb]
   refine kK hK0 [4] ?_
   refine JJ ?_
   simp only [zz6, QO, ↓Qb]
   refine dnA ?_
   simp only [QD, QE, resA, JZ, QR, QP, JD, QQ, Qd, Qc, JP]
   
theorem spoilFds_ (l : List FdV) (hl : l.length ≤ 1000000) : MCalls Tryz.prog 21 [.m 0] [⟨81, 3, l.map fdueC⟩] [⟨81, 3, (l.map spoilFd).map fdueC⟩] [] (.tp []) := by
 refine mcalls_S (rs := []) Tryz.func21 rfl rfl 13 [(0, .ref 1000000000 (l.map fdueC).length)] [(1000000000, (⟨True, 81, 3, true, false, 1000000000, (l.map fdueC).map (·.map .d)⟩ : ARow))] rfl (by simp) (by rfl) (by rfl) (by rfl) (by rfl) (by rfl) ?_
 simp only [avC_map, JN]
 refine pq fun K0 hK0 => ?_
 simp only [zzK, QR, QP, QQ, JB, zz6, QO, ↓Qb]
 refine kK hK0 [0, 2] ?_
 refine JH ?_
 refine JL (fun m s => ∃ A pre post : List FdV, l = pre ++ post ∧ A = pre.map spoilFd ∧ m = post.length ∧ s = S 13 [(0, .ref 1000000000 (A ++ post).length), (2, .d (iv A.length))] [(1000000000, (⟨True, 81, 3, true, false, 1000000000, (A ++ post).map (avC fdueC)⟩ : ARow))]) l.length _ (leK id [] (hr := by exact ⟨fun _ => ⟨_, rfl, Qu (by simp) (idsL_avC _ _)⟩, (by simp), trivial⟩) (hwr := by exact ⟨fun e he r' hr' => by rw [idsL_avC _ _ e he] at hr'; simp at hr', trivial⟩)) ⟨[], [], l, rfl, rfl, rfl, rfl⟩ ?_
 rintro m s ⟨A, pre, post, hsp, hA, rfl, rfl⟩
 refine JA fun K1 hK1 => ?_
 refine pq fun K2 hK2 => ?_
 simp only [zzK, QR, QP, QQ, JC, JE, zz12, F_sl49, Option.isSome_some, zz21, JM, zz22, zz6, QO, ↓Qb]
 refine kK hK2 [0, 2, 6] ?_
 refine cnA ?_ ?_
 ·intro hb
  obtain ⟨x, post, rfl⟩ := more_of hb; clear hb
  have hw : Ql .i64 ((A.length : Int) + 1) = ((A ++ [spoilFd x]).length : Int) := by
   have e := congrArg List.length hsp
   simp only [QC, QF] at e
   have e2 : A.length = pre.length := by rw [hA]; simp
   rw [wrapI (by omega) (by omega)]; simp
  refine JI ?_
  simp only [zz6, QO, ↓Qb]
  refine kK hK1 [0, 2] ?_
  refine JA fun K1 hK1 => ?_
  refine JH ?_
  refine pz ?_
  simp only [zzK, QR, QP, QQ, JC, JW, zz23, zz24, F_sl49, F_sz81, QA, zzC, yyE, Qe, zz19, F_off81_0, zzH, QN, QS, zz18, F_ok3, F_sz3, splice, QG, zzD, zz1, zzG, getD_mid, JN, lt_mid, ge_mid, lt_midN, set_mid, avC, fdueC, QD, zz6, QO, ↓Qb]
  refine kK hK1 [0, 2] ?_
  refine pz ?_
  simp only [zzK, QR, QP, QQ, JC, zz21, JM, zz26, JB, zz6, QO, ↓Qb]
  refine ⟨post.length, _, by simp, le_SK id [] rfl (l' := [(0, .ref 1000000000 ((A ++ [spoilFd x]) ++ post).length), (2, .d (iv (A ++ [spoilFd x]).length))]) (m' := [(1000000000, (⟨True, 81, 3, true, false, 1000000000, ((A ++ [spoilFd x]) ++ post).map (avC fdueC)⟩ : ARow))]) ?_ ?_ ?_ ?_, A ++ [spoilFd x], pre ++ [x], post, by simp [hsp], by simp [hA], rfl, rfl⟩
  ·simp only [leV, JD, QQ, Qd, Qc, hw]
   refine ⟨?_, Qn _, trivial⟩
   rw [show (A ++ x :: post).length = (A ++ [spoilFd x] ++ post).length from by simp]; exact Qn _
  ·exact ⟨fun _ => ⟨_, rfl, Qu (by simp [avC, fdueC, spoilFd]) (by
    intro e he
    rcases List.mem_append.1 he with he | he
    ·exact idsL_avC _ _ e he
    ·rcases List.mem_cons.1 he with rfl | he
     ·simp [QX, QY]
     ·exact idsL_avC _ _ e he)⟩, (by simp), trivial⟩
  ·simp [wfV, QY, lookR]
  ·exact ⟨fun e he r' hr' => by rw [idsL_avC _ _ e he] at hr'; simp at hr', trivial⟩
 ·intro hb
  obtain rfl := none_of hb; clear hb
  simp only [QG] at hsp ⊢
  obtain rfl : l = pre := hsp
  subst hA
  refine JK ?_
  simp only [zz6, QO, ↓Qb]
  try simp only [QG]
  refine doneM [] (by simp [resCs, resC, S, List.getD, JD, lookR, ]) ?_ (by simp [flatA, Jb, Jc, ]) (by simp [QY, QX, ]) (by decide) (by simp) ?_ ?_
  ·simp only [QD, QE, resA, JZ, S_mem, lookR_cons, lookR_nil, QR, QP, JD, QQ, Qd, Qc, JP, QI, QJ, QH, QL, QK, List.take_zero, ]; rfl
  ·exact trivial
  ·exact ⟨⟨_, rfl, trivial, rfl, rfl, (avC_map _ _).symm⟩, by simp [flatDs, Jc, fdueC, spoilFd], trivial⟩
theorem kLed_ (nx : Int) (l : List LegV) (hl : l.length ≤ 1000000) : ACalls Tryz.prog 22 [.agg (ledC ⟨nx, l⟩), .agg (ledC ⟨nx, l⟩)] [] (bv true) := by
 refine acalls_S (rs := [.tmp 4]) Tryz.func22 rfl rfl 56 [(0, .d (.agg (ledC ⟨nx, l⟩))), (1, .d (.agg (ledC ⟨nx, l⟩)))] rfl (by simp) rfl ?_
 refine pq fun K0 hK0 => ?_
 simp only [zzK, QR, QP, QQ, zz35, JS, zz1, zzG, zzD, zzC, QA, yyE, Qe, QS, QN, zzH, JB, ledC, legs, zz6, QO, ↓Qb]
 refine kK hK0 [2, 3] ?_
 refine JA fun K0 hK0 => ?_
 refine JA fun K1 hK1 => ?_
 refine Qz F_mixed [some 6, some 7, some 8, some 9, some 10, some 11, some 12, some 13, some 14, some 15, some 16, some 17, some 18, some 19] rfl ?_
 simp only [zzK, QR, QP, QQ, QU, JZ, zz5, Qj, Qi, Qh, zz19, zz23, F_off24_0, zzH, QN, QS, F_ok3, F_ag3, F_sz3, zz8, zzD, zzC, QA, yyE, Qe, zz21, JM, zz28, JC, F_off24_1, F_ok22, F_ag22, F_sz22, JE, zz12, F_sl22, Option.isSome_some, zz13, JQ, JR, JN, zz6, QO, ↓Qb]
 refine kK hK1 [2, 3, 19] ?_
 refine cnA ?_ ?_
 ·intro hb
  simp at hb
 ·intro hb
  clear hb
  refine JI ?_
  simp only [zz6, QO, ↓Qb]
  refine kK hK0 [2, 3] ?_
  refine JA fun K0 hK0 => ?_
  refine pq fun K1 hK1 => ?_
  simp only [zzK, QR, QP, QQ, JB, zz6, QO, ↓Qb]
  refine kK hK1 [2, 3, 5] ?_
  refine JH ?_
  refine JL (fun m s => ∃ (pre : List LegV) (post : List LegV), (l = pre ++ post) ∧ m = post.length ∧ s = S 56 [(2, .ptr 2 0 0), (3, .ptr 3 0 0), (5, .d (iv pre.length))] [(2, (⟨True, 24, 2, true, false, 2, [[.d (iv nx), .d (.sl 4 (l.map legC))]]⟩ : ARow)), (3, (⟨True, 24, 2, true, false, 3, [[.d (iv nx), .d (.sl 4 (l.map legC))]]⟩ : ARow))]) (l.length) _ (leK id []) ⟨[], l, rfl, rfl, rfl⟩ ?_
  rintro m s ⟨pre, post, hsp, rfl, rfl⟩
  have hspl := congrArg List.length hsp
  simp only [QC] at hspl
  refine JA fun K2 hK2 => ?_
  refine pq fun K3 hK3 => ?_
  simp only [zzK, QR, QP, QQ, JC, zz19, zz23, F_off24_1, zzH, QN, QS, F_ok22, F_ag22, F_sz22, zz8, zzD, zzC, QA, yyE, Qe, JE, zz12, F_sl22, Option.isSome_some, zz21, JM, zz22, JN, zz6, QO, ↓Qb]
  refine kK hK3 [2, 3, 5, 24] ?_
  refine cnA ?_ ?_
  ·intro hb
   obtain ⟨x, post2, rfl⟩ : ∃ x t, post = x :: t := by
    cases post with
    | nil => have := of_decide_eq_true hb; simp at hspl; omega
    | cons x t => exact ⟨x, t, rfl⟩
   clear hb
   simp only [QF] at hspl
   have gx : (l.map legC).getD pre.length [] = [iv x.ac.kind, iv x.ac.who, iv x.ac.cur, iv x.amt] := by
    rw [hsp, List.map_append]; exact gd_mid' (A := pre.map legC) _ _ (by simp)
   have bx := ltI (show pre.length < l.length by omega)
   have hwx : Ql .i64 ((pre.length : Int) + 1) = ((pre ++ [x]).length : Int) := by rw [wrapI (by omega) (by omega)]; simp
   refine JI ?_
   simp only [zz6, QO, ↓Qb]
   refine kK hK2 [2, 3, 5] ?_
   refine JA fun K2 hK2 => ?_
   refine JH ?_
   refine JA fun K3 hK3 => ?_
   refine awp_draw F_mixed [some 27, some 28, some 29, some 30, some 31, some 32, some 33, some 34, some 35, some 36, some 37, some 38, some 39, some 40, some 41, some 42, some 43, some 44, some 45, some 46, some 47, some 48, some 49, some 50, some 51, some 52, some 53, some 54, some 55] rfl (by kernel_rfl) ?_
   simp only [zzK, QR, QP, QQ, QU, JZ, zz5, Qj, Qi, Qh, zz19, zz23, F_off24_1, zzH, QN, QS, F_ok22, F_ag22, F_sz22, zz8, zzD, zzC, QA, yyE, Qe, JC, JW, zz24, F_sl22, F_sz86, F_off86_0, F_ok73, F_ag73, F_sz73, JE, JF, zz29, JM, zz30, F_off86_1, F_ok3, F_ag3, F_sz3, zz21, zz28, zz13, JQ, JR, gx, bx, hwx, JN, ge0, QV, QW, legC, acC, zz6, QO, ↓Qb]
   refine cgA F_go41 (fun hG => kAcct_ x.ac) ?_
   simp only [zzK, QR, QP, QQ, QU, JZ, zz5, Qj, Qi, Qh, zz19, zz23, F_off24_1, zzH, QN, QS, F_ok22, F_ag22, F_sz22, zz8, zzD, zzC, QA, yyE, Qe, JC, JW, zz24, F_sl22, F_sz86, F_off86_0, F_ok73, F_ag73, F_sz73, JE, JF, zz29, JM, zz30, F_off86_1, F_ok3, F_ag3, F_sz3, zz21, zz28, zz13, JQ, JR, gx, bx, hwx, JN, ge0, QV, QW, legC, acC, zz6, QO, ↓Qb, atsL, oksG, JV, QZ, Qa, JO, Qm, QT, QS, zz9, QB, QA, S_mem, yyF, QF, zz2]
   refine kK hK3 [2, 3, 5, 55] ?_
   refine cnA ?_ ?_
   ·intro hb
    simp at hb
   ·intro hb
    clear hb
    refine JI ?_
    simp only [zz6, QO, ↓Qb]
    refine kK hK2 [2, 3, 5] ?_
    refine pz ?_
    simp only [zzK, QR, QP, QQ, JC, zz21, JM, zz26, JB, hwx, zz6, QO, ↓Qb]
    refine ⟨post2.length, _, by simp, leK id [], (pre ++ [x]), post2, by simp [hsp], rfl, rfl⟩
  ·intro hb
   clear hb
   refine JK ?_
   simp only [zz6, QO, ↓Qb]
   refine kK hK0 [] ?_
   refine pq fun K0 hK0 => ?_
   simp only [zzK, QR, QP, QQ, JB, zz6, QO, ↓Qb]
   refine kK hK0 [4] ?_
   refine JJ ?_
   simp only [zz6, QO, ↓Qb]
   refine dnA ?_
   simp only [QD, QE, resA, JZ, QR, QP, JD, QQ, Qd, Qc, JP]
   
theorem twinLed_ (nx : Int) (l : List LegV) (hl : l.length ≤ 1000000) : ACalls Tryz.prog 5 [.agg (ledC ⟨nx, l⟩)] [⟨86, 4, l.map legC⟩] (.ag [.d (iv nx), .ref 0 l.length]) := by
 refine acalls_S (rs := [.cell 2 24]) Tryz.func5 rfl rfl 14 [(0, .d (.agg (ledC ⟨nx, l⟩)))] rfl (by simp) rfl ?_
 refine pq fun K0 hK0 => ?_
 simp only [zzK, QR, QP, QQ, zz35, JS, zz1, zzG, zzD, zzC, QA, yyE, Qe, QS, QN, zzH, zz32, F_zero24, zz10, ledC, legs, zz6, QO, ↓Qb]
 refine kK hK0 [1, 2] ?_
 refine pq fun K0 hK0 => ?_
 simp only [zzK, QR, QP, QQ, zz19, zz23, F_off24_0, zzH, QN, QS, F_ok3, F_ag3, F_sz3, zz8, zzD, zzC, QA, yyE, Qe, F_zero24, F_bld24, zz7, splice, Option.getD_some, QG, zz1, zzG, zz10, F_fld24_0, zz32, JS, zz18, F_ok24, F_sz24, zz6, QO, ↓Qb]
 refine kK hK0 [1, 2, 3] ?_
 refine pq fun K0 hK0 => ?_
 simp only [zzK, QR, QP, QQ, zz19, zz23, F_off24_1, zzH, QN, QS, F_ok22, F_ag22, F_sz22, zz8, zzD, zzC, QA, yyE, Qe, JE, F_sl22, F_zero86, F_sz86, F_by86, zz4, maxLen_le, QT, JS, zz9, QB, zz18, splice, QG, zz1, zzG, JN, zz6, QO, ↓Qb]
 first | refine ⟨le_maxLen hl, by omega, ?_⟩ | refine ⟨by simp, le_maxLen hl, by omega, ?_⟩ | refine ⟨⟨le_maxLen hl, by omega⟩, ?_⟩
 refine kK hK0 [2, 3] ?_
 refine pq fun K0 hK0 => ?_
 simp only [zzK, QR, QP, QQ, F_ok24, F_ag24, F_sz24, zz8, zz23, zzD, QS, QN, zzH, zzC, QA, yyE, Qe, zz18, splice, QG, zz1, zzG, zz6, QO, ↓Qb]
 refine kK hK0 [2] ?_
 refine JJ ?_
 simp only [zz6, QO, ↓Qb]
 refine doneN [11] (by simp [resCs, resC, S, List.getD, JD, lookR, F_ag24, F_sz24, F_ok24]) ?_ (by simp [flatA, Jb, Jc, ]) (by simp [QY, QX, ]) (by decide) ?_
 ·simp only [QD, QE, resA, JZ, S_mem, lookR_cons, lookR_nil, QR, QP, JD, QQ, Qd, Qc, JP, QI, QJ, QH, QL, QK, List.take_zero, F_ag24, F_sz24, F_ok24]; rfl
 ·exact ⟨⟨_, rfl, trivial, rfl, rfl, rfl, rfl⟩, by simp [flatDs, Jc, legC], trivial⟩
theorem twinLedF (nx : Int) (l : List LegV) (hl : l.length ≤ 1000000) : ACalls Tryz.prog 5 [.agg (ledC ⟨nx, l⟩)] [] (.d (.agg (ledC ⟨nx, l⟩))) :=
 (twinLed_ nx l hl).freeze (by simp [frzOk, frzOkL])
theorem kMems_ (l : List MemV) (hl : l.length ≤ 1000000) : ACalls Tryz.prog 50 [memsD l, memsD l] [] (bv true) := by
 refine acalls_S (rs := [.tmp 4]) Tryz.func50 rfl rfl 54 [(0, .d (memsD l)), (1, .d (memsD l))] rfl (by simp) rfl ?_
 refine pq fun K0 hK0 => ?_
 simp only [zzK, QR, QP, QQ, JB, zz6, QO, ↓Qb]
 refine kK hK0 [0, 1] ?_
 refine JA fun K0 hK0 => ?_
 refine pq fun K1 hK1 => ?_
 simp only [zzK, QR, QP, QQ, JC, JE, zz12, F_sl25, Option.isSome_some, zz21, JM, zz28, memsD, JN, zz6, QO, ↓Qb]
 refine kK hK1 [0, 1, 10] ?_
 refine cnA ?_ ?_
 ·intro hb
  simp at hb
 ·intro hb
  clear hb
  refine JI ?_
  simp only [zz6, QO, ↓Qb]
  refine kK hK0 [0, 1] ?_
  refine JA fun K0 hK0 => ?_
  refine pq fun K1 hK1 => ?_
  simp only [zzK, QR, QP, QQ, JB, zz6, QO, ↓Qb]
  refine kK hK1 [0, 1, 5] ?_
  refine JH ?_
  refine JL (fun m s => ∃ pre post : List MemV, l = pre ++ post ∧ m = post.length ∧ s = S 54 [(0, .d (memsD l)), (1, .d (memsD l)), (5, .d (iv pre.length))] []) l.length _ (leK id [] (hl := by simp only [leV, JD, QQ, Qd, Qc, memsD, JN]; exact ⟨Qn _, Qn _, Qn _, trivial⟩)) ⟨[], l, rfl, rfl, rfl⟩ ?_
  rintro m s ⟨pre, post, rfl, rfl, rfl⟩
  refine JA fun K2 hK2 => ?_
  refine pq fun K3 hK3 => ?_
  simp only [zzK, QR, QP, QQ, JC, JE, zz12, F_sl25, Option.isSome_some, zz21, JM, zz22, memsD, JN, zz6, QO, ↓Qb]
  refine kK hK3 [0, 1, 5, 14] ?_
  refine cnA ?_ ?_
  ·intro hb
   obtain ⟨x, post, rfl⟩ := more_of hb; clear hb
   refine JI ?_
   simp only [zz6, QO, ↓Qb]
   refine kK hK2 [0, 1, 5] ?_
   refine JA fun K2 hK2 => ?_
   refine JH ?_
   refine JA fun K3 hK3 => ?_
   refine awp_draw F_mixed [some 17, some 18, some 19, some 20, some 21, some 22, some 23, some 24, some 25, some 26, some 27, some 28, some 29, some 30, some 31, some 32, some 33, some 34, some 35, some 36, some 37, some 38, some 39, some 40, some 41, some 42, some 43, some 44, some 45, some 46, some 47, some 48, some 49, some 50, some 51, some 52, some 53] rfl (by kernel_rfl) ?_
   simp only [zzK, QR, QP, QQ, QU, JZ, zz5, Qj, Qi, Qh, JC, JW, zz23, zz24, F_sl25, F_sz77, QA, zzC, yyE, Qe, zz19, F_off77_0, zzH, QN, QS, F_ok3, F_ag3, F_sz3, zz8, zzD, zz21, JM, zz28, F_off77_1, zz13, JQ, JR, F_off77_2, memsD, memC, getD_mid, JN, lt_mid, ge_mid, QW, zz6, QO, ↓Qb]
   refine kK hK3 [0, 1, 5, 53] ?_
   refine cnA ?_ ?_
   ·intro hb
    simp at hb
   ·intro hb
    clear hb
    refine JI ?_
    simp only [zz6, QO, ↓Qb]
    refine kK hK2 [0, 1, 5] ?_
    refine pz ?_
    simp only [zzK, QR, QP, QQ, JC, zz21, JM, zz26, JB, zz6, QO, ↓Qb]
    refine ⟨post.length, _, by simp, leK id [] (hl := by simp only [leV, JD, QQ, Qd, Qc, memsD, JN, wrap_len pre x (by simp at hl; omega)]; exact ⟨Qn _, Qn _, Qn _, trivial⟩), pre ++ [x], post, by simp, rfl, rfl⟩
  ·intro hb
   clear hb
   refine JK ?_
   simp only [zz6, QO, ↓Qb]
   refine kK hK0 [] ?_
   refine pq fun K0 hK0 => ?_
   simp only [zzK, QR, QP, QQ, JB, zz6, QO, ↓Qb]
   refine kK hK0 [4] ?_
   refine JJ ?_
   simp only [zz6, QO, ↓Qb]
   refine dnA ?_
   simp only [QD, QE, resA, JZ, QR, QP, JD, QQ, Qd, Qc, JP]
   
theorem kInst_ (i : InstV) : ACalls Tryz.prog 94 [.agg (instC i), .agg (instC i)] [] (bv true) := by
 refine acalls_S (rs := [.tmp 4]) Tryz.func94 rfl rfl 59 [(0, .d (.agg (instC i))), (1, .d (.agg (instC i)))] rfl (by simp) rfl ?_
 refine pq fun K0 hK0 => ?_
 simp only [zzK, QR, QP, QQ, zz35, JS, zz1, zzG, zzD, zzC, QA, yyE, Qe, QS, QN, zzH, JB, instC, zz6, QO, ↓Qb]
 refine kK hK0 [2, 3] ?_
 refine JA fun K0 hK0 => ?_
 refine pq fun K1 hK1 => ?_
 simp only [zzK, QR, QP, QQ, JB, zz6, QO, ↓Qb]
 refine kK hK1 [2, 3, 5] ?_
 refine JH ?_
 refine JL (fun m s => (m = 6 ∧ s = S 59 [(2, .ptr 2 0 0), (3, .ptr 3 0 0), (5, .d (iv 0))] [(2, (⟨True, 113, 12, true, false, 2, [[.d (iv i.no), .d (iv i.cur), .d (iv i.mult), .d (iv i.add), .d (iv i.set), .d (iv i.price), .d (iv i.s0), .d (iv i.s1), .d (iv i.s2), .d (iv i.s3), .d (iv i.s4), .d (iv i.s5)]]⟩ : ARow)), (3, (⟨True, 113, 12, true, false, 3, [[.d (iv i.no), .d (iv i.cur), .d (iv i.mult), .d (iv i.add), .d (iv i.set), .d (iv i.price), .d (iv i.s0), .d (iv i.s1), .d (iv i.s2), .d (iv i.s3), .d (iv i.s4), .d (iv i.s5)]]⟩ : ARow))]) ∨ (m = 5 ∧ s = S 59 [(2, .ptr 2 0 0), (3, .ptr 3 0 0), (5, .d (iv 1))] [(2, (⟨True, 113, 12, true, false, 2, [[.d (iv i.no), .d (iv i.cur), .d (iv i.mult), .d (iv i.add), .d (iv i.set), .d (iv i.price), .d (iv i.s0), .d (iv i.s1), .d (iv i.s2), .d (iv i.s3), .d (iv i.s4), .d (iv i.s5)]]⟩ : ARow)), (3, (⟨True, 113, 12, true, false, 3, [[.d (iv i.no), .d (iv i.cur), .d (iv i.mult), .d (iv i.add), .d (iv i.set), .d (iv i.price), .d (iv i.s0), .d (iv i.s1), .d (iv i.s2), .d (iv i.s3), .d (iv i.s4), .d (iv i.s5)]]⟩ : ARow))]) ∨ (m = 4 ∧ s = S 59 [(2, .ptr 2 0 0), (3, .ptr 3 0 0), (5, .d (iv 2))] [(2, (⟨True, 113, 12, true, false, 2, [[.d (iv i.no), .d (iv i.cur), .d (iv i.mult), .d (iv i.add), .d (iv i.set), .d (iv i.price), .d (iv i.s0), .d (iv i.s1), .d (iv i.s2), .d (iv i.s3), .d (iv i.s4), .d (iv i.s5)]]⟩ : ARow)), (3, (⟨True, 113, 12, true, false, 3, [[.d (iv i.no), .d (iv i.cur), .d (iv i.mult), .d (iv i.add), .d (iv i.set), .d (iv i.price), .d (iv i.s0), .d (iv i.s1), .d (iv i.s2), .d (iv i.s3), .d (iv i.s4), .d (iv i.s5)]]⟩ : ARow))]) ∨ (m = 3 ∧ s = S 59 [(2, .ptr 2 0 0), (3, .ptr 3 0 0), (5, .d (iv 3))] [(2, (⟨True, 113, 12, true, false, 2, [[.d (iv i.no), .d (iv i.cur), .d (iv i.mult), .d (iv i.add), .d (iv i.set), .d (iv i.price), .d (iv i.s0), .d (iv i.s1), .d (iv i.s2), .d (iv i.s3), .d (iv i.s4), .d (iv i.s5)]]⟩ : ARow)), (3, (⟨True, 113, 12, true, false, 3, [[.d (iv i.no), .d (iv i.cur), .d (iv i.mult), .d (iv i.add), .d (iv i.set), .d (iv i.price), .d (iv i.s0), .d (iv i.s1), .d (iv i.s2), .d (iv i.s3), .d (iv i.s4), .d (iv i.s5)]]⟩ : ARow))]) ∨ (m = 2 ∧ s = S 59 [(2, .ptr 2 0 0), (3, .ptr 3 0 0), (5, .d (iv 4))] [(2, (⟨True, 113, 12, true, false, 2, [[.d (iv i.no), .d (iv i.cur), .d (iv i.mult), .d (iv i.add), .d (iv i.set), .d (iv i.price), .d (iv i.s0), .d (iv i.s1), .d (iv i.s2), .d (iv i.s3), .d (iv i.s4), .d (iv i.s5)]]⟩ : ARow)), (3, (⟨True, 113, 12, true, false, 3, [[.d (iv i.no), .d (iv i.cur), .d (iv i.mult), .d (iv i.add), .d (iv i.set), .d (iv i.price), .d (iv i.s0), .d (iv i.s1), .d (iv i.s2), .d (iv i.s3), .d (iv i.s4), .d (iv i.s5)]]⟩ : ARow))]) ∨ (m = 1 ∧ s = S 59 [(2, .ptr 2 0 0), (3, .ptr 3 0 0), (5, .d (iv 5))] [(2, (⟨True, 113, 12, true, false, 2, [[.d (iv i.no), .d (iv i.cur), .d (iv i.mult), .d (iv i.add), .d (iv i.set), .d (iv i.price), .d (iv i.s0), .d (iv i.s1), .d (iv i.s2), .d (iv i.s3), .d (iv i.s4), .d (iv i.s5)]]⟩ : ARow)), (3, (⟨True, 113, 12, true, false, 3, [[.d (iv i.no), .d (iv i.cur), .d (iv i.mult), .d (iv i.add), .d (iv i.set), .d (iv i.price), .d (iv i.s0), .d (iv i.s1), .d (iv i.s2), .d (iv i.s3), .d (iv i.s4), .d (iv i.s5)]]⟩ : ARow))]) ∨ (m = 0 ∧ s = S 59 [(2, .ptr 2 0 0), (3, .ptr 3 0 0), (5, .d (iv 6))] [(2, (⟨True, 113, 12, true, false, 2, [[.d (iv i.no), .d (iv i.cur), .d (iv i.mult), .d (iv i.add), .d (iv i.set), .d (iv i.price), .d (iv i.s0), .d (iv i.s1), .d (iv i.s2), .d (iv i.s3), .d (iv i.s4), .d (iv i.s5)]]⟩ : ARow)), (3, (⟨True, 113, 12, true, false, 3, [[.d (iv i.no), .d (iv i.cur), .d (iv i.mult), .d (iv i.add), .d (iv i.set), .d (iv i.price), .d (iv i.s0), .d (iv i.s1), .d (iv i.s2), .d (iv i.s3), .d (iv i.s4), .d (iv i.s5)]]⟩ : ARow))])) 6 _ (leK id [] (hr := by exact ⟨fun _ => ⟨_, rfl, ⟨id, rfl, rfl, fun _ => rfl, id, .inl, VLess.refl _⟩⟩, (by simp), fun _ => ⟨_, rfl, ⟨id, rfl, rfl, fun _ => rfl, id, .inl, VLess.refl _⟩⟩, (by simp), trivial⟩)) (.inl (⟨rfl, rfl⟩)) ?_
 rintro m s (⟨rfl, rfl⟩ | ⟨rfl, rfl⟩ | ⟨rfl, rfl⟩ | ⟨rfl, rfl⟩ | ⟨rfl, rfl⟩ | ⟨rfl, rfl⟩ | ⟨rfl, rfl⟩)
 ·skip
  refine JA fun K2 hK2 => ?_
  refine pq fun K3 hK3 => ?_
  simp only [zzK, QR, QP, QQ, JC, zz21, JM, zz22, zz6, QO, ↓Qb]
  refine kK hK3 [2, 3, 5, 7] ?_
  refine cnA ?_ ?_
  ·intro hb
   clear hb
   refine JI ?_
   simp only [zz6, QO, ↓Qb]
   refine kK hK2 [2, 3, 5] ?_
   refine JA fun K2 hK2 => ?_
   refine JH ?_
   refine JA fun K3 hK3 => ?_
   refine awp_draw F_mixed [some 10, some 11, some 12, some 13, some 14, some 15, some 16, some 17, some 18] rfl (by kernel_rfl) ?_
   simp only [zzK, QR, QP, QQ, JC, zz19, zz23, F_off113_6, zzH, QN, QS, JW, zz15, F_arr111, F_sz3, zzC, QA, yyE, Qe, F_ok3, F_ag3, zz8, zzD, zz21, JM, zz28, Int.reduceToNat, Int.reduceLT, Int.reduceLE, cast6, QT, zz6, QO, ↓Qb]
   refine kK hK3 [2, 3, 5, 18] ?_
   refine cnA ?_ ?_
   ·intro hb
    simp at hb
   ·intro hb
    clear hb
    refine JI ?_
    simp only [zz6, QO, ↓Qb]
    refine kK hK2 [2, 3, 5] ?_
    refine pz ?_
    simp only [zzK, QR, QP, QQ, JC, zz21, JM, zz26, JB, zz6, QO, ↓Qb]
    refine ⟨5, _, by decide, leK id [] (hr := by exact ⟨fun _ => ⟨_, rfl, ⟨id, rfl, rfl, fun _ => rfl, id, .inl, VLess.refl _⟩⟩, (by simp), fun _ => ⟨_, rfl, ⟨id, rfl, rfl, fun _ => rfl, id, .inl, VLess.refl _⟩⟩, (by simp), trivial⟩), .inr (.inl (⟨rfl, rfl⟩))⟩
  ·intro hb
   simp at hb
 ·skip
  refine JA fun K2 hK2 => ?_
  refine pq fun K3 hK3 => ?_
  simp only [zzK, QR, QP, QQ, JC, zz21, JM, zz22, zz6, QO, ↓Qb]
  refine kK hK3 [2, 3, 5, 7] ?_
  refine cnA ?_ ?_
  ·intro hb
   clear hb
   refine JI ?_
   simp only [zz6, QO, ↓Qb]
   refine kK hK2 [2, 3, 5] ?_
   refine JA fun K2 hK2 => ?_
   refine JH ?_
   refine JA fun K3 hK3 => ?_
   refine awp_draw F_mixed [some 10, some 11, some 12, some 13, some 14, some 15, some 16, some 17, some 18] rfl (by kernel_rfl) ?_
   simp only [zzK, QR, QP, QQ, JC, zz19, zz23, F_off113_6, zzH, QN, QS, JW, zz15, F_arr111, F_sz3, zzC, QA, yyE, Qe, F_ok3, F_ag3, zz8, zzD, zz21, JM, zz28, Int.reduceToNat, Int.reduceLT, Int.reduceLE, cast6, QT, zz6, QO, ↓Qb]
   refine kK hK3 [2, 3, 5, 18] ?_
   refine cnA ?_ ?_
   ·intro hb
    simp at hb
   ·intro hb
    clear hb
    refine JI ?_
    simp only [zz6, QO, ↓Qb]
    refine kK hK2 [2, 3, 5] ?_
    refine pz ?_
    simp only [zzK, QR, QP, QQ, JC, zz21, JM, zz26, JB, zz6, QO, ↓Qb]
    refine ⟨4, _, by decide, leK id [] (hr := by exact ⟨fun _ => ⟨_, rfl, ⟨id, rfl, rfl, fun _ => rfl, id, .inl, VLess.refl _⟩⟩, (by simp), fun _ => ⟨_, rfl, ⟨id, rfl, rfl, fun _ => rfl, id, .inl, VLess.refl _⟩⟩, (by simp), trivial⟩), .inr (.inr (.inl (⟨rfl, rfl⟩)))⟩
  ·intro hb
   simp at hb
 ·skip
  refine JA fun K2 hK2 => ?_
  refine pq fun K3 hK3 => ?_
  simp only [zzK, QR, QP, QQ, JC, zz21, JM, zz22, zz6, QO, ↓Qb]
  refine kK hK3 [2, 3, 5, 7] ?_
  refine cnA ?_ ?_
  ·intro hb
   clear hb
   refine JI ?_
   simp only [zz6, QO, ↓Qb]
   refine kK hK2 [2, 3, 5] ?_
   refine JA fun K2 hK2 => ?_
   refine JH ?_
   refine JA fun K3 hK3 => ?_
   refine awp_draw F_mixed [some 10, some 11, some 12, some 13, some 14, some 15, some 16, some 17, some 18] rfl (by kernel_rfl) ?_
   simp only [zzK, QR, QP, QQ, JC, zz19, zz23, F_off113_6, zzH, QN, QS, JW, zz15, F_arr111, F_sz3, zzC, QA, yyE, Qe, F_ok3, F_ag3, zz8, zzD, zz21, JM, zz28, Int.reduceToNat, Int.reduceLT, Int.reduceLE, cast6, QT, zz6, QO, ↓Qb]
   refine kK hK3 [2, 3, 5, 18] ?_
   refine cnA ?_ ?_
   ·intro hb
    simp at hb
   ·intro hb
    clear hb
    refine JI ?_
    simp only [zz6, QO, ↓Qb]
    refine kK hK2 [2, 3, 5] ?_
    refine pz ?_
    simp only [zzK, QR, QP, QQ, JC, zz21, JM, zz26, JB, zz6, QO, ↓Qb]
    refine ⟨3, _, by decide, leK id [] (hr := by exact ⟨fun _ => ⟨_, rfl, ⟨id, rfl, rfl, fun _ => rfl, id, .inl, VLess.refl _⟩⟩, (by simp), fun _ => ⟨_, rfl, ⟨id, rfl, rfl, fun _ => rfl, id, .inl, VLess.refl _⟩⟩, (by simp), trivial⟩), .inr (.inr (.inr (.inl (⟨rfl, rfl⟩))))⟩
  ·intro hb
   simp at hb
 ·skip
  refine JA fun K2 hK2 => ?_
  refine pq fun K3 hK3 => ?_
  simp only [zzK, QR, QP, QQ, JC, zz21, JM, zz22, zz6, QO, ↓Qb]
  refine kK hK3 [2, 3, 5, 7] ?_
  refine cnA ?_ ?_
  ·intro hb
   clear hb
   refine JI ?_
   simp only [zz6, QO, ↓Qb]
   refine kK hK2 [2, 3, 5] ?_
   refine JA fun K2 hK2 => ?_
   refine JH ?_
   refine JA fun K3 hK3 => ?_
   refine awp_draw F_mixed [some 10, some 11, some 12, some 13, some 14, some 15, some 16, some 17, some 18] rfl (by kernel_rfl) ?_
   simp only [zzK, QR, QP, QQ, JC, zz19, zz23, F_off113_6, zzH, QN, QS, JW, zz15, F_arr111, F_sz3, zzC, QA, yyE, Qe, F_ok3, F_ag3, zz8, zzD, zz21, JM, zz28, Int.reduceToNat, Int.reduceLT, Int.reduceLE, cast6, QT, zz6, QO, ↓Qb]
   refine kK hK3 [2, 3, 5, 18] ?_
   refine cnA ?_ ?_
   ·intro hb
    simp at hb
   ·intro hb
    clear hb
    refine JI ?_
    simp only [zz6, QO, ↓Qb]
    refine kK hK2 [2, 3, 5] ?_
    refine pz ?_
    simp only [zzK, QR, QP, QQ, JC, zz21, JM, zz26, JB, zz6, QO, ↓Qb]
    refine ⟨2, _, by decide, leK id [] (hr := by exact ⟨fun _ => ⟨_, rfl, ⟨id, rfl, rfl, fun _ => rfl, id, .inl, VLess.refl _⟩⟩, (by simp), fun _ => ⟨_, rfl, ⟨id, rfl, rfl, fun _ => rfl, id, .inl, VLess.refl _⟩⟩, (by simp), trivial⟩), .inr (.inr (.inr (.inr (.inl (⟨rfl, rfl⟩)))))⟩
  ·intro hb
   simp at hb
 ·skip
  refine JA fun K2 hK2 => ?_
  refine pq fun K3 hK3 => ?_
  simp only [zzK, QR, QP, QQ, JC, zz21, JM, zz22, zz6, QO, ↓Qb]
  refine kK hK3 [2, 3, 5, 7] ?_
  refine cnA ?_ ?_
  ·intro hb
   clear hb
   refine JI ?_
   simp only [zz6, QO, ↓Qb]
   refine kK hK2 [2, 3, 5] ?_
   refine JA fun K2 hK2 => ?_
   refine JH ?_
   refine JA fun K3 hK3 => ?_
   refine awp_draw F_mixed [some 10, some 11, some 12, some 13, some 14, some 15, some 16, some 17, some 18] rfl (by kernel_rfl) ?_
   simp only [zzK, QR, QP, QQ, JC, zz19, zz23, F_off113_6, zzH, QN, QS, JW, zz15, F_arr111, F_sz3, zzC, QA, yyE, Qe, F_ok3, F_ag3, zz8, zzD, zz21, JM, zz28, Int.reduceToNat, Int.reduceLT, Int.reduceLE, cast6, QT, zz6, QO, ↓Qb]
   refine kK hK3 [2, 3, 5, 18] ?_
   refine cnA ?_ ?_
   ·intro hb
    simp at hb
   ·intro hb
    clear hb
    refine JI ?_
    simp only [zz6, QO, ↓Qb]
    refine kK hK2 [2, 3, 5] ?_
    refine pz ?_
    simp only [zzK, QR, QP, QQ, JC, zz21, JM, zz26, JB, zz6, QO, ↓Qb]
    refine ⟨1, _, by decide, leK id [] (hr := by exact ⟨fun _ => ⟨_, rfl, ⟨id, rfl, rfl, fun _ => rfl, id, .inl, VLess.refl _⟩⟩, (by simp), fun _ => ⟨_, rfl, ⟨id, rfl, rfl, fun _ => rfl, id, .inl, VLess.refl _⟩⟩, (by simp), trivial⟩), .inr (.inr (.inr (.inr (.inr (.inl (⟨rfl, rfl⟩))))))⟩
  ·intro hb
   simp at hb
 ·skip
  refine JA fun K2 hK2 => ?_
  refine pq fun K3 hK3 => ?_
  simp only [zzK, QR, QP, QQ, JC, zz21, JM, zz22, zz6, QO, ↓Qb]
  refine kK hK3 [2, 3, 5, 7] ?_
  refine cnA ?_ ?_
  ·intro hb
   clear hb
   refine JI ?_
   simp only [zz6, QO, ↓Qb]
   refine kK hK2 [2, 3, 5] ?_
   refine JA fun K2 hK2 => ?_
   refine JH ?_
   refine JA fun K3 hK3 => ?_
   refine awp_draw F_mixed [some 10, some 11, some 12, some 13, some 14, some 15, some 16, some 17, some 18] rfl (by kernel_rfl) ?_
   simp only [zzK, QR, QP, QQ, JC, zz19, zz23, F_off113_6, zzH, QN, QS, JW, zz15, F_arr111, F_sz3, zzC, QA, yyE, Qe, F_ok3, F_ag3, zz8, zzD, zz21, JM, zz28, Int.reduceToNat, Int.reduceLT, Int.reduceLE, cast6, QT, zz6, QO, ↓Qb]
   refine kK hK3 [2, 3, 5, 18] ?_
   refine cnA ?_ ?_
   ·intro hb
    simp at hb
   ·intro hb
    clear hb
    refine JI ?_
    simp only [zz6, QO, ↓Qb]
    refine kK hK2 [2, 3, 5] ?_
    refine pz ?_
    simp only [zzK, QR, QP, QQ, JC, zz21, JM, zz26, JB, zz6, QO, ↓Qb]
    refine ⟨0, _, by decide, leK id [] (hr := by exact ⟨fun _ => ⟨_, rfl, ⟨id, rfl, rfl, fun _ => rfl, id, .inl, VLess.refl _⟩⟩, (by simp), fun _ => ⟨_, rfl, ⟨id, rfl, rfl, fun _ => rfl, id, .inl, VLess.refl _⟩⟩, (by simp), trivial⟩), .inr (.inr (.inr (.inr (.inr (.inr (⟨rfl, rfl⟩))))))⟩
  ·intro hb
   simp at hb
 ·skip
  refine JA fun K2 hK2 => ?_
  refine pq fun K3 hK3 => ?_
  simp only [zzK, QR, QP, QQ, JC, zz21, JM, zz22, zz6, QO, ↓Qb]
  refine kK hK3 [2, 3, 5, 7] ?_
  refine cnA ?_ ?_
  ·intro hb
   simp at hb
  ·intro hb
   clear hb
   refine JK ?_
   simp only [zz6, QO, ↓Qb]
   refine kK hK0 [2, 3] ?_
   refine JA fun K0 hK0 => ?_
   refine Qz F_mixed [some 19, some 20, some 21, some 22, some 23, some 24, some 25, some 26, some 27, some 28, some 29, some 30, some 31, some 32, some 33, some 34, some 35, some 36, some 37, some 38, some 39, some 40, some 41, some 42, some 43, some 44, some 45, some 46, some 47, some 48, some 49, some 50, some 51, some 52, some 53, some 54, some 55, some 56, some 57, some 58, some 4] rfl ?_
   simp only [zzK, QR, QP, QQ, QU, JZ, zz5, Qj, Qi, Qh, zz19, zz23, F_off113_0, zzH, QN, QS, F_ok3, F_ag3, F_sz3, zz8, zzD, zzC, QA, yyE, Qe, zz21, JM, zz34, JC, F_off113_1, zz13, JQ, JR, F_off113_2, F_off113_3, F_off113_4, F_off113_5, JB, zz6, QO, ↓Qb]
   refine kK hK0 [4] ?_
   refine JJ ?_
   simp only [zz6, QO, ↓Qb]
   refine dnA ?_
   simp only [QD, QE, resA, JZ, QR, QP, JD, QQ, Qd, Qc, JP]
   simp
theorem kInsts_ (l : List InstV) (hl : l.length ≤ 1000000) : ACalls Tryz.prog 51 [instsD l, instsD l] [] (bv true) := by
 refine acalls_S (rs := [.tmp 4]) Tryz.func51 rfl rfl 27 [(0, .d (instsD l)), (1, .d (instsD l))] rfl (by simp) rfl ?_
 refine pq fun K0 hK0 => ?_
 simp only [zzK, QR, QP, QQ, JB, zz6, QO, ↓Qb]
 refine kK hK0 [0, 1] ?_
 refine JA fun K0 hK0 => ?_
 refine pq fun K1 hK1 => ?_
 simp only [zzK, QR, QP, QQ, JC, JE, zz12, F_sl26, Option.isSome_some, zz21, JM, zz28, instsD, JN, zz6, QO, ↓Qb]
 refine kK hK1 [0, 1, 10] ?_
 refine cnA ?_ ?_
 ·intro hb
  simp at hb
 ·intro hb
  clear hb
  refine JI ?_
  simp only [zz6, QO, ↓Qb]
  refine kK hK0 [0, 1] ?_
  refine JA fun K0 hK0 => ?_
  refine pq fun K1 hK1 => ?_
  simp only [zzK, QR, QP, QQ, JB, zz6, QO, ↓Qb]
  refine kK hK1 [0, 1, 5] ?_
  refine JH ?_
  refine JL (fun m s => ∃ pre post : List InstV, l = pre ++ post ∧ m = post.length ∧ s = S 27 [(0, .d (instsD l)), (1, .d (instsD l)), (5, .d (iv pre.length))] []) l.length _ (leK id [] (hl := by simp only [leV, JD, QQ, Qd, Qc, instsD, JN]; exact ⟨Qn _, Qn _, Qn _, trivial⟩)) ⟨[], l, rfl, rfl, rfl⟩ ?_
  rintro m s ⟨pre, post, rfl, rfl, rfl⟩
  refine JA fun K2 hK2 => ?_
  refine pq fun K3 hK3 => ?_
  simp only [zzK, QR, QP, QQ, JC, JE, zz12, F_sl26, Option.isSome_some, zz21, JM, zz22, instsD, JN, zz6, QO, ↓Qb]
  refine kK hK3 [0, 1, 5, 14] ?_
  refine cnA ?_ ?_
  ·intro hb
   obtain ⟨x, post, rfl⟩ := more_of hb; clear hb
   refine JI ?_
   simp only [zz6, QO, ↓Qb]
   refine kK hK2 [0, 1, 5] ?_
   refine JA fun K2 hK2 => ?_
   refine JH ?_
   refine JA fun K3 hK3 => ?_
   refine awp_draw F_mixed [some 17, some 18, some 19, some 20, some 21, some 22, some 23, some 24, some 25, some 26] rfl (by kernel_rfl) ?_
   simp only [zzK, QR, QP, QQ, JC, JW, zz23, zz24, F_sl26, F_sz113, QA, zzC, yyE, Qe, F_ok113, F_ag113, zz8, zzD, QS, QN, zzH, JE, JF, zz29, JM, zz30, instsD, instC, getD_mid, JN, lt_mid, ge_mid, QW, zz6, QO, ↓Qb]
   refine cgA F_go94 (fun hG => kInst_ x) ?_
   simp only [zzK, QR, QP, QQ, JC, JW, zz23, zz24, F_sl26, F_sz113, QA, zzC, yyE, Qe, F_ok113, F_ag113, zz8, zzD, QS, QN, zzH, JE, JF, zz29, JM, zz30, instsD, instC, getD_mid, JN, lt_mid, ge_mid, QW, zz6, QO, ↓Qb, atsL, oksG, JV, QZ, Qa, JO, Qm, QT, QS, zz9, QB, QA, S_mem, yyF, QF, zz2]
   refine kK hK3 [0, 1, 5, 26] ?_
   refine cnA ?_ ?_
   ·intro hb
    simp at hb
   ·intro hb
    clear hb
    refine JI ?_
    simp only [zz6, QO, ↓Qb]
    refine kK hK2 [0, 1, 5] ?_
    refine pz ?_
    simp only [zzK, QR, QP, QQ, JC, zz21, JM, zz26, JB, zz6, QO, ↓Qb]
    refine ⟨post.length, _, by simp, leK id [] (hl := by simp only [leV, JD, QQ, Qd, Qc, instsD, JN, wrap_len pre x (by simp at hl; omega)]; exact ⟨Qn _, Qn _, Qn _, trivial⟩), pre ++ [x], post, by simp, rfl, rfl⟩
  ·intro hb
   clear hb
   refine JK ?_
   simp only [zz6, QO, ↓Qb]
   refine kK hK0 [] ?_
   refine pq fun K0 hK0 => ?_
   simp only [zzK, QR, QP, QQ, JB, zz6, QO, ↓Qb]
   refine kK hK0 [4] ?_
   refine JJ ?_
   simp only [zz6, QO, ↓Qb]
   refine dnA ?_
   simp only [QD, QE, resA, JZ, QR, QP, JD, QQ, Qd, Qc, JP]
   
theorem kAsset_ (a : AssetV) : ACalls Tryz.prog 95 [.agg (assetC a), .agg (assetC a)] [] (bv true) := by
 refine acalls_S (rs := [.tmp 4]) Tryz.func95 rfl rfl 31 [(0, .d (.agg (assetC a))), (1, .d (.agg (assetC a)))] rfl (by simp) rfl ?_
 refine pq fun K0 hK0 => ?_
 simp only [zzK, QR, QP, QQ, zz35, JS, zz1, zzG, zzD, zzC, QA, yyE, Qe, QS, QN, zzH, JB, assetC, zz6, QO, ↓Qb]
 refine kK hK0 [2, 3] ?_
 refine JA fun K0 hK0 => ?_
 refine Qz F_mixed [some 5, some 6, some 7, some 8, some 9, some 10, some 11, some 12, some 13, some 14, some 15, some 16, some 17, some 18, some 19, some 20, some 21, some 22, some 23, some 24, some 25, some 26, some 27, some 28, some 29, some 30, some 4] rfl ?_
 simp only [zzK, QR, QP, QQ, QU, JZ, zz5, Qj, Qi, Qh, zz19, zz23, F_off118_0, zzH, QN, QS, F_ok3, F_ag3, F_sz3, zz8, zzD, zzC, QA, yyE, Qe, zz21, JM, zz34, JC, F_off118_1, zz13, JQ, JR, F_off118_2, F_off118_3, JB, zz6, QO, ↓Qb]
 refine kK hK0 [4] ?_
 refine JJ ?_
 simp only [zz6, QO, ↓Qb]
 refine dnA ?_
 simp only [QD, QE, resA, JZ, QR, QP, JD, QQ, Qd, Qc, JP]
 simp
theorem kAssets_ (l : List AssetV) (hl : l.length ≤ 1000000) : ACalls Tryz.prog 52 [assetsD l, assetsD l] [] (bv true) := by
 refine acalls_S (rs := [.tmp 4]) Tryz.func52 rfl rfl 27 [(0, .d (assetsD l)), (1, .d (assetsD l))] rfl (by simp) rfl ?_
 refine pq fun K0 hK0 => ?_
 simp only [zzK, QR, QP, QQ, JB, zz6, QO, ↓Qb]
 refine kK hK0 [0, 1] ?_
 refine JA fun K0 hK0 => ?_
 refine pq fun K1 hK1 => ?_
 simp only [zzK, QR, QP, QQ, JC, JE, zz12, F_sl27, Option.isSome_some, zz21, JM, zz28, assetsD, JN, zz6, QO, ↓Qb]
 refine kK hK1 [0, 1, 10] ?_
 refine cnA ?_ ?_
 ·intro hb
  simp at hb
 ·intro hb
  clear hb
  refine JI ?_
  simp only [zz6, QO, ↓Qb]
  refine kK hK0 [0, 1] ?_
  refine JA fun K0 hK0 => ?_
  refine pq fun K1 hK1 => ?_
  simp only [zzK, QR, QP, QQ, JB, zz6, QO, ↓Qb]
  refine kK hK1 [0, 1, 5] ?_
  refine JH ?_
  refine JL (fun m s => ∃ pre post : List AssetV, l = pre ++ post ∧ m = post.length ∧ s = S 27 [(0, .d (assetsD l)), (1, .d (assetsD l)), (5, .d (iv pre.length))] []) l.length _ (leK id [] (hl := by simp only [leV, JD, QQ, Qd, Qc, assetsD, JN]; exact ⟨Qn _, Qn _, Qn _, trivial⟩)) ⟨[], l, rfl, rfl, rfl⟩ ?_
  rintro m s ⟨pre, post, rfl, rfl, rfl⟩
  refine JA fun K2 hK2 => ?_
  refine pq fun K3 hK3 => ?_
  simp only [zzK, QR, QP, QQ, JC, JE, zz12, F_sl27, Option.isSome_some, zz21, JM, zz22, assetsD, JN, zz6, QO, ↓Qb]
  refine kK hK3 [0, 1, 5, 14] ?_
  refine cnA ?_ ?_
  ·intro hb
   obtain ⟨x, post, rfl⟩ := more_of hb; clear hb
   refine JI ?_
   simp only [zz6, QO, ↓Qb]
   refine kK hK2 [0, 1, 5] ?_
   refine JA fun K2 hK2 => ?_
   refine JH ?_
   refine JA fun K3 hK3 => ?_
   refine awp_draw F_mixed [some 17, some 18, some 19, some 20, some 21, some 22, some 23, some 24, some 25, some 26] rfl (by kernel_rfl) ?_
   simp only [zzK, QR, QP, QQ, JC, JW, zz23, zz24, F_sl27, F_sz118, QA, zzC, yyE, Qe, F_ok118, F_ag118, zz8, zzD, QS, QN, zzH, JE, JF, zz29, JM, zz30, assetsD, assetC, getD_mid, JN, lt_mid, ge_mid, QW, zz6, QO, ↓Qb]
   refine cgA F_go95 (fun hG => kAsset_ x) ?_
   simp only [zzK, QR, QP, QQ, JC, JW, zz23, zz24, F_sl27, F_sz118, QA, zzC, yyE, Qe, F_ok118, F_ag118, zz8, zzD, QS, QN, zzH, JE, JF, zz29, JM, zz30, assetsD, assetC, getD_mid, JN, lt_mid, ge_mid, QW, zz6, QO, ↓Qb, atsL, oksG, JV, QZ, Qa, JO, Qm, QT, QS, zz9, QB, QA, S_mem, yyF, QF, zz2]
   refine kK hK3 [0, 1, 5, 26] ?_
   refine cnA ?_ ?_
   ·intro hb
    simp at hb
   ·intro hb
    clear hb
    refine JI ?_
    simp only [zz6, QO, ↓Qb]
    refine kK hK2 [0, 1, 5] ?_
    refine pz ?_
    simp only [zzK, QR, QP, QQ, JC, zz21, JM, zz26, JB, zz6, QO, ↓Qb]
    refine ⟨post.length, _, by simp, leK id [] (hl := by simp only [leV, JD, QQ, Qd, Qc, assetsD, JN, wrap_len pre x (by simp at hl; omega)]; exact ⟨Qn _, Qn _, Qn _, trivial⟩), pre ++ [x], post, by simp, rfl, rfl⟩
  ·intro hb
   clear hb
   refine JK ?_
   simp only [zz6, QO, ↓Qb]
   refine kK hK0 [] ?_
   refine pq fun K0 hK0 => ?_
   simp only [zzK, QR, QP, QQ, JB, zz6, QO, ↓Qb]
   refine kK hK0 [4] ?_
   refine JJ ?_
   simp only [zz6, QO, ↓Qb]
   refine dnA ?_
   simp only [QD, QE, resA, JZ, QR, QP, JD, QQ, Qd, Qc, JP]
   
theorem kRoll_ (r : RollV) (h : r.Small) : ACalls Tryz.prog 23 [.agg (rollC r), .agg (rollC r)] [] (bv true) := by
 refine acalls_S (rs := [.tmp 4]) Tryz.func23 rfl rfl 24 [(0, .d (.agg (rollC r))), (1, .d (.agg (rollC r)))] rfl (by simp) rfl ?_
 refine pq fun K0 hK0 => ?_
 simp only [zzK, QR, QP, QQ, zz35, JS, zz1, zzG, zzD, zzC, QA, yyE, Qe, QS, QN, zzH, JB, rollC, memsD, instsD, assetsD, zz6, QO, ↓Qb]
 refine kK hK0 [2, 3] ?_
 refine JA fun K0 hK0 => ?_
 refine Qz F_mixed [some 5, some 6, some 7, some 8, some 9, some 10, some 11, some 12, some 13, some 14, some 15, some 16, some 17, some 18, some 19, some 20, some 21, some 22, some 23, some 4] rfl ?_
 simp only [zzK, QR, QP, QQ, QU, JZ, zz5, Qj, Qi, Qh, zz19, zz23, F_off29_0, zzH, QN, QS, F_ok25, F_ag25, F_sz25, zz8, zzD, zzC, QA, yyE, Qe, JE, JF, JC, F_off29_1, F_ok26, F_ag26, F_sz26, zz13, JQ, JR, F_off29_2, F_ok27, F_ag27, F_sz27, JB, memsD, instsD, assetsD, zz6, QO, ↓Qb]
 refine cgA F_go50 (fun hG => kMems_ r.mems h.mems) ?_
 simp only [zzK, QR, QP, QQ, QU, JZ, zz5, Qj, Qi, Qh, zz19, zz23, F_off29_0, zzH, QN, QS, F_ok25, F_ag25, F_sz25, zz8, zzD, zzC, QA, yyE, Qe, JE, JF, JC, F_off29_1, F_ok26, F_ag26, F_sz26, zz13, JQ, JR, F_off29_2, F_ok27, F_ag27, F_sz27, JB, memsD, instsD, assetsD, zz6, QO, ↓Qb, atsL, oksG, JV, QZ, Qa, JO, Qm, QT, QS, zz9, QB, QA, S_mem, yyF, QF, zz2]
 refine cgA F_go51 (fun hG => kInsts_ r.insts h.insts) ?_
 simp only [zzK, QR, QP, QQ, QU, JZ, zz5, Qj, Qi, Qh, zz19, zz23, F_off29_0, zzH, QN, QS, F_ok25, F_ag25, F_sz25, zz8, zzD, zzC, QA, yyE, Qe, JE, JF, JC, F_off29_1, F_ok26, F_ag26, F_sz26, zz13, JQ, JR, F_off29_2, F_ok27, F_ag27, F_sz27, JB, memsD, instsD, assetsD, zz6, QO, ↓Qb, atsL, oksG, JV, QZ, Qa, JO, Qm, QT, QS, zz9, QB, QA, S_mem, yyF, QF, zz2]
 refine cgA F_go52 (fun hG => kAssets_ r.assets h.assets) ?_
 simp only [zzK, QR, QP, QQ, QU, JZ, zz5, Qj, Qi, Qh, zz19, zz23, F_off29_0, zzH, QN, QS, F_ok25, F_ag25, F_sz25, zz8, zzD, zzC, QA, yyE, Qe, JE, JF, JC, F_off29_1, F_ok26, F_ag26, F_sz26, zz13, JQ, JR, F_off29_2, F_ok27, F_ag27, F_sz27, JB, memsD, instsD, assetsD, zz6, QO, ↓Qb, atsL, oksG, JV, QZ, Qa, JO, Qm, QT, QS, zz9, QB, QA, S_mem, yyF, QF, zz2]
 refine kK hK0 [4] ?_
 refine JJ ?_
 simp only [zz6, QO, ↓Qb]
 refine dnA ?_
 simp only [QD, QE, resA, JZ, QR, QP, JD, QQ, Qd, Qc, JP]
 
theorem twinRoll_ (r : RollV) (h : r.Small) : ACalls Tryz.prog 6 [.agg (rollC r)] [⟨77, 3, r.mems.map memC⟩, ⟨113, 12, r.insts.map instC⟩, ⟨118, 4, r.assets.map assetC⟩] (.ag [.ref 0 r.mems.length, .ref 1 r.insts.length, .ref 2 r.assets.length]) := by
 refine acalls_S (rs := [.cell 2 29]) Tryz.func6 rfl rfl 23 [(0, .d (.agg (rollC r)))] rfl (by simp) rfl ?_
 refine pq fun K0 hK0 => ?_
 simp only [zzK, QR, QP, QQ, zz35, JS, zz1, zzG, zzD, zzC, QA, yyE, Qe, QS, QN, zzH, zz32, F_zero29, zz10, rollC, memsD, instsD, assetsD, zz6, QO, ↓Qb]
 refine kK hK0 [1, 2] ?_
 refine pq fun K0 hK0 => ?_
 simp only [zzK, QR, QP, QQ, zz32, JS, F_zero29, zzC, QA, yyE, Qe, zzD, QS, QN, zzH, zz10, zz6, QO, ↓Qb]
 refine kK hK0 [1, 2, 3] ?_
 refine pq fun K0 hK0 => ?_
 simp only [zzK, QR, QP, QQ, zz19, zz23, F_off29_0, zzH, QN, QS, F_ok25, F_ag25, F_sz25, zz8, zzD, zzC, QA, yyE, Qe, JE, F_sl25, F_zero77, F_sz77, F_by77, zz4, maxLen_le, QT, JS, zz9, QB, zz18, splice, QG, zz1, zzG, JN, zz6, QO, ↓Qb]
 refine ⟨le_maxLen h.mems, by have := h.mems; omega, ?_⟩
 refine kK hK0 [1, 2, 3] ?_
 refine pq fun K0 hK0 => ?_
 simp only [zzK, QR, QP, QQ, zz19, zz23, F_off29_1, zzH, QN, QS, F_ok26, F_ag26, F_sz26, zz8, zzD, zzC, QA, yyE, Qe, JE, F_sl26, F_zero113, F_sz113, F_by113, zz4, maxLen_le, QT, JS, zz9, QB, zz18, splice, QG, zz1, zzG, JN, zz6, QO, ↓Qb]
 refine ⟨le_maxLen h.insts, by have := h.insts; omega, ?_⟩
 refine kK hK0 [1, 2, 3] ?_
 refine pq fun K0 hK0 => ?_
 simp only [zzK, QR, QP, QQ, zz19, zz23, F_off29_2, zzH, QN, QS, F_ok27, F_ag27, F_sz27, zz8, zzD, zzC, QA, yyE, Qe, JE, F_sl27, F_zero118, F_sz118, F_by118, zz4, maxLen_le, QT, JS, zz9, QB, zz18, splice, QG, zz1, zzG, JN, zz6, QO, ↓Qb]
 refine ⟨le_maxLen h.assets, by have := h.assets; omega, ?_⟩
 refine kK hK0 [2, 3] ?_
 refine pq fun K0 hK0 => ?_
 simp only [zzK, QR, QP, QQ, F_ok29, F_ag29, F_sz29, zz8, zz23, zzD, QS, QN, zzH, zzC, QA, yyE, Qe, zz18, splice, QG, zz1, zzG, zz6, QO, ↓Qb]
 refine kK hK0 [2] ?_
 refine JJ ?_
 simp only [zz6, QO, ↓Qb]
 refine doneN [8, 14, 20] (by simp [resCs, resC, S, List.getD, JD, lookR, F_ag29, F_sz29, F_ok29]) ?_ (by simp [flatA, Jb, Jc, ]) (by simp [QY, QX, ]) (by decide) ?_
 ·simp only [QD, QE, resA, JZ, S_mem, lookR_cons, lookR_nil, QR, QP, JD, QQ, Qd, Qc, JP, QI, QJ, QH, QL, QK, List.take_zero, F_ag29, F_sz29, F_ok29]; rfl
 ·exact ⟨⟨_, rfl, trivial, rfl, rfl, rfl, rfl⟩, by simp [flatDs, Jc, memC], ⟨_, rfl, trivial, rfl, rfl, rfl, rfl⟩, by simp [flatDs, Jc, instC], ⟨_, rfl, trivial, rfl, rfl, rfl, rfl⟩, by simp [flatDs, Jc, assetC], trivial⟩
theorem twinRollF (r : RollV) (h : r.Small) : ACalls Tryz.prog 6 [.agg (rollC r)] [] (.d (.agg (rollC r))) :=
 (twinRoll_ r h).freeze (by simp [frzOk, frzOkL])
theorem kInts0_ (l : List Int) (hl : l.length ≤ 1000000) : ACalls Tryz.prog 24 [.sl 1 (l.map oneI), .sl 1 (l.map oneI)] [] (bv true) := by
 refine acalls_S (rs := [.tmp 4]) Tryz.func24 rfl rfl 26 [(0, .d (ints l)), (1, .d (ints l))] rfl (by simp) rfl ?_
 refine pq fun K0 hK0 => ?_
 simp only [zzK, QR, QP, QQ, JB, zz6, QO, ↓Qb]
 refine kK hK0 [0, 1] ?_
 refine JA fun K0 hK0 => ?_
 refine pq fun K1 hK1 => ?_
 simp only [zzK, QR, QP, QQ, JC, JE, zz12, F_sl30, Option.isSome_some, zz21, JM, zz28, ints, JN, zz6, QO, ↓Qb]
 refine kK hK1 [0, 1, 10] ?_
 refine cnA ?_ ?_
 ·intro hb
  simp at hb
 ·intro hb
  clear hb
  refine JI ?_
  simp only [zz6, QO, ↓Qb]
  refine kK hK0 [0, 1] ?_
  refine JA fun K0 hK0 => ?_
  refine pq fun K1 hK1 => ?_
  simp only [zzK, QR, QP, QQ, JB, zz6, QO, ↓Qb]
  refine kK hK1 [0, 1, 5] ?_
  refine JH ?_
  refine JL (fun m s => ∃ pre post : List Int, l = pre ++ post ∧ m = post.length ∧ s = S 26 [(0, .d (ints l)), (1, .d (ints l)), (5, .d (iv pre.length))] []) l.length _ (leK id [] (hl := by simp only [leV, JD, QQ, Qd, Qc, ints, JN]; exact ⟨Qn _, Qn _, Qn _, trivial⟩)) ⟨[], l, rfl, rfl, rfl⟩ ?_
  rintro m s ⟨pre, post, rfl, rfl, rfl⟩
  refine JA fun K2 hK2 => ?_
  refine pq fun K3 hK3 => ?_
  simp only [zzK, QR, QP, QQ, JC, JE, zz12, F_sl30, Option.isSome_some, zz21, JM, zz22, ints, JN, zz6, QO, ↓Qb]
  refine kK hK3 [0, 1, 5, 14] ?_
  refine cnA ?_ ?_
  ·intro hb
   obtain ⟨x, post, rfl⟩ := more_of hb; clear hb
   refine JI ?_
   simp only [zz6, QO, ↓Qb]
   refine kK hK2 [0, 1, 5] ?_
   refine JA fun K2 hK2 => ?_
   refine JH ?_
   refine JA fun K3 hK3 => ?_
   refine awp_draw F_mixed [some 17, some 18, some 19, some 20, some 21, some 22, some 23, some 24, some 25] rfl (by kernel_rfl) ?_
   simp only [zzK, QR, QP, QQ, JC, JW, zz23, zz24, F_sl30, F_sz3, QA, zzC, yyE, Qe, F_ok3, F_ag3, zz8, zzD, QS, QN, zzH, zz21, JM, zz28, ints, getD_mid, JN, lt_mid, ge_mid, QW, zz6, QO, ↓Qb]
   refine kK hK3 [0, 1, 5, 25] ?_
   refine cnA ?_ ?_
   ·intro hb
    simp at hb
   ·intro hb
    clear hb
    refine JI ?_
    simp only [zz6, QO, ↓Qb]
    refine kK hK2 [0, 1, 5] ?_
    refine pz ?_
    simp only [zzK, QR, QP, QQ, JC, zz21, JM, zz26, JB, zz6, QO, ↓Qb]
    refine ⟨post.length, _, by simp, leK id [] (hl := by simp only [leV, JD, QQ, Qd, Qc, ints, JN, wrap_len pre x (by simp at hl; omega)]; exact ⟨Qn _, Qn _, Qn _, trivial⟩), pre ++ [x], post, by simp, rfl, rfl⟩
  ·intro hb
   clear hb
   refine JK ?_
   simp only [zz6, QO, ↓Qb]
   refine kK hK0 [] ?_
   refine pq fun K0 hK0 => ?_
   simp only [zzK, QR, QP, QQ, JB, zz6, QO, ↓Qb]
   refine kK hK0 [4] ?_
   refine JJ ?_
   simp only [zz6, QO, ↓Qb]
   refine dnA ?_
   simp only [QD, QE, resA, JZ, QR, QP, JD, QQ, Qd, Qc, JP]
   
theorem kInts_ (l : List Int) (hl : l.length ≤ 1000000) : ACalls Tryz.prog 24 [ints l, ints l] [] (bv true) := kInts0_ l hl
theorem twinInts_ (l : List Int) (hl : l.length ≤ 1000000) : ACalls Tryz.prog 7 [ints l] [⟨3, 1, l.map fun n => [iv n]⟩] (.ref 0 l.length) := by
 refine acalls_S (rs := [.tmp 2]) Tryz.func7 rfl rfl 7 [(0, .d (ints l))] rfl (by simp) rfl ?_
 refine pq fun K0 hK0 => ?_
 simp only [zzK, QR, QP, QQ, JB, zz6, QO, ↓Qb]
 refine kK hK0 [0] ?_
 refine pq fun K0 hK0 => ?_
 simp only [zzK, QR, QP, QQ, JB, zz6, QO, ↓Qb]
 refine kK hK0 [0, 3] ?_
 refine pq fun K0 hK0 => ?_
 simp only [zzK, QR, QP, QQ, JC, JE, F_sl30, F_zero3, F_sz3, F_by3, zz4, maxLen_le, QT, JS, zz9, QB, QA, zzC, yyE, Qe, zzD, QS, QN, zzH, JB, ints, JN, zz6, QO, ↓Qb]
 refine ⟨le_maxLen hl, by omega, ?_⟩
 refine kK hK0 [2] ?_
 refine JJ ?_
 simp only [zz6, QO, ↓Qb]
 refine done1 6 (by simp only [resCs, resC]; trivial) ?_ (by simp [flatA, Jb, Jc]) (by simp [QY, QX]) (by rfl) trivial rfl rfl ?_ (by simp [flatDs, Jc])
 ·simp only [QD, QE, resA, JZ, QR, QP, JD, QQ, Qd, Qc, JP]; rfl
 ·simp
theorem twinIntsF (l : List Int) (hl : l.length ≤ 1000000) : ACalls Tryz.prog 7 [ints l] [] (.d (ints l)) := (twinInts_ l hl).freeze (by simp [frzOk])
end Go.Proofs.YtjkfadaedgidpaaGreat
