import Derived.Test.YtjkfadaedgidpaaGreatWpE
import Derived.Test.YtjkfadaedgidpaaGreatSpecFE
namespace Go.Proofs.YtjkfadaedgidpaaGreat
open Go.RowKit
set_option linter.unusedVariables false
set_option linter.unusedSimpArgs false
open Option renaming map_some → QA, bind_some → QB
open List renaming length_append → QC, map_cons → QD, map_nil → QE, length_cons → QF, append_nil → QG
open Nat renaming zero_add → QN, reduceEqDiff → QO, reduceLeDiff → QP, reduceBEq → QQ, reduceLT → QR, reduceAdd → QS, reduceMul → QT, reduceSub → QU
open Int renaming toNat_natCast → QV
open D.agg renaming injEq → QW
open AV renaming idsL → QX, ids → QY, ren → QZ, renL → Qa
open _root_ renaming reduceIte → Qb, cond_false → Qc, cond_true → Qd, reduceCtorEq → Qe, of_decide_eq_false → Qf, of_decide_eq_true → Qg, imp_self → Qh, imp_and → Qi, and_imp → Qj
open IntKind renaming wrap → Ql
open ORow renaming row → Qm
open VLe renaming refl → Qn, still → Qo, refE → Qr
open RowLe renaming data_ → Qw
open Go.Proofs.YtjkfadaedgidpaaGreat renaming awp_plain → Qz, awp_seq → JA, evS_assign → JB, evS_move → JC, look_cons → JD, evS_call → JE, evC_value → JF, awp_block → JH, awp_skip → JI, awp_ret → JJ, awp_exit → JK, awp_loop → JL, gr_v → JM, len_map → JN, addRows → JO, resAll → JP, pickK_l → JQ, pickK_r → JR, newRow1 → JS, freeN → JV, evS_indexAddr → JW, S_getD → JZ, flatA → Ja, flatAs → Jb, flatD → Jc
theorem F_off24_1 : offT Tryz.prog 24 1 = some 1 := by kernel_rfl
theorem F_ok22 : tyOk Tryz.prog 22 = true := by kernel_rfl
theorem F_ag22 : aggT Tryz.prog 22 = false := by kernel_rfl
theorem F_sz22 : szT Tryz.prog 22 = 1 := by kernel_rfl
theorem F_sl22 : sliceT Tryz.prog 22 = some 86 := by kernel_rfl
theorem F_sz86 : szT Tryz.prog 86 = 4 := by kernel_rfl
theorem F_ok86 : tyOk Tryz.prog 86 = true := by kernel_rfl
theorem F_ag86 : aggT Tryz.prog 86 = true := by kernel_rfl
theorem F_zero86 : zeroT Tryz.prog 86 = some [(.int .i64 0), (.int .i64 0), (.int .i64 0), (.int .i64 0)] := by kernel_rfl
theorem F_off86_0 : offT Tryz.prog 86 0 = some 0 := by kernel_rfl
theorem F_go58 : goFn Tryz.prog 58 := ⟨_, Tryz.func58, rfl, rfl⟩
theorem F_off86_1 : offT Tryz.prog 86 1 = some 3 := by kernel_rfl
theorem F_off24_0 : offT Tryz.prog 24 0 = some 0 := by kernel_rfl
theorem F_go55 : goFn Tryz.prog 55 := ⟨_, Tryz.func55, rfl, rfl⟩
theorem F_ok24 : tyOk Tryz.prog 24 = true := by kernel_rfl
theorem F_ag24 : aggT Tryz.prog 24 = true := by kernel_rfl
theorem F_sz24 : szT Tryz.prog 24 = 2 := by kernel_rfl
theorem F_go57 : goFn Tryz.prog 57 := ⟨_, Tryz.func57, rfl, rfl⟩
theorem F_bld73 : bldT Tryz.prog 73 = true := by kernel_rfl
theorem F_fld73_0 : fldT Tryz.prog 73 0 = some (0, 1) := by kernel_rfl
theorem F_fld73_1 : fldT Tryz.prog 73 1 = some (1, 1) := by kernel_rfl
theorem F_fld73_2 : fldT Tryz.prog 73 2 = some (2, 1) := by kernel_rfl
theorem F_go43 : goFn Tryz.prog 43 := ⟨_, Tryz.func43, rfl, rfl⟩
theorem F_go26 : goFn Tryz.prog 26 := ⟨_, Tryz.func26, rfl, rfl⟩
theorem F_go27 : goFn Tryz.prog 27 := ⟨_, Tryz.func27, rfl, rfl⟩
theorem F_go28 : goFn Tryz.prog 28 := ⟨_, Tryz.func28, rfl, rfl⟩
theorem F_go30 : goFn Tryz.prog 30 := ⟨_, Tryz.func30, rfl, rfl⟩
theorem F_go84 : goFn Tryz.prog 84 := ⟨_, Tryz.func84, rfl, rfl⟩
theorem F_go45 : goFn Tryz.prog 45 := ⟨_, Tryz.func45, rfl, rfl⟩
theorem F_go8 : goFn Tryz.prog 8 := ⟨_, Tryz.func8, rfl, rfl⟩
theorem F_go39 : goFn Tryz.prog 39 := ⟨_, Tryz.func39, rfl, rfl⟩
theorem F_bld86 : bldT Tryz.prog 86 = true := by kernel_rfl
theorem F_fld86_0 : fldT Tryz.prog 86 0 = some (0, 3) := by kernel_rfl
theorem F_fld86_1 : fldT Tryz.prog 86 1 = some (3, 1) := by kernel_rfl
theorem F_zero24 : zeroT Tryz.prog 24 = some [(.int .i64 0), (.slice none 0 0)] := by kernel_rfl
theorem F_bld24 : bldT Tryz.prog 24 = true := by kernel_rfl
theorem F_fld24_1 : fldT Tryz.prog 24 1 = some (1, 1) := by kernel_rfl
theorem F_go12 : goFn Tryz.prog 12 := ⟨_, Tryz.func12, rfl, rfl⟩
theorem flo_ (a : AcV) : ACalls Tryz.prog 55 [.agg (acC a)] [] (.d (iv (flo a))) := by
 refine acalls_S (rs := [.tmp 2]) Tryz.func55 rfl rfl 15 [(0, .d (.agg (acC a)))] rfl (by simp) rfl ?_
 refine pq fun K0 hK0 => ?_
 simp only [zzK, QR, QP, QQ, zz35, JS, zz1, zzG, zzD, zzC, QA, yyE, Qe, QS, QN, zzH, JB, acC, zz6, QO, ↓Qb]
 refine kK hK0 [1] ?_
 refine JA fun K0 hK0 => ?_
 refine JA fun K1 hK1 => ?_
 refine Qz F_mixed [some 3, some 4, some 5, some 6, some 7, some 8, some 9, some 10, some 11, some 12, some 13, some 14] rfl ?_
 simp only [zzK, QR, QP, QQ, QU, JZ, zz5, Qj, Qi, Qh, F_ok73, F_ag73, F_sz73, zz8, zz23, zzD, QS, QN, zzH, zzC, QA, yyE, Qe, JE, JF, JC, zz19, F_off73_0, F_ok3, F_ag3, F_sz3, zz21, JM, zz34, zz13, JQ, JR, acC, QW, zz6, QO, ↓Qb]
 refine cgA F_go53 (fun hG => acRight_ a) ?_
 simp only [zzK, QR, QP, QQ, QU, JZ, zz5, Qj, Qi, Qh, F_ok73, F_ag73, F_sz73, zz8, zz23, zzD, QS, QN, zzH, zzC, QA, yyE, Qe, JE, JF, JC, zz19, F_off73_0, F_ok3, F_ag3, F_sz3, zz21, JM, zz34, zz13, JQ, JR, acC, QW, zz6, QO, ↓Qb, atsL, oksG, JV, QZ, Qa, JO, Qm, QT, QS, zz9, QB, QA, S_mem, yyF, QF, zz2]
 refine kK hK1 [14] ?_
 refine cnA ?_ ?_
 ·intro hb
  have e : (acOk a && (a.kind == 3 || a.kind == 4)) = true := hb
  clear hb
  refine pq fun K2 hK2 => ?_
  simp only [zzK, QR, QP, QQ, JB, zz6, QO, ↓Qb]
  refine kK hK2 [2] ?_
  refine JJ ?_
  simp only [zz6, QO, ↓Qb]
  refine dnA ?_
  simp only [QD, QE, resA, JZ, QR, QP, JD, QQ, Qd, Qc, JP]
  simp only [flo, e, Qd]
 ·intro hb
  have e : (acOk a && (a.kind == 3 || a.kind == 4)) = false := hb
  clear hb
  refine JI ?_
  simp only [zz6, QO, ↓Qb]
  refine kK hK0 [] ?_
  refine pq fun K0 hK0 => ?_
  simp only [zzK, QR, QP, QQ, JB, zz6, QO, ↓Qb]
  refine kK hK0 [2] ?_
  refine JJ ?_
  simp only [zz6, QO, ↓Qb]
  refine dnA ?_
  simp only [QD, QE, resA, JZ, QR, QP, JD, QQ, Qd, Qc, JP]
  simp only [flo, e, Qc]
theorem chk1_ (k : Int) : ACalls Tryz.prog 58 [iv k] [] (bv true) := by
 refine acalls_S (rs := [.tmp 2]) Tryz.func58 rfl rfl 3 [(0, .d (iv k))] rfl (by simp) rfl ?_
 refine pq fun K0 hK0 => ?_
 simp only [zzK, QR, QP, QQ, JB, zz6, QO, ↓Qb]
 refine kK hK0 [] ?_
 refine pq fun K0 hK0 => ?_
 simp only [zzK, QR, QP, QQ, JB, zz6, QO, ↓Qb]
 refine kK hK0 [2] ?_
 refine JJ ?_
 simp only [zz6, QO, ↓Qb]
 refine dnA ?_
 simp only [QD, QE, resA, JZ, QR, QP, JD, QQ, Qd, Qc, JP]
 
theorem sumsA_ (nx : Int) (l : List LegV) (c : Int) (hl : l.length ≤ 500000) : ACalls Tryz.prog 57 [.agg (ledC ⟨nx, l⟩), iv c, fnD 58] [⟨3, 1, (sumsL c (fun _ => true) l).map fun n => [iv n]⟩] (.ref 0 (sumsL c (fun _ => true) l).length) := by
 refine acalls_S (rs := [.tmp 6]) Tryz.func57 rfl rfl 36 [(0, .d (.agg (ledC ⟨nx, l⟩))), (1, .d (iv c)), (2, .d (fnD 58))] rfl (by simp) rfl ?_
 refine pq fun K0 hK0 => ?_
 simp only [zzK, QR, QP, QQ, zz35, JS, zz1, zzG, zzD, zzC, QA, yyE, Qe, QS, QN, zzH, JB, ledC, legs, zz6, QO, ↓Qb]
 refine kK hK0 [1, 2, 3] ?_
 refine pq fun K0 hK0 => ?_
 simp only [zzK, QR, QP, QQ, JB, zz6, QO, ↓Qb]
 refine kK hK0 [1, 2, 3, 7] ?_
 refine JA fun K0 hK0 => ?_
 refine pq fun K1 hK1 => ?_
 simp only [zzK, QR, QP, QQ, zz19, zz23, F_off24_1, zzH, QN, QS, F_ok22, F_ag22, F_sz22, zz8, zzD, zzC, QA, yyE, Qe, JE, zz12, F_sl22, Option.isSome_some, JC, legs, JN, zz6, QO, ↓Qb]
 refine kK hK1 [1, 2, 7, 11, 12, 13] ?_
 refine JH ?_
 refine JL (fun m s => ∃ pre post : List LegV, l = pre ++ post ∧ m = post.length ∧ s = S 36 [(1, .d (iv c)), (2, .d (fnD 58)), (7, .ref 7 (sumsL c (fun _ => true) pre).length), (11, .d (legs (pre ++ post))), (12, .d (iv (pre ++ post).length)), (13, .d (iv pre.length))] [(7, grow 3 1 7 ((sumsL c (fun _ => true) pre).map fun n => [iv n]))]) l.length _ (leK id [7] (hl := by simp only [leV, JD, QQ, Qd, Qc, legs, JN, List.nil_append]; exact ⟨Qo rfl, Qo rfl, VLe.nil_ (by decide), Qo rfl, Qo rfl, Qo rfl, trivial⟩) (hwr := by simp [wfR, grow, sumsL, amts])) ⟨[], l, rfl, rfl, rfl⟩ ?_
 rintro m s ⟨pre, post, hsp, rfl, rfl⟩
 have hql := sumsL_len c (fun _ => true) pre
 refine pq fun K2 hK2 => ?_
 simp only [zzK, QR, QP, QQ, zz21, JM, zz22, zz6, QO, ↓Qb]
 refine kK hK2 [1, 2, 7, 11, 12, 13, 14] ?_
 refine JA fun K2 hK2 => ?_
 refine cnA ?_ ?_
 ·intro hb
  obtain ⟨x, post, rfl⟩ := more_of hb; clear hb
  refine JI ?_
  simp only [zz6, QO, ↓Qb]
  refine kK hK2 [1, 2, 7, 11, 12, 13] ?_
  refine JA fun K2 hK2 => ?_
  refine JH ?_
  refine pq fun K3 hK3 => ?_
  simp only [zzK, QR, QP, QQ, JW, zz23, zz24, F_sl22, F_sz86, QA, zzC, yyE, Qe, F_ok86, F_ag86, zz8, zzD, QS, QN, zzH, zz32, JS, F_zero86, zz10, zz18, splice, QG, zz1, zzG, legs, legC, getD_mid, JN, lt_mid, ge_mid, QW, zz6, QO, ↓Qb]
  refine kK hK3 [1, 2, 7, 9, 11, 12, 13] ?_
  refine JA fun K3 hK3 => ?_
  refine Qz F_mixed [some 17, some 18, some 19, some 20, some 21, some 22, some 23, some 24, some 25, some 26, some 27, some 28] rfl ?_
  simp only [zzK, QR, QP, QQ, QU, JZ, zz5, Qj, Qi, Qh, zz19, zz23, F_off86_0, zzH, QN, QS, F_off73_2, F_ok3, F_ag3, F_sz3, zz8, zzD, zzC, QA, yyE, Qe, JC, zz21, JM, zz34, F_off73_0, JE, JF, zz13, JQ, JR, legC, QW, fnD, zz6, QO, ↓Qb]
  refine call_goT ?_ ?_ F_go58 (fun hG => chk1_ x.ac.kind) (by simp [QY, QX]) (by simp) ?_
  ·decide
  ·simp only [JD, QQ, Qd, Qc, bare_d, bare_wh, fnD]
  simp only [zzK, QR, QP, QQ, QU, JZ, zz5, Qj, Qi, Qh, zz19, zz23, F_off86_0, zzH, QN, QS, F_off73_2, F_ok3, F_ag3, F_sz3, zz8, zzD, zzC, QA, yyE, Qe, JC, zz21, JM, zz34, F_off73_0, JE, JF, zz13, JQ, JR, legC, QW, fnD, zz6, QO, ↓Qb, QU, JZ, Gp_some, Qj, Qi, Qh, atsL, oksG, JV, QZ, Qa, JO, Qm, QT, QS, zz9, QB, QA, S_mem, yyF, QF, zz2]
  refine kK hK3 [1, 2, 7, 9, 11, 12, 13, 28] ?_
  refine cnA ?_ ?_
  ·intro hb
   have hs : (x.ac.cur == c && (fun _ => true) x.ac.kind) = true := by first | exact hb | simpa using hb
   clear hb
   refine pz ?_
   simp only [zzK, QR, QP, QQ, JC, zz19, zz23, F_off86_1, zzH, QN, QS, F_ok3, F_ag3, F_sz3, zz8, zzD, zzC, QA, yyE, Qe, F_sl30, F_zero3, zz3, JS, zz1, zzG, maxLen_le, QT, JE, F_by3, zz4, zz9, QB, JB, grow, unDs_map, zz6, QO, ↓Qb]
   have hm : (sumsL c (fun _ => true) pre).length + 1 ≤ 1000000 := by have e := congrArg List.length hsp; simp only [QC, QF] at e; omega
   first | refine ⟨le_maxLen hm, by omega, ?_⟩ | refine ⟨by simp, le_maxLen hm, by omega, ?_⟩
   clear hm
   refine kK hK2 [1, 2, 7, 11, 12, 13] ?_
   refine pz ?_
   simp only [zzK, QR, QP, QQ, zz21, JM, zz26, JC, zz6, QO, ↓Qb]
   refine ⟨post.length, _, by simp, le_SK (fun r => bif r == 7 then 33 else r) [] rfl (l' := [(1, .d (iv c)), (2, .d (fnD 58)), (7, .ref 7 (sumsL c (fun _ => true) (pre ++ [x])).length), (11, .d (legs ((pre ++ [x]) ++ post))), (12, .d (iv ((pre ++ [x]) ++ post).length)), (13, .d (iv (pre ++ [x]).length))]) (m' := [(7, grow 3 1 7 ((sumsL c (fun _ => true) (pre ++ [x])).map fun n => [iv n]))]) ?_ ?_ ?_ ?_, pre ++ [x], post, by simp [hsp], rfl, rfl⟩
   ·simp only [leV, JD, QQ, Qd, Qc, legs, JN, List.append_assoc, List.singleton_append, wrap_len pre x (by have e := congrArg List.length hsp; simp only [QC, QF, List.length_map] at e; omega)]
    refine ⟨Qo rfl, Qo rfl, ?_, Qo rfl, Qo rfl, Qo rfl, trivial⟩
    rw [sumsL_yes hs]
    rw [show (AV.ref 33 _ : AV) = .ref ((fun r => bif r == 7 then 33 else r) 7) (sumsL c (fun _ => true) pre ++ [x.amt]).length from by simp]; try exact VLe.ref_ (f := (fun r => bif r == 7 then 33 else r)) (r := 7) (by simp)
   ·exact ⟨fun _ => ⟨_, rfl, Qw (by rw [sumsL_yes hs] <;> first | rfl | simp only [List.map_append, QD, QE] | simp)⟩, (by simp), trivial⟩
   ·simp [wfV, QY, lookR, grow]
   ·exact ⟨wf_data _ _, trivial⟩
  ·intro hb
   have hs : (x.ac.cur == c && (fun _ => true) x.ac.kind) = false := by first | exact hb | simpa using hb
   clear hb
   refine JI ?_
   simp only [zz6, QO, ↓Qb]
   refine kK hK2 [1, 2, 7, 11, 12, 13] ?_
   refine pz ?_
   simp only [zzK, QR, QP, QQ, zz21, JM, zz26, JC, zz6, QO, ↓Qb]
   refine ⟨post.length, _, by simp, le_SK (fun r => bif r == 7 then 7 else r) [] rfl (l' := [(1, .d (iv c)), (2, .d (fnD 58)), (7, .ref 7 (sumsL c (fun _ => true) (pre ++ [x])).length), (11, .d (legs ((pre ++ [x]) ++ post))), (12, .d (iv ((pre ++ [x]) ++ post).length)), (13, .d (iv (pre ++ [x]).length))]) (m' := [(7, grow 3 1 7 ((sumsL c (fun _ => true) (pre ++ [x])).map fun n => [iv n]))]) ?_ ?_ ?_ ?_, pre ++ [x], post, by simp [hsp], rfl, rfl⟩
   ·simp only [leV, JD, QQ, Qd, Qc, legs, JN, List.append_assoc, List.singleton_append, wrap_len pre x (by have e := congrArg List.length hsp; simp only [QC, QF, List.length_map] at e; omega)]
    refine ⟨Qo rfl, Qo rfl, ?_, Qo rfl, Qo rfl, Qo rfl, trivial⟩
    rw [sumsL_no hs]
    rw [show (AV.ref 7 _ : AV) = .ref ((fun r => bif r == 7 then 7 else r) 7) (sumsL c (fun _ => true) pre).length from by simp]; try exact VLe.ref_ (f := (fun r => bif r == 7 then 7 else r)) (r := 7) (by simp)
   ·exact ⟨fun _ => ⟨_, rfl, Qw (by rw [sumsL_no hs] <;> first | rfl | simp only [List.map_append, QD, QE] | simp)⟩, (by simp), trivial⟩
   ·simp [wfV, QY, lookR, grow]
   ·exact ⟨wf_data _ _, trivial⟩
 ·intro hb
  obtain rfl := none_of hb; clear hb
  simp only [QG] at hsp ⊢
  obtain rfl : l = pre := hsp
  refine JK ?_
  simp only [zz6, QO, ↓Qb]
  refine kK hK0 [7] ?_
  refine pq fun K0 hK0 => ?_
  simp only [zzK, QR, QP, QQ, JC, JB, zz6, QO, ↓Qb]
  refine kK hK0 [6] ?_
  refine JJ ?_
  simp only [zz6, QO, ↓Qb]
  refine done1 7 (by simp only [resCs, resC]; trivial) ?_ (by simp [Ja, Jb, Jc]) (by simp [QY, QX]) (by rfl) trivial rfl rfl ?_ (by simp [flatDs, Jc])
  ·simp only [QD, QE, resA, JZ, QR, QP, JD, QQ, Qd, Qc, JP]; rfl
  ·rfl
theorem SumsA (nx : Int) (l : List LegV) (c : Int) (hl : l.length ≤ 500000) : ACalls Tryz.prog 57 [.agg (ledC ⟨nx, l⟩), iv c, fnD 58] [] (.d (ints (sumsL c (fun _ => true) l))) :=
 (sumsA_ nx l c hl).freeze (by simp [frzOk])
theorem of10_ (nx : Int) (l : List LegV) (a : AcV) (hl : l.length ≤ 500000) : ACalls Tryz.prog 43 [.agg (ledC ⟨nx, l⟩), .agg (acC a)] [] (.d (iv (ofL a l))) := by
 refine acalls_S (rs := [.tmp 4]) Tryz.func43 rfl rfl 21 [(0, .d (.agg (ledC ⟨nx, l⟩))), (1, .d (.agg (acC a)))] rfl (by simp) rfl ?_
 refine pq fun K0 hK0 => ?_
 simp only [zzK, QR, QP, QQ, zz35, JS, zz1, zzG, zzD, zzC, QA, yyE, Qe, QS, QN, zzH, JB, ledC, legs, acC, zz6, QO, ↓Qb]
 refine kK hK0 [2, 3] ?_
 refine JA fun K0 hK0 => ?_
 refine pq fun K1 hK1 => ?_
 simp only [zzK, QR, QP, QQ, zz19, zz23, F_off24_1, zzH, QN, QS, F_ok22, F_ag22, F_sz22, zz8, zzD, zzC, QA, yyE, Qe, JE, zz12, F_sl22, Option.isSome_some, JC, legs, JN, zz6, QO, ↓Qb]
 refine kK hK1 [3, 8, 9, 10] ?_
 refine JH ?_
 refine JL (fun m s => ∃ pre post : List LegV, l = pre ++ post ∧ ofL a l = ofL a post ∧ m = post.length ∧ s = S 21 [(3, .ptr 3 0 0), (8, .d (legs l)), (9, .d (iv l.length)), (10, .d (iv pre.length))] [(3, (⟨True, 73, 3, true, false, 3, [[.d (iv a.kind), .d (iv a.who), .d (iv a.cur)]]⟩ : ARow))]) l.length _ (leK id [] (hl := by simp only [leV, JD, QQ, Qd, Qc, legs, JN]; exact ⟨Qn _, Qn _, Qn _, Qn _, trivial⟩) (hr := by exact ⟨fun _ => ⟨_, rfl, ⟨id, rfl, rfl, fun _ => rfl, id, .inl, VLess.refl _⟩⟩, (by simp), trivial⟩)) ⟨[], l, rfl, rfl, rfl, rfl⟩ ?_
 rintro m s ⟨pre, post, rfl, ho, rfl, rfl⟩
 refine pq fun K2 hK2 => ?_
 simp only [zzK, QR, QP, QQ, zz21, JM, zz22, zz6, QO, ↓Qb]
 refine kK hK2 [3, 8, 9, 10, 11] ?_
 refine JA fun K2 hK2 => ?_
 refine cnA ?_ ?_
 ·intro hb
  obtain ⟨x, post, rfl⟩ := more_of hb; clear hb
  refine JI ?_
  simp only [zz6, QO, ↓Qb]
  refine kK hK2 [3, 8, 9, 10] ?_
  refine JA fun K2 hK2 => ?_
  refine JH ?_
  refine pq fun K3 hK3 => ?_
  simp only [zzK, QR, QP, QQ, JW, zz23, zz24, F_sl22, F_sz86, QA, zzC, yyE, Qe, F_ok86, F_ag86, zz8, zzD, QS, QN, zzH, zz32, JS, F_zero86, zz10, zz18, splice, QG, zz1, zzG, legs, legC, getD_mid, JN, lt_mid, ge_mid, QW, zz6, QO, ↓Qb]
  refine kK hK3 [3, 6, 8, 9, 10] ?_
  refine pq fun K3 hK3 => ?_
  simp only [zzK, QR, QP, QQ, zz19, zz23, F_off86_0, zzH, QN, QS, F_ok73, F_ag73, F_sz73, zz8, zzD, zzC, QA, yyE, Qe, zz21, JM, gr_ag, gr_agg, grL_cons, grL_nil, grD_cons, grD_nil, b_eqla, b_neqa, F_eql73, legC, acC, QW, veqL, veq, zz6, QO, ↓Qb]
  refine kK hK3 [3, 6, 8, 9, 10, 17] ?_
  refine cnA ?_ ?_
  ·intro hb
   have hs : acSame x.ac a = true := by simpa [acSame, Bool.and_assoc] using hb
   clear hb
   refine pq fun K4 hK4 => ?_
   simp only [zzK, QR, QP, QQ, zz19, zz23, F_off86_1, zzH, QN, QS, F_ok3, F_ag3, F_sz3, zz8, zzD, zzC, QA, yyE, Qe, JB, zz6, QO, ↓Qb]
   refine kK hK4 [4] ?_
   refine JJ ?_
   simp only [zz6, QO, ↓Qb]
   refine dnA ?_
   simp only [QD, QE, resA, JZ, QR, QP, JD, QQ, Qd, Qc, JP]
   rw [ho, ofL, hs]; rfl
  ·intro hb
   have hs : acSame x.ac a = false := by simpa [acSame, Bool.and_assoc] using hb
   clear hb
   refine JI ?_
   simp only [zz6, QO, ↓Qb]
   refine kK hK2 [3, 8, 9, 10] ?_
   refine pz ?_
   simp only [zzK, QR, QP, QQ, zz21, JM, zz26, JC, zz6, QO, ↓Qb]
   refine ⟨post.length, _, by simp, leK id [] (hl := by simp only [leV, JD, QQ, Qd, Qc, legs, JN, wrap_len pre x (by simp at hl; omega)]; exact ⟨Qn _, Qn _, Qn _, Qn _, trivial⟩) (hr := by exact ⟨fun _ => ⟨_, rfl, ⟨id, rfl, rfl, fun _ => rfl, id, .inl, VLess.refl _⟩⟩, (by simp), trivial⟩), pre ++ [x], post, by simp, by rw [ho, ofL, hs]; rfl, rfl, rfl⟩
 ·intro hb
  obtain rfl := none_of hb; clear hb
  simp only [QG] at ho ⊢
  refine JK ?_
  simp only [zz6, QO, ↓Qb]
  refine kK hK0 [] ?_
  refine pq fun K0 hK0 => ?_
  simp only [zzK, QR, QP, QQ, JB, zz6, QO, ↓Qb]
  refine kK hK0 [4] ?_
  refine JJ ?_
  simp only [zz6, QO, ↓Qb]
  refine dnA ?_
  simp only [QD, QE, resA, JZ, QR, QP, JD, QQ, Qd, Qc, JP]
  rw [QG, ho]; rfl
set_option maxRecDepth 100000 in
set_option maxHeartbeats 4000000 in
theorem lchk_ (nx : Int) (l : List LegV) (hl : l.length ≤ 500000) : ACalls Tryz.prog 26 [.agg (ledC ⟨nx, l⟩)] [] (.d (iv (ledE ⟨nx, l⟩))) := by
 refine acalls_S (rs := [.tmp 2]) Tryz.func26 rfl rfl 78 [(0, .d (.agg (ledC ⟨nx, l⟩)))] rfl (by simp) rfl ?_
 refine pq fun K0 hK0 => ?_
 simp only [zzK, QR, QP, QQ, zz35, JS, zz1, zzG, zzD, zzC, QA, yyE, Qe, QS, QN, zzH, JB, ledC, legs, zz6, QO, ↓Qb]
 refine kK hK0 [1] ?_
 refine JA fun K0 hK0 => ?_
 refine pq fun K1 hK1 => ?_
 simp only [zzK, QR, QP, QQ, zz19, zz23, F_off24_0, zzH, QN, QS, F_ok3, F_ag3, F_sz3, zz8, zzD, zzC, QA, yyE, Qe, zz21, JM, zz22, zz6, QO, ↓Qb]
 refine kK hK1 [1, 10] ?_
 refine cnA ?_ ?_
 ·intro hb
  have hn : decide (nx < 0) = true := hb
  clear hb
  refine pq fun K2 hK2 => ?_
  simp only [zzK, QR, QP, QQ, JB, zz6, QO, ↓Qb]
  refine kK hK2 [2] ?_
  refine JJ ?_
  simp only [zz6, QO, ↓Qb]
  refine dnA ?_
  simp only [QD, QE, resA, JZ, QR, QP, JD, QQ, Qd, Qc, JP]
  have e : ledOk ⟨nx, l⟩ = false := by simp only [ledOk, hn]; rfl
  simp only [ledE, e, Qc]
 ·intro hb
  have hn : decide (nx < 0) = false := hb
  clear hb
  refine JI ?_
  simp only [zz6, QO, ↓Qb]
  refine kK hK0 [1] ?_
  refine JA fun K0 hK0 => ?_
  refine pq fun K1 hK1 => ?_
  simp only [zzK, QR, QP, QQ, zz19, zz23, F_off24_1, zzH, QN, QS, F_ok22, F_ag22, F_sz22, zz8, zzD, zzC, QA, yyE, Qe, JE, zz12, F_sl22, Option.isSome_some, JC, JN, zz6, QO, ↓Qb]
  refine kK hK1 [1, 12, 13, 14] ?_
  refine JH ?_
  refine JL (fun m s => ∃ pre post : List LegV, l = pre ++ post ∧ chkR balOk lxLt none l = chkR balOk lxLt pre.getLast? post ∧ m = post.length ∧ s = S 78 [(1, .ptr 1 0 0), (12, .d (.sl 4 (l.map legC))), (13, .d (iv l.length)), (14, .d (iv pre.length))] [(1, (⟨True, 24, 2, true, false, 1, [[.d (iv nx), .d (.sl 4 (l.map legC))]]⟩ : ARow))]) l.length _ (leK id [] (hl := by simp only [leV, JD, QQ, Qd, Qc, JN]; exact ⟨Qn _, Qn _, Qn _, Qn _, trivial⟩) (hr := by exact ⟨fun _ => ⟨_, rfl, ⟨id, rfl, rfl, fun _ => rfl, id, .inl, VLess.refl _⟩⟩, (by simp), trivial⟩)) ⟨[], l, rfl, rfl, rfl, rfl⟩ ?_
  rintro m s ⟨pre, post, rfl, hck, rfl, rfl⟩
  refine pq fun K2 hK2 => ?_
  simp only [zzK, QR, QP, QQ, zz21, JM, zz22, zz6, QO, ↓Qb]
  refine kK hK2 [1, 12, 13, 14, 15] ?_
  refine JA fun K2 hK2 => ?_
  refine cnA ?_ ?_
  ·intro hb
   obtain ⟨x, post, rfl⟩ := more_of hb; clear hb
   have hpp : pre.length < 4611686018427387904 := by simp at hl; omega
   have hpg := prev_get legC pre post x [] hpp
   refine JI ?_
   simp only [zz6, QO, ↓Qb]
   refine kK hK2 [1, 12, 13, 14] ?_
   refine JA fun K2 hK2 => ?_
   refine JH ?_
   refine pq fun K3 hK3 => ?_
   simp only [zzK, QR, QP, QQ, JC, JW, zz23, zz24, F_sl22, F_sz86, QA, zzC, yyE, Qe, F_ok86, F_ag86, zz8, zzD, QS, QN, zzH, zz32, JS, F_zero86, zz10, JB, zz18, splice, QG, zz1, zzG, legC, getD_mid, JN, lt_mid, ge_mid, zz6, QO, ↓Qb]
   refine kK hK3 [1, 3, 4, 12, 13, 14] ?_
   refine JA fun K3 hK3 => ?_
   refine awp_draw F_mixed [some 19, some 20, some 21, some 22, some 23, some 24, some 25, some 26, some 27, some 28, some 29, some 30, some 31, some 32, some 33, some 34, some 35, some 36, some 37, some 38, some 39, some 40, some 41, some 42, some 43, some 44, some 45, some 46, some 47, some 48, some 49, some 50, some 51, some 52, some 53, some 54, some 55, some 56, some 57, some 58, some 59] rfl (by kernel_rfl) ?_
   simp only [zzK, QR, QP, QQ, QU, JZ, zz5, Qj, Qi, Qh, zz19, zz23, F_off86_0, zzH, QN, QS, F_ok73, F_ag73, F_sz73, zz8, zzD, zzC, QA, yyE, Qe, JE, JF, zz29, JM, zz30, JC, F_off86_1, F_ok3, F_ag3, F_sz3, F_sl30, F_zero3, zz3, JS, zz1, zzG, maxLen_le, QT, zz13, JQ, JR, zz21, zz34, zz22, zz25, F_off24_1, F_ok22, F_ag22, F_sz22, zz33, JW, zz24, F_sl22, F_sz86, ints, unDs_map, D.sl.injEq, QW, legC, acC, hpg, getD_mid, JN, lt_mid, ge_mid, QD, zz6, QO, ↓Qb]
   refine cgA F_go53 (fun hG => acRight_ x.ac) ?_
   simp only [zzK, QR, QP, QQ, QU, JZ, zz5, Qj, Qi, Qh, zz19, zz23, F_off86_0, zzH, QN, QS, F_ok73, F_ag73, F_sz73, zz8, zzD, zzC, QA, yyE, Qe, JE, JF, zz29, JM, zz30, JC, F_off86_1, F_ok3, F_ag3, F_sz3, F_sl30, F_zero3, zz3, JS, zz1, zzG, maxLen_le, QT, zz13, JQ, JR, zz21, zz34, zz22, zz25, F_off24_1, F_ok22, F_ag22, F_sz22, zz33, JW, zz24, F_sl22, F_sz86, ints, unDs_map, QW, legC, acC, hpg, getD_mid, JN, lt_mid, ge_mid, QD, zz6, QO, ↓Qb, atsL, oksG, JV, QZ, Qa, JO, Qm, QT, QS, zz9, QB, QA, S_mem, yyF, QF, zz2]
   refine cgA F_go54 (fun hG => Right_ [x.amt] (by simp)) ?_
   simp only [zzK, QR, QP, QQ, QU, JZ, zz5, Qj, Qi, Qh, zz19, zz23, F_off86_0, zzH, QN, QS, F_ok73, F_ag73, F_sz73, zz8, zzD, zzC, QA, yyE, Qe, JE, JF, zz29, JM, zz30, JC, F_off86_1, F_ok3, F_ag3, F_sz3, F_sl30, F_zero3, zz3, JS, zz1, zzG, maxLen_le, QT, zz13, JQ, JR, zz21, zz34, zz22, zz25, F_off24_1, F_ok22, F_ag22, F_sz22, zz33, JW, zz24, F_sl22, F_sz86, ints, unDs_map, QW, legC, acC, hpg, getD_mid, JN, lt_mid, ge_mid, QD, zz6, QO, ↓Qb, atsL, oksG, JV, QZ, Qa, JO, Qm, QT, QS, zz9, QB, QA, S_mem, yyF, QF, zz2]
   refine cgA F_go55 (fun hG => flo_ x.ac) ?_
   simp only [zzK, QR, QP, QQ, QU, JZ, zz5, Qj, Qi, Qh, zz19, zz23, F_off86_0, zzH, QN, QS, F_ok73, F_ag73, F_sz73, zz8, zzD, zzC, QA, yyE, Qe, JE, JF, zz29, JM, zz30, JC, F_off86_1, F_ok3, F_ag3, F_sz3, F_sl30, F_zero3, zz3, JS, zz1, zzG, maxLen_le, QT, zz13, JQ, JR, zz21, zz34, zz22, zz25, F_off24_1, F_ok22, F_ag22, F_sz22, zz33, JW, zz24, F_sl22, F_sz86, ints, unDs_map, QW, legC, acC, hpg, getD_mid, JN, lt_mid, ge_mid, QD, zz6, QO, ↓Qb, atsL, oksG, JV, QZ, Qa, JO, Qm, QT, QS, zz9, QB, QA, S_mem, yyF, QF, zz2]
   refine ⟨⟨fun _ hp2 => prev_ok pre hpp hp2, fun _ _ => prev_lt pre post x hpp⟩, ?_⟩
   refine cgA F_go56 (fun hG => acLess_ (lastOr x pre).ac x.ac) ?_
   simp only [zzK, QR, QP, QQ, QU, JZ, zz5, Qj, Qi, Qh, zz19, zz23, F_off86_0, zzH, QN, QS, F_ok73, F_ag73, F_sz73, zz8, zzD, zzC, QA, yyE, Qe, JE, JF, zz29, JM, zz30, JC, F_off86_1, F_ok3, F_ag3, F_sz3, F_sl30, F_zero3, zz3, JS, zz1, zzG, maxLen_le, QT, zz13, JQ, JR, zz21, zz34, zz22, zz25, F_off24_1, F_ok22, F_ag22, F_sz22, zz33, JW, zz24, F_sl22, F_sz86, ints, unDs_map, QW, legC, acC, hpg, getD_mid, JN, lt_mid, ge_mid, QD, zz6, QO, ↓Qb, atsL, oksG, JV, QZ, Qa, JO, Qm, QT, QS, zz9, QB, QA, S_mem, yyF, QF, zz2]
   refine kK hK3 [1, 12, 13, 14, 59] ?_
   refine cnA ?_ ?_
   ·intro hb
    have hs : (!balOk x || (decide ((pre.length : Int) > 0) && !lxLt (lastOr x pre) x)) = true := by simpa only [balOk, balBad, lxLt, Bool.not_not] using hb
    clear hb
    refine pq fun K4 hK4 => ?_
    simp only [zzK, QR, QP, QQ, JB, zz6, QO, ↓Qb]
    refine kK hK4 [2] ?_
    refine JJ ?_
    simp only [zz6, QO, ↓Qb]
    refine dnA ?_
    simp only [QD, QE, resA, JZ, QR, QP, JD, QQ, Qd, Qc, JP]
    have e : ledOk ⟨nx, pre ++ x :: post⟩ = false := by simp only [ledOk]; rw [hck, chkR_step, hs]; simp
    simp only [ledE, e, Qc]
   ·intro hb
    have hs : (!balOk x || (decide ((pre.length : Int) > 0) && !lxLt (lastOr x pre) x)) = false := by simpa only [balOk, balBad, lxLt, Bool.not_not] using hb
    clear hb
    refine JI ?_
    simp only [zz6, QO, ↓Qb]
    refine kK hK2 [1, 12, 13, 14] ?_
    refine pz ?_
    simp only [zzK, QR, QP, QQ, zz21, JM, zz26, JC, zz6, QO, ↓Qb]
    refine ⟨post.length, _, by simp, leK id [] (hl := by simp only [leV, JD, QQ, Qd, Qc, JN, wrap_len pre x (by simp at hl; omega)]; exact ⟨Qn _, Qn _, Qn _, Qn _, trivial⟩) (hr := by exact ⟨fun _ => ⟨_, rfl, ⟨id, rfl, rfl, fun _ => rfl, id, .inl, VLess.refl _⟩⟩, (by simp), trivial⟩), pre ++ [x], post, by simp, by rw [hck, chkR_step, hs]; simp, rfl, rfl⟩
  ·intro hb
   obtain rfl := none_of hb; clear hb
   simp only [QG] at hck hl ⊢
   have hk0 := hck; clear hck
   obtain ⟨l, eps⟩ : ∃ x, x = pre := ⟨_, rfl⟩
   subst eps
   refine JK ?_
   simp only [zz6, QO, ↓Qb]
   refine kK hK0 [1] ?_
   refine JA fun K0 hK0 => ?_
   refine pq fun K1 hK1 => ?_
   simp only [zzK, QR, QP, QQ, JC, zz6, QO, ↓Qb]
   refine kK hK1 [1, 61] ?_
   refine JH ?_
   refine JL (fun m s => ∃ c : Nat, c ≤ 3 ∧ (∀ k : Nat, k < c → curBad (k : Int) l = false) ∧ m = 3 - c ∧ s = S 78 [(1, .ptr 1 0 0), (61, .d (iv c))] [(1, (⟨True, 24, 2, true, false, 1, [[.d (iv nx), .d (.sl 4 (l.map legC))]]⟩ : ARow))]) 3 _ (leK id [] (hr := by exact ⟨fun _ => ⟨_, rfl, ⟨id, rfl, rfl, fun _ => rfl, id, .inl, VLess.refl _⟩⟩, (by simp), trivial⟩)) ⟨0, by omega, fun k hk => by omega, rfl, rfl⟩ ?_
   rintro m s ⟨c, hc3, hck, rfl, rfl⟩
   refine pq fun K2 hK2 => ?_
   simp only [zzK, QR, QP, QQ, zz21, JM, zz22, zz6, QO, ↓Qb]
   refine kK hK2 [1, 61, 62] ?_
   refine JA fun K2 hK2 => ?_
   refine cnA ?_ ?_
   ·intro hb
    have hlt : c < 3 := by have := Qg hb; omega
    clear hb
    have hwc : Ql .i64 ((c : Int) + 1) = ((c + 1 : Nat) : Int) := by rw [wrapI (by omega) (by omega)]; try omega
    have hsl := sumsL_len (c : Int) (fun _ => true) l
    refine JI ?_
    simp only [zz6, QO, ↓Qb]
    refine kK hK2 [1, 61] ?_
    refine JA fun K2 hK2 => ?_
    refine JH ?_
    refine pq fun K3 hK3 => ?_
    simp only [zzK, QR, QP, QQ, JC, JB, zz6, QO, ↓Qb]
    refine kK hK3 [1, 5, 61] ?_
    refine pq fun K3 hK3 => ?_
    simp only [zzK, QR, QP, QQ, F_ok24, F_ag24, F_sz24, zz8, zz23, zzD, QS, QN, zzH, zzC, QA, yyE, Qe, JC, JE, JF, zz14, JB, ledC, legs, QW, fnD, zz6, QO, ↓Qb]
    refine cgA F_go57 (fun hG => SumsA nx l (c : Int) hl) ?_
    simp only [zzK, QR, QP, QQ, F_ok24, F_ag24, F_sz24, zz8, zz23, zzD, QS, QN, zzH, zzC, QA, yyE, Qe, JC, JE, JF, zz14, JB, ledC, legs, QW, fnD, zz6, QO, ↓Qb, atsL, oksG, JV, QZ, Qa, JO, Qm, QT, QS, zz9, QB, QA, S_mem, yyF, QF, zz2]
    refine cgA F_go29 (fun hG => Sum_ (sumsL (c : Int) (fun _ => true) l) (by omega)) ?_
    simp only [zzK, QR, QP, QQ, F_ok24, F_ag24, F_sz24, zz8, zz23, zzD, QS, QN, zzH, zzC, QA, yyE, Qe, JC, JE, JF, zz14, JB, ledC, legs, QW, fnD, zz6, QO, ↓Qb, atsL, oksG, JV, QZ, Qa, JO, Qm, QT, QS, zz9, QB, QA, S_mem, yyF, QF, zz2]
    refine kK hK3 [1, 6, 7, 61] ?_
    refine JA fun K3 hK3 => ?_
    refine Qz F_mixed [some 71, some 72, some 73, some 74, some 75, some 76] rfl ?_
    simp only [zzK, QR, QP, QQ, QU, JZ, zz5, Qj, Qi, Qh, and_self, JC, zz21, JM, zz28, zz13, JQ, JR, zz6, QO, ↓Qb]
    refine kK hK3 [1, 61, 76] ?_
    refine cnA ?_ ?_
    ·intro hb
     have hcc : curBad (c : Int) l = true := hb
     clear hb
     have e : ledOk ⟨nx, l⟩ = false := by
      have e2 : (curBad 0 l || curBad 1 l || curBad 2 l) = true := by
       have : c = 0 ∨ c = 1 ∨ c = 2 := by omega
       rcases this with rfl | rfl | rfl
       ·rw [show curBad 0 l = true from hcc]; rfl
       ·rw [show curBad 1 l = true from hcc]; cases curBad 0 l <;> rfl
       ·rw [show curBad 2 l = true from hcc]; cases curBad 0 l <;> cases curBad 1 l <;> rfl
      simp only [ledOk, e2, Bool.not_true, Bool.and_false]
     refine pq fun K4 hK4 => ?_
     simp only [zzK, QR, QP, QQ, JB, zz6, QO, ↓Qb]
     refine kK hK4 [2] ?_
     refine JJ ?_
     simp only [zz6, QO, ↓Qb]
     refine dnA ?_
     simp only [QD, QE, resA, JZ, QR, QP, JD, QQ, Qd, Qc, JP]
     simp only [QG, ledE, e, Qc]
    ·intro hb
     have hcc : curBad (c : Int) l = false := hb
     clear hb
     refine JI ?_
     simp only [zz6, QO, ↓Qb]
     refine kK hK2 [1, 61] ?_
     refine pz ?_
     simp only [zzK, QR, QP, QQ, zz21, JM, zz26, JC, zz6, QO, ↓Qb]
     refine ⟨3 - (c + 1), _, by omega, le_SK id [] rfl (l' := [(1, .ptr 1 0 0), (61, .d (iv ((c + 1 : Nat) : Int)))]) (m' := [(1, (⟨True, 24, 2, true, false, 1, [[.d (iv nx), .d (.sl 4 (l.map legC))]]⟩ : ARow))]) ?_ ?_ ?_ ?_, c + 1, by omega, fun k hk => by
      rcases Nat.lt_succ_iff_lt_or_eq.1 hk with hk | rfl
      ·exact hck k hk
      ·exact hcc, rfl, rfl⟩
     ·simp only [leV, JD, QQ, Qd, Qc, hwc]; exact ⟨Qn _, Qn _, trivial⟩
     ·exact ⟨fun _ => ⟨_, rfl, ⟨id, rfl, rfl, fun _ => rfl, id, .inl, VLess.refl _⟩⟩, (by simp), trivial⟩
     ·simp [wfV, QY, QX, lookR]
     ·simp [wfR, QX, QY]
   ·intro hb
    obtain rfl : c = 3 := by have := Qf hb; omega
    clear hb
    have e : ledOk ⟨nx, l⟩ = true := by
     simp only [ledOk, hn, hk0, show curBad 0 l = false from hck 0 (by omega), show curBad 1 l = false from hck 1 (by omega), show curBad 2 l = false from hck 2 (by omega)]; rfl
    refine JK ?_
    simp only [zz6, QO, ↓Qb]
    refine kK hK0 [] ?_
    refine pq fun K0 hK0 => ?_
    simp only [zzK, QR, QP, QQ, JB, zz6, QO, ↓Qb]
    refine kK hK0 [2] ?_
    refine JJ ?_
    simp only [zz6, QO, ↓Qb]
    refine dnA ?_
    simp only [QD, QE, resA, JZ, QR, QP, JD, QQ, Qd, Qc, JP]
    simp only [QG, ledE, e, Qd]
theorem rightCur_ (c : Int) : ACalls Tryz.prog 27 [iv c] [] (bv (curOk c)) := by
 refine acalls_S (rs := [.tmp 2]) Tryz.func27 rfl rfl 9 [(0, .d (iv c))] rfl (by simp) rfl ?_
 refine pq fun K0 hK0 => ?_
 simp only [zzK, QR, QP, QQ, JB, zz6, QO, ↓Qb]
 refine kK hK0 [0] ?_
 refine JA fun K0 hK0 => ?_
 refine Qz F_mixed [some 3, some 4, some 5, some 6, some 7, some 8, some 2] rfl ?_
 simp only [zzK, QR, QP, QQ, QU, JZ, zz5, Qj, Qi, Qh, and_self, JC, zz21, JM, zz31, zz22, zz13, JQ, JR, JB, zz6, QO, ↓Qb]
 refine kK hK0 [2] ?_
 refine JJ ?_
 simp only [zz6, QO, ↓Qb]
 refine dnA ?_
 simp only [QD, QE, resA, JZ, QR, QP, JD, QQ, Qd, Qc, JP]
 try rfl
theorem rightWhos_ (l : List Int) (hl : l.length ≤ 400000) : ACalls Tryz.prog 28 [ints l] [] (bv (whosOk l)) := by
 refine acalls_S (rs := [.tmp 2]) Tryz.func28 rfl rfl 32 [(0, .d (ints l))] rfl (by simp) rfl ?_
 refine pq fun K0 hK0 => ?_
 simp only [zzK, QR, QP, QQ, JB, zz6, QO, ↓Qb]
 refine kK hK0 [0] ?_
 refine JA fun K0 hK0 => ?_
 refine pq fun K1 hK1 => ?_
 simp only [zzK, QR, QP, QQ, JC, JE, zz12, F_sl30, Option.isSome_some, ints, JN, zz6, QO, ↓Qb]
 refine kK hK1 [0, 5, 6, 7] ?_
 refine JH ?_
 refine JL (fun m s => ∃ (i : Nat), (i ≤ l.length) ∧ (whosTo l i = true) ∧ m = l.length - i ∧ s = S 32 [(0, .d (ints l)), (5, .d (ints l)), (6, .d (iv l.length)), (7, .d (iv ((i : Nat) : Int)))] []) (l.length) _ (leK id []) ⟨0, Nat.zero_le _, rfl, rfl, rfl⟩ ?_
 rintro m s ⟨i, hil, hw, rfl, rfl⟩
 refine pq fun K2 hK2 => ?_
 simp only [zzK, QR, QP, QQ, zz21, JM, zz22, zz6, QO, ↓Qb]
 refine kK hK2 [0, 5, 6, 7, 8] ?_
 refine JA fun K2 hK2 => ?_
 refine cnA ?_ ?_
 ·intro hb
  have hi : i < l.length := by have := Qg hb; omega
  clear hb
  have hwi : Ql .i64 ((i : Int) + 1) = ((i + 1 : Nat) : Int) := wrapI (by omega) (by omega)
  have hwm : Ql .i64 ((i : Int) - 1) = (i : Int) - 1 := wrapI (by omega) (by omega)
  have htn : ((i : Int) - 1).toNat = i - 1 := by omega
  have gi := intsD_get (p := l) hi
  have gj := intsD_get (p := l) (k := i - 1) (by omega)
  have bi := ltI hi
  have cj := eq_true (show i - 1 < l.length by omega)
  have dj := eq_true (show (i : Int) - 1 < (l.length : Int) by omega)
  refine JI ?_
  simp only [zz6, QO, ↓Qb]
  refine kK hK2 [0, 5, 6, 7] ?_
  refine JA fun K2 hK2 => ?_
  refine JH ?_
  refine pq fun K3 hK3 => ?_
  simp only [zzK, QR, QP, QQ, JC, JW, zz23, zz24, F_sl30, F_sz3, QA, zzC, yyE, Qe, F_ok3, F_ag3, zz8, zzD, QS, QN, zzH, JB, ints, JN, gi, bi, ge0, QV, zz6, QO, ↓Qb]
  refine kK hK3 [0, 3, 4, 5, 6, 7] ?_
  refine JA fun K3 hK3 => ?_
  refine Qz F_mixed [some 12, some 13, some 14, some 15, some 16, some 17, some 18, some 19, some 20, some 21, some 22, some 23, some 24, some 25, some 26, some 27, some 28, some 29, some 30] rfl ?_
  simp only [zzK, QR, QP, QQ, QU, JZ, zz5, Qj, Qi, Qh, JC, zz21, JM, zz22, zz25, zz13, JQ, JR, zz33, JW, zz23, zz24, F_sl30, F_sz3, QA, zzC, yyE, Qe, F_ok3, F_ag3, zz8, zzD, QS, QN, zzH, zz31, ints, JN, hwm, htn, gj, cj, dj, zz6, QO, ↓Qb]
  try refine And.intro (by repeat' (first | apply And.intro | intro _); all_goals (first | assumption | (simp_all; omega))) ?_
  refine kK hK3 [0, 5, 6, 7, 30] ?_
  refine cnA ?_ ?_
  ·intro hb
   have hx : whoBad l i = true := hb
   clear hb
   refine pq fun K4 hK4 => ?_
   simp only [zzK, QR, QP, QQ, JB, zz6, QO, ↓Qb]
   refine kK hK4 [2] ?_
   refine JJ ?_
   simp only [zz6, QO, ↓Qb]
   refine dnA ?_
   simp only [QD, QE, resA, JZ, QR, QP, JD, QQ, Qd, Qc, JP]
   rw [whos_no hi hx]
  ·intro hb
   have hx : whoBad l i = false := hb
   clear hb
   refine JI ?_
   simp only [zz6, QO, ↓Qb]
   refine kK hK2 [0, 5, 6, 7] ?_
   refine pz ?_
   simp only [zzK, QR, QP, QQ, zz21, JM, zz26, JC, hwi, zz6, QO, ↓Qb]
   refine ⟨l.length - (i + 1), _, by omega, leK id [], (i + 1), by omega, by rw [whosTo_succ, hw, hx]; rfl, rfl, rfl⟩
 ·intro hb
  obtain rfl : i = l.length := by have := Qf hb; omega
  clear hb
  refine JK ?_
  simp only [zz6, QO, ↓Qb]
  refine kK hK0 [] ?_
  refine pq fun K0 hK0 => ?_
  simp only [zzK, QR, QP, QQ, JB, zz6, QO, ↓Qb]
  refine kK hK0 [2] ?_
  refine JJ ?_
  simp only [zz6, QO, ↓Qb]
  refine dnA ?_
  simp only [QD, QE, resA, JZ, QR, QP, JD, QQ, Qd, Qc, JP]
  rw [show whosOk l = true from hw]
theorem shares_ (nx : Int) (l : List LegV) (c : Int) (ws : List Int) (hl : l.length ≤ 400000) (hw : ws.length ≤ 400000) : ACalls Tryz.prog 30 [.agg (ledC ⟨nx, l⟩), iv c, ints ws] [⟨3, 1, (shV c l ws).map fun n => [iv n]⟩] (.ref 0 (shV c l ws).length) := by
 refine acalls_S (rs := [.tmp 6]) Tryz.func30 rfl rfl 26 [(0, .d (.agg (ledC ⟨nx, l⟩))), (1, .d (iv c)), (2, .d (ints ws))] rfl (by simp) rfl ?_
 refine pq fun K0 hK0 => ?_
 simp only [zzK, QR, QP, QQ, zz35, JS, zz1, zzG, zzD, zzC, QA, yyE, Qe, QS, QN, zzH, JB, ledC, legs, zz6, QO, ↓Qb]
 refine kK hK0 [1, 2, 3] ?_
 refine pq fun K0 hK0 => ?_
 simp only [zzK, QR, QP, QQ, JB, zz6, QO, ↓Qb]
 refine kK hK0 [1, 2, 3, 7] ?_
 refine JA fun K0 hK0 => ?_
 refine pq fun K1 hK1 => ?_
 simp only [zzK, QR, QP, QQ, JC, JE, zz12, F_sl30, Option.isSome_some, ints, JN, zz6, QO, ↓Qb]
 refine kK hK1 [1, 3, 7, 10, 11, 12] ?_
 refine JH ?_
 refine JL (fun m s => ∃ (pre : List Int) (post : List Int), (ws = pre ++ post) ∧ m = post.length ∧ s = S 26 [(1, .d (iv c)), (3, .ptr 3 0 0), (7, .ref 7 (shV c l pre).length), (10, .d (ints ws)), (11, .d (iv ws.length)), (12, .d (iv pre.length))] [(3, (⟨True, 24, 2, true, false, 3, [[.d (iv nx), .d (.sl 4 (l.map legC))]]⟩ : ARow)), (7, grow 3 1 7 ((shV c l pre).map fun n => [iv n]))]) (ws.length) _ (leK id [7]) ⟨[], ws, rfl, rfl, rfl⟩ ?_
 rintro m s ⟨pre, post, hsp, rfl, rfl⟩
 have hspl := congrArg List.length hsp
 simp only [QC] at hspl
 have hvl := shV_len c l pre
 refine pq fun K2 hK2 => ?_
 simp only [zzK, QR, QP, QQ, zz21, JM, zz22, zz6, QO, ↓Qb]
 refine kK hK2 [1, 3, 7, 10, 11, 12, 13] ?_
 refine JA fun K2 hK2 => ?_
 refine cnA ?_ ?_
 ·intro hb
  obtain ⟨x, post2, rfl⟩ : ∃ x t, post = x :: t := by
   cases post with
   | nil => have := Qg hb; simp at hspl; omega
   | cons x t => exact ⟨x, t, rfl⟩
  clear hb
  simp only [QF] at hspl
  have gx : (ws.map (fun n => [iv n])).getD pre.length [] = [iv x] := by
   rw [hsp, List.map_append]; exact gd_mid' (A := pre.map (fun n => [iv n])) _ _ (by simp)
  have bx := ltI (show pre.length < ws.length by omega)
  have hwx : Ql .i64 ((pre.length : Int) + 1) = ((pre ++ [x]).length : Int) := by rw [wrapI (by omega) (by omega)]; simp
  refine JI ?_
  simp only [zz6, QO, ↓Qb]
  refine kK hK2 [1, 3, 7, 10, 11, 12] ?_
  refine JA fun K2 hK2 => ?_
  refine JH ?_
  refine pq fun K3 hK3 => ?_
  simp only [zzK, QR, QP, QQ, JW, zz23, zz24, F_sl30, F_sz3, QA, zzC, yyE, Qe, F_ok3, F_ag3, zz8, zzD, QS, QN, zzH, JB, ints, gx, bx, hwx, JN, ge0, QV, QW, zz6, QO, ↓Qb]
  refine kK hK3 [1, 3, 7, 9, 10, 11, 12] ?_
  refine pz ?_
  simp only [zzK, QR, QP, QQ, JC, F_ok24, F_ag24, F_sz24, zz8, zz23, zzD, QS, QN, zzH, zzC, QA, yyE, Qe, F_zero73, F_bld73, zz7, splice, Option.getD_some, QG, zz1, zzG, zz10, F_fld73_0, F_fld73_1, F_fld73_2, JE, JF, F_sl30, F_zero3, F_sz3, zz3, JS, maxLen_le, QT, F_by3, zz4, zz9, QB, JB, ledC, legs, acC, fAc, grow, unDs_map, QW, zz6, QO, ↓Qb]
  refine cgA F_go43 (fun hG => of10_ nx l (fAc 3 x c) (by omega)) ?_
  simp only [zzK, QR, QP, QQ, JC, F_ok24, F_ag24, F_sz24, zz8, zz23, zzD, QS, QN, zzH, zzC, QA, yyE, Qe, F_zero73, F_bld73, zz7, splice, Option.getD_some, QG, zz1, zzG, zz10, F_fld73_0, F_fld73_1, F_fld73_2, JE, JF, F_sl30, F_zero3, F_sz3, zz3, JS, maxLen_le, QT, F_by3, zz4, zz9, QB, JB, ledC, legs, acC, fAc, grow, unDs_map, QW, zz6, QO, ↓Qb, atsL, oksG, JV, QZ, Qa, JO, Qm, QT, QS, unDs_cons, QB, QA, S_mem, yyF, QF, zz2]
  have hm : (shV c l pre).length + 1 ≤ 1000000 := by first | omega | (simp; omega)
  first | refine ⟨le_maxLen hm, by omega, ?_⟩ | refine ⟨by simp, le_maxLen hm, by omega, ?_⟩
  clear hm
  refine kK hK2 [1, 3, 7, 10, 11, 12] ?_
  refine pz ?_
  simp only [zzK, QR, QP, QQ, zz21, JM, zz26, JC, hwx, zz6, QO, ↓Qb]
  refine ⟨post2.length, _, by simp, leK (fun r => bif r == 7 then 23 else r) [] (hl := by simp only [leV, JD, QQ, Qd, Qc, hwx]; exact ⟨vA, vA, (Qr (by simp) (by rfl) (by rw [shV_snoc]; simp)), vA, vA, vA, trivial⟩) (hr := by exact ⟨fun _ => ⟨_, rfl, rA⟩, (by simp), fun _ => ⟨_, rfl, Qw (by rw [shV_snoc]; simp [fAc])⟩, (by simp), trivial⟩), (pre ++ [x]), post2, by simp [hsp], rfl, rfl⟩
 ·intro hb
  obtain rfl : post = [] := by
   cases post with
   | nil => rfl
   | cons x t => have := Qf hb; simp at hspl; omega
  clear hb
  simp only [QG] at hsp
  subst hsp
  refine JK ?_
  simp only [zz6, QO, ↓Qb]
  refine kK hK0 [7] ?_
  refine pq fun K0 hK0 => ?_
  simp only [zzK, QR, QP, QQ, JC, JB, grow, zz6, QO, ↓Qb]
  refine kK hK0 [6] ?_
  refine JJ ?_
  simp only [zz6, QO, ↓Qb]
  refine done1 7 (by simp only [resCs, resC]; trivial) ?_ (by simp [Ja, Jb, Jc]) (by simp [QY, QX]) (by rfl) trivial rfl rfl ?_ (by simp [flatDs, Jc])
  ·simp only [QD, QE, resA, JZ, QR, QP, JD, QQ, Qd, Qc, JP]; rfl
  ·rfl
theorem sharesF (nx : Int) (l : List LegV) (c : Int) (ws : List Int) (hl : l.length ≤ 400000) (hw : ws.length ≤ 400000) : ACalls Tryz.prog 30 [.agg (ledC ⟨nx, l⟩), iv c, ints ws] [] (.d (ints (shV c l ws))) := (shares_ nx l c ws hl hw).freeze (by simp [frzOk])
theorem fShares_ (nx : Int) (l : List LegV) (c : Int) (ws : List Int) (hl : l.length ≤ 400000) (hw : ws.length ≤ 400000) : ACalls Tryz.prog 8 [.agg (ledC ⟨nx, l⟩), iv c, ints ws] [] (.tp [.d (iv (shN ⟨nx, l⟩ c ws)), .d (iv (shE ⟨nx, l⟩ c ws))]) := by
 refine acalls_S (rs := [.tmp 6, .tmp 7]) Tryz.func8 rfl rfl 31 [(0, .d (.agg (ledC ⟨nx, l⟩))), (1, .d (iv c)), (2, .d (ints ws))] rfl (by simp) rfl ?_
 refine pq fun K0 hK0 => ?_
 simp only [zzK, QR, QP, QQ, zz35, JS, zz1, zzG, zzD, zzC, QA, yyE, Qe, QS, QN, zzH, JB, ledC, legs, zz6, QO, ↓Qb]
 refine kK hK0 [1, 2, 3] ?_
 refine pq fun K0 hK0 => ?_
 simp only [zzK, QR, QP, QQ, F_ok24, F_ag24, F_sz24, zz8, zz23, zzD, QS, QN, zzH, zzC, QA, yyE, Qe, JE, JF, JB, ledC, legs, QW, zz6, QO, ↓Qb]
 refine cgA F_go26 (fun hG => lchk_ nx l (by omega)) ?_
 simp only [zzK, QR, QP, QQ, F_ok24, F_ag24, F_sz24, zz8, zz23, zzD, QS, QN, zzH, zzC, QA, yyE, Qe, JE, JF, JB, ledC, legs, QW, zz6, QO, ↓Qb, atsL, oksG, JV, QZ, Qa, JO, Qm, QT, QS, zz9, QB, QA, S_mem, yyF, QF, zz2]
 refine kK hK0 [1, 2, 3, 8] ?_
 refine JA fun K0 hK0 => ?_
 refine JH ?_
 refine pq fun K1 hK1 => ?_
 simp only [zzK, QR, QP, QQ, JC, zz21, JM, zz28, JB, zz6, QO, ↓Qb]
 refine kK hK1 [1, 2, 3, 8, 11] ?_
 refine cnA ?_ ?_
 ·intro hb
  have he : (ledE ⟨nx, l⟩ != 0) = true := hb
  clear hb
  refine pq fun K2 hK2 => ?_
  simp only [zzK, QR, QP, QQ, JC, JB, zz6, QO, ↓Qb]
  refine kK hK2 [6, 7] ?_
  refine JJ ?_
  simp only [zz6, QO, ↓Qb]
  refine dnA ?_
  simp only [QD, QE, resA, JZ, QR, QP, JD, QQ, Qd, Qc, JP]
  rw [show shN ⟨nx, l⟩ c ws = 0 by simp only [shN, he, Qd], show shE ⟨nx, l⟩ c ws = ledE ⟨nx, l⟩ by simp only [shE, he, Qd]]
 ·intro hb
  have he : (ledE ⟨nx, l⟩ != 0) = false := hb
  clear hb
  refine JA fun K2 hK2 => ?_
  refine Qz F_mixed [some 16, some 17, some 18, some 19, some 20, some 21, some 22, some 23, some 15] rfl ?_
  simp only [zzK, QR, QP, QQ, QU, JZ, zz5, Qj, Qi, Qh, and_self, JC, JE, JF, zz29, JM, zz30, zz13, JQ, JR, JB, ints, zz6, QO, ↓Qb]
  refine cgA F_go27 (fun hG => rightCur_ c) ?_
  simp only [zzK, QR, QP, QQ, QU, JZ, zz5, Qj, Qi, Qh, and_self, JC, JE, JF, zz29, JM, zz30, zz13, JQ, JR, JB, ints, zz6, QO, ↓Qb, atsL, oksG, JV, QZ, Qa, JO, Qm, QT, QS, zz9, QB, QA, zzC, yyF, zzD, zz2]
  refine cgA F_go28 (fun hG => rightWhos_ ws hw) ?_
  simp only [zzK, QR, QP, QQ, QU, JZ, zz5, Qj, Qi, Qh, and_self, JC, JE, JF, zz29, JM, zz30, zz13, JQ, JR, JB, ints, zz6, QO, ↓Qb, atsL, oksG, JV, QZ, Qa, JO, Qm, QT, QS, zz9, QB, QA, zzC, yyF, zzD, zz2]
  refine kK hK2 [1, 2, 3, 15] ?_
  refine cnA ?_ ?_
  ·intro hb
   have hs : shBad c ws = true := hb
   clear hb
   refine pq fun K3 hK3 => ?_
   simp only [zzK, QR, QP, QQ, JB, zz6, QO, ↓Qb]
   refine kK hK3 [6, 7] ?_
   refine JJ ?_
   simp only [zz6, QO, ↓Qb]
   refine dnA ?_
   simp only [QD, QE, resA, JZ, QR, QP, JD, QQ, Qd, Qc, JP]
   rw [show shN ⟨nx, l⟩ c ws = 0 by simp only [shN, he, hs, Qd, Qc], show shE ⟨nx, l⟩ c ws = 3 by simp only [shE, he, hs, Qd, Qc]]
  ·intro hb
   have hs : shBad c ws = false := hb
   clear hb
   refine JI ?_
   simp only [zz6, QO, ↓Qb]
   refine kK hK0 [1, 2, 3] ?_
   refine pq fun K0 hK0 => ?_
   simp only [zzK, QR, QP, QQ, F_ok24, F_ag24, F_sz24, zz8, zz23, zzD, QS, QN, zzH, zzC, QA, yyE, Qe, JC, JE, JF, zz14, JB, ledC, legs, ints, QW, zz6, QO, ↓Qb]
   refine cgA F_go30 (fun hG => sharesF nx l c ws hl hw) ?_
   simp only [zzK, QR, QP, QQ, F_ok24, F_ag24, F_sz24, zz8, zz23, zzD, QS, QN, zzH, zzC, QA, yyE, Qe, JC, JE, JF, zz14, JB, ledC, legs, ints, QW, zz6, QO, ↓Qb, atsL, oksG, JV, QZ, Qa, JO, Qm, QT, QS, zz9, QB, QA, S_mem, yyF, QF, zz2]
   refine cgA F_go29 (fun hG => Sum_ (shV c l ws) (by rw [shV_len]; omega)) ?_
   simp only [zzK, QR, QP, QQ, F_ok24, F_ag24, F_sz24, zz8, zz23, zzD, QS, QN, zzH, zzC, QA, yyE, Qe, JC, JE, JF, zz14, JB, ledC, legs, ints, QW, zz6, QO, ↓Qb, atsL, oksG, JV, QZ, Qa, JO, Qm, QT, QS, zz9, QB, QA, S_mem, yyF, QF, zz2]
   refine kK hK0 [6, 7] ?_
   refine JJ ?_
   simp only [zz6, QO, ↓Qb]
   refine dnA ?_
   simp only [QD, QE, resA, JZ, QR, QP, JD, QQ, Qd, Qc, JP]
   rw [show shN ⟨nx, l⟩ c ws = sumV (shV c l ws) by simp only [shN, he, hs, Qc], show shE ⟨nx, l⟩ c ws = sumE (shV c l ws) by simp only [shE, he, hs, Qc]]
theorem splitF21 (t : Int) (l : List Int) (hl : l.length ≤ 19) : ACalls Tryz.prog 84 [iv t, ints l] [] (.tp [.d (ints (splitV t l)), .d (iv (splitE t l))]) :=
 (split_ t l hl).freezeT (by simp [frzOk, frzOkL])
set_option maxRecDepth 100000 in
set_option maxHeartbeats 4000000 in
theorem borne_ (k c amt most : Int) (ws wg : List Int) (hw : ws.length ≤ 19) (hg : wg.length = ws.length) : ACalls Tryz.prog 39 [iv k, iv c, iv amt, iv most, ints ws, ints wg] [⟨75, 4, (boV k c amt most ws wg).map legC⟩] (.tp [.ref 0 (boV k c amt most ws wg).length, .d (iv (boE k c amt most ws wg))]) := by
 refine acalls_S (rs := [.tmp 12, .tmp 13]) Tryz.func39 rfl rfl 71 [(0, .d (iv k)), (1, .d (iv c)), (2, .d (iv amt)), (3, .d (iv most)), (4, .d (ints ws)), (5, .d (ints wg))] rfl (by simp) rfl ?_
 refine pq fun K0 hK0 => ?_
 simp only [zzK, QR, QP, QQ, JB, zz6, QO, ↓Qb]
 refine kK hK0 [0, 1, 2, 3, 4, 5] ?_
 refine JA fun K0 hK0 => ?_
 refine JH ?_
 refine JA fun K1 hK1 => ?_
 refine Qz F_mixed [some 20, some 21, some 22, some 23, some 24, some 25, some 26, some 27, some 19] rfl ?_
 simp only [zzK, QR, QP, QQ, QU, JZ, zz5, Qj, Qi, Qh, JC, zz21, JM, zz22, F_sl30, F_zero3, F_sz3, zz3, JS, zz1, zzG, zzD, zzC, QA, yyE, Qe, QS, QN, zzH, maxLen_le, QT, JE, JF, zz29, zz30, zz13, JQ, JR, JB, ints, QD, D.sl.injEq, zz6, QO, ↓Qb]
 refine cgA F_go54 (fun hG => Right_ [amt] (by simp)) ?_
 simp only [zzK, QR, QP, QQ, QU, JZ, zz5, Qj, Qi, Qh, JC, zz21, JM, zz22, F_sl30, F_zero3, F_sz3, zz3, JS, zz1, zzG, zzD, zzC, QA, yyE, Qe, QS, QN, zzH, maxLen_le, QT, JE, JF, zz29, zz30, zz13, JQ, JR, JB, ints, QD, zz6, QO, ↓Qb, atsL, oksG, JV, QZ, Qa, JO, Qm, QT, QS, zz9, QB, QA, S_mem, yyF, QF, zz2]
 refine kK hK1 [0, 1, 2, 3, 4, 5, 19] ?_
 refine cnA ?_ ?_
 ·intro hb
  have ha : amtBad amt = true := hb
  clear hb
  refine pq fun K2 hK2 => ?_
  simp only [zzK, QR, QP, QQ, JB, zz6, QO, ↓Qb]
  refine kK hK2 [12, 13] ?_
  refine awp_le (leK id [0] (l' := [(12, .ref 0 0), (13, .d (iv 3))]) (m' := [(0, (⟨True, 75, 4, true, true, 0, []⟩ : ARow))])) ?_
  refine JJ ?_
  simp only [zz6, QO, ↓Qb]
  rw [show boV k c amt most ws wg = [] by simp only [boV, ha, Qd, Qc], show boE k c amt most ws wg = 3 by simp only [boE, ha, Qd, Qc]]
  refine done1 0 (by simp only [resCs, resC]; trivial) ?_ (by simp [Ja, Jb, Jc, legC]) (by simp [QY, QX, legC]) (by rfl) trivial rfl rfl ?_ (by simp [flatDs, Jc, legC])
  ·simp only [QD, QE, resA, JZ, QR, QP, JD, QQ, Qd, Qc, JP]; rfl
  ·rfl
 ·intro hb
  have ha : amtBad amt = false := hb
  clear hb
  refine pq fun K2 hK2 => ?_
  simp only [zzK, QR, QP, QQ, JC, zz21, JM, zz25, JB, zz6, QO, ↓Qb]
  refine kK hK2 [0, 1, 2, 4, 5, 28] ?_
  refine cnA ?_ ?_
  ·intro hb
   have hm : decide (amt > most) = true := hb
   clear hb
   refine pq fun K3 hK3 => ?_
   simp only [zzK, QR, QP, QQ, JB, zz6, QO, ↓Qb]
   refine kK hK3 [12, 13] ?_
   refine awp_le (leK id [0] (l' := [(12, .ref 0 0), (13, .d (iv 13))]) (m' := [(0, (⟨True, 75, 4, true, true, 0, []⟩ : ARow))])) ?_
   refine JJ ?_
   simp only [zz6, QO, ↓Qb]
   rw [show boV k c amt most ws wg = [] by simp only [boV, ha, hm, Qd, Qc], show boE k c amt most ws wg = 13 by simp only [boE, ha, hm, Qd, Qc]]
   refine done1 0 (by simp only [resCs, resC]; trivial) ?_ (by simp [Ja, Jb, Jc, legC]) (by simp [QY, QX, legC]) (by rfl) trivial rfl rfl ?_ (by simp [flatDs, Jc, legC])
   ·simp only [QD, QE, resA, JZ, QR, QP, JD, QQ, Qd, Qc, JP]; rfl
   ·rfl
  ·intro hb
   have hm : decide (amt > most) = false := hb
   clear hb
   refine JI ?_
   simp only [zz6, QO, ↓Qb]
   refine kK hK0 [0, 1, 2, 4, 5] ?_
   refine pq fun K0 hK0 => ?_
   simp only [zzK, QR, QP, QQ, JC, JE, JF, zz14, zzD, QS, QN, zzF, JB, ints, zz6, QO, ↓Qb]
   refine cgA F_go84 (fun hG => splitF21 amt wg (by omega)) ?_
   simp only [zzK, QR, QP, QQ, JC, JE, JF, zz14, zzD, QS, QN, zzF, JB, ints, zz6, QO, ↓Qb, atsL, oksG, JV, QZ, Qa, JO, Qm, QT, QS, zz9, QB, QA, zzC, yyF, QF, zz2]
   refine kK hK0 [0, 1, 2, 4, 14, 15] ?_
   refine JA fun K0 hK0 => ?_
   refine pq fun K1 hK1 => ?_
   simp only [zzK, QR, QP, QQ, JC, zz21, JM, zz28, zz6, QO, ↓Qb]
   refine kK hK1 [0, 1, 2, 4, 14, 15, 39] ?_
   refine cnA ?_ ?_
   ·intro hb
    have hs : (splitE amt wg != 0) = true := hb
    clear hb
    refine pq fun K2 hK2 => ?_
    simp only [zzK, QR, QP, QQ, JC, JB, zz6, QO, ↓Qb]
    refine kK hK2 [12, 13] ?_
    refine awp_le (leK id [0] (l' := [(12, .ref 0 0), (13, .d (iv (splitE amt wg)))]) (m' := [(0, (⟨True, 75, 4, true, true, 0, []⟩ : ARow))])) ?_
    refine JJ ?_
    simp only [zz6, QO, ↓Qb]
    rw [show boV k c amt most ws wg = [] by simp only [boV, ha, hm, hs, Qd, Qc], show boE k c amt most ws wg = splitE amt wg by simp only [boE, ha, hm, hs, Qd, Qc]]
    refine done1 0 (by simp only [resCs, resC]; trivial) ?_ (by simp [Ja, Jb, Jc, legC]) (by simp [QY, QX, legC]) (by rfl) trivial rfl rfl ?_ (by simp [flatDs, Jc, legC])
    ·simp only [QD, QE, resA, JZ, QR, QP, JD, QQ, Qd, Qc, JP]; rfl
    ·rfl
   ·intro hb
    have hs : (splitE amt wg != 0) = false := hb
    clear hb
    refine JI ?_
    simp only [zz6, QO, ↓Qb]
    refine kK hK0 [0, 1, 2, 4, 14] ?_
    refine pq fun K0 hK0 => ?_
    simp only [zzK, QR, QP, QQ, JC, F_zero73, F_bld73, zz7, splice, Option.getD_some, QG, zz1, zzG, zzD, zzC, QA, yyE, Qe, QS, QN, zzH, zz10, F_fld73_0, F_fld73_2, F_zero75, F_bld75, F_fld75_0, F_fld75_1, F_sl41, F_sz75, zz3, JS, maxLen_le, QT, JB, grow, zz6, QO, ↓Qb]
    refine kK hK0 [0, 1, 4, 14, 16] ?_
    refine JA fun K0 hK0 => ?_
    refine pq fun K1 hK1 => ?_
    simp only [zzK, QR, QP, QQ, JC, JE, zz12, F_sl30, Option.isSome_some, ints, JN, zz6, QO, ↓Qb]
    refine kK hK1 [0, 1, 4, 16, 46, 47, 48] ?_
    refine JH ?_
    refine JL (fun m s => ∃ (i : Nat), (i ≤ (splitV amt wg).length) ∧ m = (splitV amt wg).length - i ∧ s = S 71 [(0, .d (iv k)), (1, .d (iv c)), (4, .d (ints ws)), (16, .ref 16 (bAll k c amt ws (splitV amt wg) i).length), (46, .d (ints (splitV amt wg))), (47, .d (iv (splitV amt wg).length)), (48, .d (iv ((i : Nat) : Int)))] [(16, grow 75 4 16 ((bAll k c amt ws (splitV amt wg) i).map legC))]) ((splitV amt wg).length) _ (leK (fun r => bif r == 16 then 45 else r) [] (hl := by simp only [leV, JD, QQ, Qd, Qc]; exact ⟨vA, vA, vA, (Qr (by simp) (by rfl) (by rfl)), vA, vA, (VLe.dE rfl), trivial⟩) (hr := by exact ⟨fun _ => ⟨_, rfl, (by exact RowLe.uq2 (by simp [bAll, bTl, lossL, fAc, legC]) (by simp) (by simp [QX, QY]))⟩, (by simp), trivial⟩)) ⟨0, Nat.zero_le _, rfl, rfl⟩ ?_
    rintro m s ⟨i, hil, rfl, rfl⟩
    have hbl := bAll_len k c amt ws (splitV amt wg) i
    have hsv := splitV_any amt wg
    refine pq fun K2 hK2 => ?_
    simp only [zzK, QR, QP, QQ, zz21, JM, zz22, zz6, QO, ↓Qb]
    refine kK hK2 [0, 1, 4, 16, 46, 47, 48, 49] ?_
    refine JA fun K2 hK2 => ?_
    refine cnA ?_ ?_
    ·intro hb
     have hi : i < (splitV amt wg).length := by have := Qg hb; omega
     clear hb
     have hwi : Ql .i64 ((i : Int) + 1) = ((i + 1 : Nat) : Int) := wrapI (by omega) (by omega)
     have hiw : i < ws.length := by omega
     have gi := intsD_get (p := splitV amt wg) hi
     have gw := intsD_get (p := ws) hiw
     have bi := ltI hi
     have bw := ltI hiw
     refine JI ?_
     simp only [zz6, QO, ↓Qb]
     refine kK hK2 [0, 1, 4, 16, 46, 47, 48] ?_
     refine JA fun K2 hK2 => ?_
     refine JH ?_
     refine pq fun K3 hK3 => ?_
     simp only [zzK, QR, QP, QQ, JC, JW, zz23, zz24, F_sl30, F_sz3, QA, zzC, yyE, Qe, F_ok3, F_ag3, zz8, zzD, QS, QN, zzH, JB, ints, JN, gi, bi, ge0, QV, zz6, QO, ↓Qb]
     refine kK hK3 [0, 1, 4, 16, 17, 18, 46, 47, 48] ?_
     refine pz ?_
     simp only [zzK, QR, QP, QQ, JC, JW, zz23, zz24, F_sl30, F_sz3, QA, zzC, yyE, Qe, F_ok3, F_ag3, zz8, zzD, QS, QN, zzH, F_zero73, F_bld73, zz7, splice, Option.getD_some, QG, zz1, zzG, zz10, F_fld73_0, F_fld73_1, F_fld73_2, zz29, JM, zz37, F_zero75, F_bld75, F_fld75_0, F_fld75_1, F_sl41, F_sz75, zz3, JS, maxLen_le, QT, JE, F_by75, zz4, zz9, QB, JB, ints, JN, gw, bw, ge0, QV, grow, unDs_map, QW, zz6, QO, ↓Qb]
     have hm : (bAll k c amt ws (splitV amt wg) i).length + 1 ≤ 1000000 := by first | omega | (simp; omega)
     first | refine ⟨le_maxLen hm, by omega, ?_⟩ | refine ⟨by simp, le_maxLen hm, by omega, ?_⟩
     clear hm
     refine kK hK2 [0, 1, 4, 16, 46, 47, 48] ?_
     refine pz ?_
     simp only [zzK, QR, QP, QQ, zz21, JM, zz26, JC, hwi, zz6, QO, ↓Qb]
     refine ⟨(splitV amt wg).length - (i + 1), _, by omega, leK (fun r => bif r == 16 then 65 else r) [] (hl := by simp only [leV, JD, QQ, Qd, Qc, hwi]; exact ⟨vA, vA, vA, (Qr (by simp) (by rfl) (by rw [bAll_succ]; simp)), vA, vA, vA, trivial⟩) (hr := by exact ⟨fun _ => ⟨_, rfl, Qw (by rw [bAll_succ]; simp [bLeg, fAc, legC, ngW])⟩, (by simp), trivial⟩), (i + 1), by omega, rfl, rfl⟩
    ·intro hb
     obtain rfl : i = (splitV amt wg).length := by have := Qf hb; omega
     clear hb
     have e1 : boV k c amt most ws wg = joinV (boL k c amt ws (splitV amt wg)) := by simp only [boV, ha, hm, hs, Qc]
     have e2 : boE k c amt most ws wg = joinR (boL k c amt ws (splitV amt wg)) := by simp only [boE, ha, hm, hs, Qc]
     refine JK ?_
     simp only [zz6, QO, ↓Qb]
     refine kK hK0 [16] ?_
     refine pq fun K0 hK0 => ?_
     simp only [zzK, QR, QP, QQ, JC, JE, JF, zz14, zzD, QS, QN, zzF, JB, legs, grow, boL, JN, zz6, QO, ↓Qb]
     refine cgA F_go45 (fun hG => Join_ (boL k c amt ws (splitV amt wg)) (by rw [boL, hbl]; omega)) ?_
     simp only [zzK, QR, QP, QQ, JC, JE, JF, zz14, zzD, QS, QN, zzF, JB, legs, grow, boL, JN, zz6, QO, ↓Qb, atsL, oksG, JV, QZ, Qa, JO, Qm, QT, QS, zz9, QB, QA, zzC, yyF, QF, zz2]
     refine kK hK0 [12, 13] ?_
     refine JJ ?_
     simp only [zz6, QO, ↓Qb]
     rw [e1, e2]
     refine done1 69000 (by simp only [resCs, resC]; trivial) ?_ (by simp [Ja, Jb, Jc, legC]) (by simp [QY, QX, legC]) (by rfl) trivial rfl rfl ?_ (by simp [flatDs, Jc, legC])
     ·simp only [QD, QE, resA, JZ, QR, QP, JD, QQ, Qd, Qc, JP]; rfl
     ·rfl
theorem levy_ (nx : Int) (l : List LegV) (c amt : Int) (ws : List Int) (hl : l.length ≤ 400000) (hw : ws.length ≤ 400000) : ACalls Tryz.prog 12 [.agg (ledC ⟨nx, l⟩), iv c, iv amt, ints ws] [⟨75, 4, (lvV ⟨nx, l⟩ c amt ws).map legC⟩] (.tp [.ref 0 (lvV ⟨nx, l⟩ c amt ws).length, .d (iv (lvE ⟨nx, l⟩ c amt ws))]) := by
 refine acalls_S (rs := [.tmp 8, .tmp 9]) Tryz.func12 rfl rfl 33 [(0, .d (.agg (ledC ⟨nx, l⟩))), (1, .d (iv c)), (2, .d (iv amt)), (3, .d (ints ws))] rfl (by simp) rfl ?_
 refine pq fun K0 hK0 => ?_
 simp only [zzK, QR, QP, QQ, zz35, JS, zz1, zzG, zzD, zzC, QA, yyE, Qe, QS, QN, zzH, JB, ledC, legs, zz6, QO, ↓Qb]
 refine kK hK0 [1, 2, 3, 4] ?_
 refine pq fun K0 hK0 => ?_
 simp only [zzK, QR, QP, QQ, F_ok24, F_ag24, F_sz24, zz8, zz23, zzD, QS, QN, zzH, zzC, QA, yyE, Qe, JC, JE, JF, zz14, JB, ledC, legs, ints, QW, zz6, QO, ↓Qb]
 refine cgA F_go8 (fun hG => fShares_ nx l c ws hl hw) ?_
 simp only [zzK, QR, QP, QQ, F_ok24, F_ag24, F_sz24, zz8, zz23, zzD, QS, QN, zzH, zzC, QA, yyE, Qe, JC, JE, JF, zz14, JB, ledC, legs, ints, QW, zz6, QO, ↓Qb, atsL, oksG, JV, QZ, Qa, JO, Qm, QT, QS, zz9, QB, QA, S_mem, yyF, QF, zz2]
 refine kK hK0 [1, 2, 3, 4, 10, 11] ?_
 refine JA fun K0 hK0 => ?_
 refine pq fun K1 hK1 => ?_
 simp only [zzK, QR, QP, QQ, JC, zz21, JM, zz28, zz6, QO, ↓Qb]
 refine kK hK1 [1, 2, 3, 4, 10, 11, 20] ?_
 refine cnA ?_ ?_
 ·intro hb
  have he : (shE ⟨nx, l⟩ c ws != 0) = true := hb
  clear hb
  refine pq fun K2 hK2 => ?_
  simp only [zzK, QR, QP, QQ, JC, JB, zz6, QO, ↓Qb]
  refine kK hK2 [8, 9] ?_
  refine awp_le (leK id [0] (l' := [(8, .ref 0 0), (9, .d (iv (shE ⟨nx, l⟩ c ws)))]) (m' := [(0, (⟨True, 75, 4, true, true, 0, []⟩ : ARow))])) ?_
  refine JJ ?_
  simp only [zz6, QO, ↓Qb]
  rw [show lvV ⟨nx, l⟩ c amt ws = [] by simp only [lvV, he, Qd], show lvE ⟨nx, l⟩ c amt ws = shE ⟨nx, l⟩ c ws by simp only [lvE, he, Qd]]
  refine done1 0 (by simp only [resCs, resC]; trivial) ?_ (by simp [Ja, Jb, Jc, legC]) (by simp [QY, QX, legC]) (by rfl) trivial rfl rfl ?_ (by simp [flatDs, Jc, legC])
  ·simp only [QD, QE, resA, JZ, QR, QP, JD, QQ, Qd, Qc, JP]; rfl
  ·rfl
 ·intro hb
  have he : (shE ⟨nx, l⟩ c ws != 0) = false := hb
  clear hb
  have e1 : lvV ⟨nx, l⟩ c amt ws = boV 3 c amt (shN ⟨nx, l⟩ c ws) ws (shV c l ws) := by simp only [lvV, he, Qc]
  have e2 : lvE ⟨nx, l⟩ c amt ws = boE 3 c amt (shN ⟨nx, l⟩ c ws) ws (shV c l ws) := by simp only [lvE, he, Qc]
  have hw16 := sh_few he
  refine JI ?_
  simp only [zz6, QO, ↓Qb]
  refine kK hK0 [1, 2, 3, 4, 10] ?_
  refine pq fun K0 hK0 => ?_
  simp only [zzK, QR, QP, QQ, JC, F_ok24, F_ag24, F_sz24, zz8, zz23, zzD, QS, QN, zzH, zzC, QA, yyE, Qe, JE, JF, zz14, JB, ledC, legs, ints, QW, zz6, QO, ↓Qb]
  refine cgA F_go30 (fun hG => sharesF nx l c ws hl hw) ?_
  simp only [zzK, QR, QP, QQ, JC, F_ok24, F_ag24, F_sz24, zz8, zz23, zzD, QS, QN, zzH, zzC, QA, yyE, Qe, JE, JF, zz14, JB, ledC, legs, ints, QW, zz6, QO, ↓Qb, atsL, oksG, JV, QZ, Qa, JO, Qm, QT, QS, zz9, QB, QA, S_mem, yyF, QF, zz2]
  refine cgA F_go39 (fun hG => borne_ 3 c amt (shN ⟨nx, l⟩ c ws) ws (shV c l ws) (by omega) (by rw [shV_len])) ?_
  simp only [zzK, QR, QP, QQ, JC, F_ok24, F_ag24, F_sz24, zz8, zz23, zzD, QS, QN, zzH, zzC, QA, yyE, Qe, JE, JF, zz14, JB, ledC, legs, ints, QW, zz6, QO, ↓Qb, atsL, oksG, JV, QZ, Qa, JO, Qm, QT, QS, zz9, QB, QA, S_mem, yyF, QF, zz2]
  refine kK hK0 [8, 9] ?_
  refine JJ ?_
  simp only [zz6, QO, ↓Qb]
  rw [e1, e2]
  refine done1 31000 (by simp only [resCs, resC]; trivial) ?_ (by simp [Ja, Jb, Jc, legC]) (by simp [QY, QX, legC]) (by rfl) trivial rfl rfl ?_ (by simp [flatDs, Jc, legC])
  ·simp only [QD, QE, resA, JZ, QR, QP, JD, QQ, Qd, Qc, JP]; rfl
  ·rfl
theorem levyF (nx : Int) (l : List LegV) (c amt : Int) (ws : List Int) (hl : l.length ≤ 400000) (hw : ws.length ≤ 400000) : ACalls Tryz.prog 12 [.agg (ledC ⟨nx, l⟩), iv c, iv amt, ints ws] [] (.tp [.d (legs (lvV ⟨nx, l⟩ c amt ws)), .d (iv (lvE ⟨nx, l⟩ c amt ws))]) :=
 (levy_ nx l c amt ws hl hw).freezeT (by simp [frzOk, frzOkL])
theorem wakes21_ : ACalls Tryz.prog 25 [] [] (bv true) := by
 refine acalls_S (rs := [.tmp 0]) Tryz.func25 rfl rfl 46 [] rfl (by simp) rfl ?_
 have w1 := wk21
 have w2 := wk21e
 refine pq fun K0 hK0 => ?_
 simp only [zzK, QR, QP, QQ, JB, zz6, QO, ↓Qb]
 refine kK hK0 [] ?_
 refine pq fun K0 hK0 => ?_
 simp only [zzK, QR, QP, QQ, F_zero73, F_bld73, zz7, splice, Option.getD_some, QG, zz1, zzG, zzD, zzC, QA, yyE, Qe, QS, QN, zzH, zz10, F_fld73_0, F_zero86, F_bld86, F_fld86_0, F_fld86_1, F_fld73_1, F_sl22, F_sz86, zz3, JS, maxLen_le, QT, F_zero24, F_bld24, F_fld24_1, zz32, zz18, F_ok24, F_sz24, QD, QW, zz6, QO, ↓Qb]
 refine kK hK0 [1] ?_
 refine pq fun K0 hK0 => ?_
 simp only [zzK, QR, QP, QQ, F_ok24, F_ag24, F_sz24, zz8, zz23, zzD, QS, QN, zzH, zzC, QA, yyE, Qe, F_sl30, F_zero3, F_sz3, zz3, JS, zz1, zzG, maxLen_le, QT, JE, JF, JC, zz14, JB, ledC, legs, legC, ints, w1, w2, QD, QW, zz6, QO, ↓Qb]
 refine call_goE F_go12 (fun hG => levyF 0 [⟨⟨1, 0, 0⟩, -40⟩, ⟨⟨3, 1, 0⟩, 30⟩, ⟨⟨3, 2, 0⟩, 10⟩] 0 10 [1, 2, 3] (by decide) (by decide)) (by simp [QY, QX]) (by simp) ?_
 simp only [zzK, QR, QP, QQ, F_ok24, F_ag24, F_sz24, zz8, zz23, zzD, QS, QN, zzH, zzC, QA, yyE, Qe, F_sl30, F_zero3, F_sz3, zz3, JS, zz1, zzG, maxLen_le, QT, JE, JF, JC, zz14, JB, ledC, legs, legC, ints, w1, w2, QD, QW, zz6, QO, ↓Qb, asEs_cons, asEs_nil, asE_ag, asE_d, asE_ref, asEc_cons, asEc_nil, asF_d, asF_ref, asF_ag, asGs, oksF, atsL, oksG, JV, QZ, Qa, JO, Qm, QT, QS, zz9, QB, QA, S_mem, yyF, QF, zz2]
 refine kK hK0 [2, 3] ?_
 refine JA fun K0 hK0 => ?_
 refine Qz F_mixed [some 18, some 19, some 20, some 21, some 22, some 23, some 24, some 25, some 26, some 27, some 28, some 29, some 30, some 31, some 32, some 33, some 34, some 35, some 36, some 37, some 38, some 39, some 40, some 41, some 42, some 43, some 44, some 45, some 0] rfl ?_
 simp only [zzK, QR, QP, QQ, QU, JZ, zz5, Qj, Qi, Qh, JC, zz21, JM, zz34, JE, zz12, F_sl41, Option.isSome_some, zz13, JQ, JR, JW, zz23, zz24, F_sz75, QA, zzC, yyE, Qe, zz19, F_off75_1, zzH, QN, QS, F_ok3, F_ag3, F_sz3, zz8, zzD, JB, w1, w2, legs, legC, zzG, QF, List.getD_cons_zero, Int.reduceLT, Int.reduceLE, Int.reduceToNat, Int.toNat_zero, Int.toNat_one, QR, QS, QN, Int.le_refl, QW, zz6, QO, ↓Qb]
 refine ⟨fun _ => by decide, fun _ => by decide, fun _ => by decide, ?_⟩
 refine kK hK0 [0] ?_
 refine JJ ?_
 simp only [zz6, QO, ↓Qb]
 refine dnA ?_
 simp only [QD, QE, resA, JZ, QR, QP, JD, QQ, Qd, Qc, JP]
 try simp
end Go.Proofs.YtjkfadaedgidpaaGreat
