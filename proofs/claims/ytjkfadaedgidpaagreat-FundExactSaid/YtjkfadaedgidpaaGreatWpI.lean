import Derived.Test.YtjkfadaedgidpaaGreatWpB
import Derived.Test.YtjkfadaedgidpaaGreatSpecFE
namespace Go.Proofs.YtjkfadaedgidpaaGreat
open Go.RowKit
set_option linter.unusedVariables false
set_option linter.unusedSimpArgs false
open Option renaming map_some → QA, bind_some → QB
open List renaming length_append → QC, map_cons → QD, map_nil → QE, length_cons → QF, append_nil → QG, drop_zero → QH, getD_cons_zero → QI, getD_cons_succ → QJ, take_succ_cons → QK, drop_succ_cons → QL, length_singleton → QM
open Nat renaming zero_add → QN, reduceEqDiff → QO, reduceLeDiff → QP, reduceBEq → QQ, reduceLT → QR, reduceAdd → QS, reduceMul → QT, reduceSub → QU
open Int renaming toNat_natCast → QV
open D.agg renaming injEq → QW
open AV renaming idsL → QX, ids → QY, ren → QZ, renL → Qa
open _root_ renaming reduceIte → Qb, cond_false → Qc, cond_true → Qd, reduceCtorEq → Qe, of_decide_eq_false → Qf, of_decide_eq_true → Qg, imp_self → Qh, imp_and → Qi, and_imp → Qj
open IntKind renaming wrap → Ql
open ORow renaming row → Qm
open VLe renaming refl → Qn, still → Qo, nil_ → Qq
open RowLe renaming data_ → Qw
open Go.Proofs.YtjkfadaedgidpaaGreat renaming awp_plain → Qz, awp_seq → JA, evS_assign → JB, evS_move → JC, look_cons → JD, evS_call → JE, evC_value → JF, awp_block → JH, awp_skip → JI, awp_ret → JJ, awp_exit → JK, awp_loop → JL, gr_v → JM, len_map → JN, addRows → JO, resAll → JP, pickK_l → JQ, pickK_r → JR, newRow1 → JS, call_go → JT, freeN → JV, evS_indexAddr → JW, S_getD → JZ, flatA → Ja, flatAs → Jb, flatD → Jc
theorem F_off24_1 : offT Tryz.prog 24 1 = some 1 := by kernel_rfl
theorem F_ok22 : tyOk Tryz.prog 22 = true := by kernel_rfl
theorem F_ag22 : aggT Tryz.prog 22 = false := by kernel_rfl
theorem F_sz22 : szT Tryz.prog 22 = 1 := by kernel_rfl
theorem F_sl22 : sliceT Tryz.prog 22 = some 86 := by kernel_rfl
theorem F_sz86 : szT Tryz.prog 86 = 4 := by kernel_rfl
theorem F_off86_0 : offT Tryz.prog 86 0 = some 0 := by kernel_rfl
theorem F_go91 : goFn Tryz.prog 91 := ⟨_, Tryz.func91, rfl, rfl⟩
theorem F_off86_1 : offT Tryz.prog 86 1 = some 3 := by kernel_rfl
theorem F_ag102 : aggT Tryz.prog 102 = true := by kernel_rfl
theorem F_sz102 : szT Tryz.prog 102 = 2 := by kernel_rfl
theorem F_ok102 : tyOk Tryz.prog 102 = true := by kernel_rfl
theorem F_zero102 : zeroT Tryz.prog 102 = some [(.int .i64 0), (.int .u64 0)] := by kernel_rfl
theorem F_bld102 : bldT Tryz.prog 102 = true := by kernel_rfl
theorem F_fld102_0 : fldT Tryz.prog 102 0 = some (0, 1) := by kernel_rfl
theorem F_fld102_1 : fldT Tryz.prog 102 1 = some (1, 1) := by kernel_rfl
theorem F_sl100 : sliceT Tryz.prog 100 = some 102 := by kernel_rfl
theorem F_off102_1 : offT Tryz.prog 102 1 = some 1 := by kernel_rfl
theorem F_off102_0 : offT Tryz.prog 102 0 = some 0 := by kernel_rfl
theorem F_eqi102 (a0 b0 : Int) (a1 b1 : Int) (w : World) : (Op.equalIn 10000 102 (.agg #[.int .i64 a0, .int .u64 a1]) (.agg #[.int .i64 b0, .int .u64 b1])).run Tryz.prog w = .ok (veqL [.int .i64 a0, .int .u64 a1] [.int .i64 b0, .int .u64 b1]) w := by
 have u3 := Tryz.underlying3
 have g3 := Tryz.isAgg3
 have z3 := Tryz.sizeOf3
 have u94 := Tryz.underlying94
 have g94 := Tryz.isAgg94
 have z94 := Tryz.sizeOf94
 have hS : Tryz.prog.underlying 102 = some (.struct (Tryz.prog.fieldsOf 102)) := by kernel_rfl
 have hp : Tryz.prog.stoodInHeld 102 = false := by kernel_rfl
 rw [show (10000 : Nat) = 9999 + 1 from rfl, run_equalIn_agg w 9999 102 _ _ hS hp]
 simp only [Program.fieldsOf, Tryz.underlying102]
 go_simp
 by_cases h0 : a0 = b0 <;> by_cases h1 : a1 = b1 <;> simp [veqL, veq, h0, h1]
theorem F_neq102 (a0 b0 : Int) (a1 b1 : Int) (x y : Operand) : pureBin Tryz.prog .neq 102 x y (.agg #[.int .i64 a0, .int .u64 a1]) (.agg #[.int .i64 b0, .int .u64 b1]) = True := by
 have hm : Tryz.prog.eqGuardType Tryz.prog.depth 102 = false := by kernel_rfl
 simp only [pureBin, Pure, eq_iff_iff, iff_true]
 intro w
 simp only [Sem.run_bind, run_eqGuard_agg w .neq 102 x y _ _ hm, Result.andThen_ok, run_neq_struct, F_eqi102, binV]
theorem F_go67 : goFn Tryz.prog 67 := ⟨_, Tryz.func67, rfl, rfl⟩
theorem F_go62 : goFn Tryz.prog 62 := ⟨_, Tryz.func62, rfl, rfl⟩
theorem F_by102 : byT Tryz.prog 102 = 16 := by kernel_rfl
theorem F_go68 : goFn Tryz.prog 68 := ⟨_, Tryz.func68, rfl, rfl⟩
theorem F_go69 : goFn Tryz.prog 69 := ⟨_, Tryz.func69, rfl, rfl⟩
theorem F_go61 : goFn Tryz.prog 61 := ⟨_, Tryz.func61, rfl, rfl⟩
theorem F_go33 : goFn Tryz.prog 33 := ⟨_, Tryz.func33, rfl, rfl⟩
theorem F_off24_0 : offT Tryz.prog 24 0 = some 0 := by kernel_rfl
theorem F_ok86 : tyOk Tryz.prog 86 = true := by kernel_rfl
theorem F_ag86 : aggT Tryz.prog 86 = true := by kernel_rfl
theorem F_zero86 : zeroT Tryz.prog 86 = some [(.int .i64 0), (.int .i64 0), (.int .i64 0), (.int .i64 0)] := by kernel_rfl
theorem F_go63 : goFn Tryz.prog 63 := ⟨_, Tryz.func63, rfl, rfl⟩
theorem F_go64 : goFn Tryz.prog 64 := ⟨_, Tryz.func64, rfl, rfl⟩
theorem F_ok24 : tyOk Tryz.prog 24 = true := by kernel_rfl
theorem F_ag24 : aggT Tryz.prog 24 = true := by kernel_rfl
theorem F_sz24 : szT Tryz.prog 24 = 2 := by kernel_rfl
theorem F_go65 : goFn Tryz.prog 65 := ⟨_, Tryz.func65, rfl, rfl⟩
theorem F_bld73 : bldT Tryz.prog 73 = true := by kernel_rfl
theorem F_fld73_0 : fldT Tryz.prog 73 0 = some (0, 1) := by kernel_rfl
theorem F_fld73_1 : fldT Tryz.prog 73 1 = some (1, 1) := by kernel_rfl
theorem F_fld73_2 : fldT Tryz.prog 73 2 = some (2, 1) := by kernel_rfl
theorem F_sl130 : sliceT Tryz.prog 130 = some 73 := by kernel_rfl
theorem F_by73 : byT Tryz.prog 73 = 24 := by kernel_rfl
theorem F_go92 : goFn Tryz.prog 92 := ⟨_, Tryz.func92, rfl, rfl⟩
theorem F_go93 : goFn Tryz.prog 93 := ⟨_, Tryz.func93, rfl, rfl⟩
theorem rSame_ (a b : AcV) : ACalls Tryz.prog 91 [.agg (acC a), .agg (acC b)] [] (bv (acSame a b)) := by
 refine acalls_S (rs := [.tmp 4]) Tryz.func91 rfl rfl 24 [(0, .d (.agg (acC a))), (1, .d (.agg (acC b)))] rfl (by simp) rfl ?_
 refine pq fun K0 hK0 => ?_
 simp only [zzK, QR, QP, QQ, zz35, JS, zz1, zzG, zzD, zzC, QA, yyE, Qe, QS, QN, zzH, JB, acC, zz6, QO, ↓Qb]
 refine kK hK0 [2, 3] ?_
 refine JA fun K0 hK0 => ?_
 refine Qz F_mixed [some 5, some 6, some 7, some 8, some 9, some 10, some 11, some 12, some 13, some 14, some 15, some 16, some 17, some 18, some 19, some 20, some 21, some 22, some 23, some 4] rfl ?_
 simp only [zzK, QR, QP, QQ, QU, JZ, zz5, Qj, Qi, Qh, zz19, zz23, F_off73_0, zzH, QN, QS, F_ok3, F_ag3, F_sz3, zz8, zzD, zzC, QA, yyE, Qe, zz21, JM, zz34, JC, F_off73_1, zz13, JQ, JR, F_off73_2, JB, zz6, QO, ↓Qb]
 refine kK hK0 [4] ?_
 refine JJ ?_
 simp only [zz6, QO, ↓Qb]
 refine dnA ?_
 simp only [QD, QE, resA, JZ, QR, QP, JD, QQ, Qd, Qc, JP]
 try rfl
theorem rOf_ (nx : Int) (l : List LegV) (a : AcV) (hl : l.length ≤ 500000) : ACalls Tryz.prog 46 [.agg (ledC ⟨nx, l⟩), .agg (acC a)] [] (.d (iv (ofL a l))) := by
 refine acalls_S (rs := [.tmp 4]) Tryz.func46 rfl rfl 27 [(0, .d (.agg (ledC ⟨nx, l⟩))), (1, .d (.agg (acC a)))] rfl (by simp) rfl ?_
 refine pq fun K0 hK0 => ?_
 simp only [zzK, QR, QP, QQ, zz35, JS, zz1, zzG, zzD, zzC, QA, yyE, Qe, QS, QN, zzH, JB, ledC, legs, acC, zz6, QO, ↓Qb]
 refine kK hK0 [2, 3] ?_
 refine JA fun K0 hK0 => ?_
 refine pq fun K1 hK1 => ?_
 simp only [zzK, QR, QP, QQ, JB, zz6, QO, ↓Qb]
 refine kK hK1 [2, 3, 5] ?_
 refine JH ?_
 refine JL (fun m s => ∃ (pre : List LegV) (post : List LegV), (l = pre ++ post) ∧ (ofL a l = ofL a post) ∧ m = post.length ∧ s = S 27 [(2, .ptr 2 0 0), (3, .ptr 3 0 0), (5, .d (iv pre.length))] [(2, (⟨True, 24, 2, true, false, 2, [[.d (iv nx), .d (.sl 4 (l.map legC))]]⟩ : ARow)), (3, (⟨True, 73, 3, true, false, 3, [[.d (iv a.kind), .d (iv a.who), .d (iv a.cur)]]⟩ : ARow))]) (l.length) _ (leK id []) ⟨[], l, rfl, rfl, rfl, rfl⟩ ?_
 rintro m s ⟨pre, post, hsp, ho, rfl, rfl⟩
 have hspl := congrArg List.length hsp
 simp only [QC] at hspl
 refine JA fun K2 hK2 => ?_
 refine pq fun K3 hK3 => ?_
 simp only [zzK, QR, QP, QQ, JC, zz19, zz23, F_off24_1, zzH, QN, QS, F_ok22, F_ag22, F_sz22, zz8, zzD, zzC, QA, yyE, Qe, JE, zz12, F_sl22, Option.isSome_some, zz21, JM, zz22, JN, zz6, QO, ↓Qb]
 refine kK hK3 [2, 3, 5, 10] ?_
 refine cnA ?_ ?_
 ·intro hb
  obtain ⟨x, post2, rfl⟩ : ∃ x t, post = x :: t := by
   cases post with
   | nil => have := Qg hb; simp at hspl; omega
   | cons x t => exact ⟨x, t, rfl⟩
  clear hb
  simp only [QF] at hspl
  have gx : (l.map legC).getD pre.length [] = [iv x.ac.kind, iv x.ac.who, iv x.ac.cur, iv x.amt] := by
   rw [hsp, List.map_append]; exact gd_mid' (A := pre.map legC) _ _ (by simp)
  have bx := ltI (show pre.length < l.length by omega)
  have hwx : Ql .i64 ((pre.length : Int) + 1) = ((pre ++ [x]).length : Int) := by rw [wrapI (by omega) (by omega)]; simp
  refine JI ?_
  simp only [zz6, QO, ↓Qb]
  refine kK hK2 [2, 3, 5] ?_
  refine JA fun K2 hK2 => ?_
  refine JH ?_
  refine JA fun K3 hK3 => ?_
  refine awp_draw F_mixed [some 13, some 14, some 15, some 16, some 17, some 18, some 19, some 20] rfl (by kernel_rfl) ?_
  simp only [zzK, QR, QP, QQ, zz19, zz23, F_off24_1, zzH, QN, QS, F_ok22, F_ag22, F_sz22, zz8, zzD, zzC, QA, yyE, Qe, JC, JW, zz24, F_sl22, F_sz86, F_off86_0, F_ok73, F_ag73, F_sz73, JE, JF, gx, bx, hwx, JN, ge0, QV, QW, legC, acC, zz6, QO, ↓Qb]
  refine cgA F_go91 (fun hG => rSame_ x.ac a) ?_
  simp only [zzK, QR, QP, QQ, zz19, zz23, F_off24_1, zzH, QN, QS, F_ok22, F_ag22, F_sz22, zz8, zzD, zzC, QA, yyE, Qe, JC, JW, zz24, F_sl22, F_sz86, F_off86_0, F_ok73, F_ag73, F_sz73, JE, JF, gx, bx, hwx, JN, ge0, QV, QW, legC, acC, zz6, QO, ↓Qb, atsL, oksG, JV, QZ, Qa, JO, Qm, QT, QS, zz9, QB, QA, S_mem, yyF, QF, zz2]
  refine kK hK3 [2, 3, 5, 20] ?_
  refine cnA ?_ ?_
  ·intro hb
   have hs : acSame x.ac a = true := hb
   clear hb
   refine pq fun K4 hK4 => ?_
   simp only [zzK, QR, QP, QQ, zz19, zz23, F_off24_1, zzH, QN, QS, F_ok22, F_ag22, F_sz22, zz8, zzD, zzC, QA, yyE, Qe, JC, JW, zz24, F_sl22, F_sz86, F_off86_1, F_ok3, F_ag3, F_sz3, JB, gx, bx, hwx, JN, ge0, QV, QW, legC, zz6, QO, ↓Qb]
   refine kK hK4 [4] ?_
   refine JJ ?_
   simp only [zz6, QO, ↓Qb]
   refine dnA ?_
   simp only [QD, QE, resA, JZ, QR, QP, JD, QQ, Qd, Qc, JP]
   rw [ho, ofL, hs]; rfl
  ·intro hb
   have hs : acSame x.ac a = false := hb
   clear hb
   refine JI ?_
   simp only [zz6, QO, ↓Qb]
   refine kK hK2 [2, 3, 5] ?_
   refine pz ?_
   simp only [zzK, QR, QP, QQ, JC, zz21, JM, zz26, JB, hwx, zz6, QO, ↓Qb]
   refine ⟨post2.length, _, by simp, leK id [], (pre ++ [x]), post2, by simp [hsp], by rw [ho, ofL, hs]; rfl, rfl, rfl⟩
 ·intro hb
  obtain rfl : post = [] := by
   cases post with
   | nil => rfl
   | cons x t => have := Qf hb; simp at hspl; omega
  clear hb
  simp only [QG] at hsp
  subst hsp
  refine JK ?_
  simp only [zz6, QO, ↓Qb]
  refine kK hK0 [] ?_
  refine pq fun K0 hK0 => ?_
  simp only [zzK, QR, QP, QQ, JB, zz6, QO, ↓Qb]
  refine kK hK0 [4] ?_
  refine JJ ?_
  simp only [zz6, QO, ↓Qb]
  refine dnA ?_
  simp only [QD, QE, resA, JZ, QR, QP, JD, QQ, Qd, Qc, JP]
  rw [ho]; rfl
theorem rRight_ (n : Int) : ACalls Tryz.prog 62 [iv n] [] (bv (rightN n)) := by
 refine acalls_S (rs := [.tmp 2]) Tryz.func62 rfl rfl 9 [(0, .d (iv n))] rfl (by simp) rfl ?_
 refine pq fun K0 hK0 => ?_
 simp only [zzK, QR, QP, QQ, JB, zz6, QO, ↓Qb]
 refine kK hK0 [0] ?_
 refine JA fun K0 hK0 => ?_
 refine Qz F_mixed [some 3, some 4, some 5, some 6, some 7, some 8, some 2] rfl ?_
 simp only [zzK, QR, QP, QQ, QU, JZ, zz5, Qj, Qi, Qh, and_self, JC, zz21, JM, zz31, b_leq, pure_leq, zz13, JQ, JR, JB, zz6, QO, ↓Qb]
 refine kK hK0 [2] ?_
 refine JJ ?_
 simp only [zz6, QO, ↓Qb]
 refine dnA ?_
 simp only [QD, QE, resA, JZ, QR, QP, JD, QQ, Qd, Qc, JP]
 have h : (decide (n ≥ -4611686018427387904) && decide (n ≤ 4611686018427387904)) = rightN n := by
  rw [Bool.eq_iff_iff]; simp [rightN]
 rw [h]
theorem rAcRight_ (a : AcV) : ACalls Tryz.prog 61 [.agg (acC a)] [] (bv (acOk a)) := by
 refine acalls_S (rs := [.tmp 2]) Tryz.func61 rfl rfl 40 [(0, .d (.agg (acC a)))] rfl (by simp) rfl ?_
 refine pq fun K0 hK0 => ?_
 simp only [zzK, QR, QP, QQ, zz35, JS, zz1, zzG, zzD, zzC, QA, yyE, Qe, QS, QN, zzH, JB, acC, zz6, QO, ↓Qb]
 refine kK hK0 [1] ?_
 refine JA fun K0 hK0 => ?_
 refine JA fun K1 hK1 => ?_
 refine Qz F_mixed [some 3, some 4, some 5, some 6, some 7, some 8, some 9, some 10, some 11, some 12, some 13, some 14, some 15, some 16, some 17, some 18, some 19, some 20] rfl ?_
 simp only [zzK, QR, QP, QQ, QU, JZ, zz5, Qj, Qi, Qh, zz19, zz23, F_off73_2, zzH, QN, QS, F_ok3, F_ag3, F_sz3, zz8, zzD, zzC, QA, yyE, Qe, zz21, JM, zz22, JC, zz31, zz13, JQ, JR, F_off73_0, zz25, zz6, QO, ↓Qb]
 refine kK hK1 [1, 20] ?_
 refine cnA ?_ ?_
 ·intro hb
  have e : acBad a = true := by rw [acBad_ref]; exact hb
  clear hb
  refine pq fun K2 hK2 => ?_
  simp only [zzK, QR, QP, QQ, JB, zz6, QO, ↓Qb]
  refine kK hK2 [2] ?_
  refine JJ ?_
  simp only [zz6, QO, ↓Qb]
  refine dnA ?_
  simp only [QD, QE, resA, JZ, QR, QP, JD, QQ, Qd, Qc, JP]
  rw [acOk, e]; rfl
 ·intro hb
  have e : acBad a = false := by rw [acBad_ref]; exact hb
  clear hb
  refine JI ?_
  simp only [zz6, QO, ↓Qb]
  refine kK hK0 [1] ?_
  refine JA fun K0 hK0 => ?_
  refine JA fun K1 hK1 => ?_
  refine Qz F_mixed [some 21, some 22, some 23, some 24, some 25, some 26, some 27, some 28] rfl ?_
  simp only [zzK, QR, QP, QQ, QU, JZ, zz5, Qj, Qi, Qh, zz19, zz23, F_off73_0, zzH, QN, QS, F_ok3, F_ag3, F_sz3, zz8, zzD, zzC, QA, yyE, Qe, zz21, JM, zz34, JC, zz13, JQ, JR, zz6, QO, ↓Qb]
  refine kK hK1 [1, 28] ?_
  refine cnA ?_ ?_
  ·intro hb
   have e2 : acOwn a.kind = true := hb
   clear hb
   refine JA fun K2 hK2 => ?_
   refine Qz F_mixed [some 29, some 30, some 31, some 32, some 33, some 34, some 35, some 36, some 2] rfl ?_
   simp only [zzK, QR, QP, QQ, QU, JZ, zz5, Qj, Qi, Qh, zz19, zz23, F_off73_1, zzH, QN, QS, F_ok3, F_ag3, F_sz3, zz8, zzD, zzC, QA, yyE, Qe, zz21, JM, zz31, JC, b_leq, pure_leq, zz13, JQ, JR, JB, zz6, QO, ↓Qb]
   refine kK hK2 [2] ?_
   refine JJ ?_
   simp only [zz6, QO, ↓Qb]
   refine dnA ?_
   simp only [QD, QE, resA, JZ, QR, QP, JD, QQ, Qd, Qc, JP]
   rw [acOk, e, e2]; cases decide (a.who ≥ 1) <;> rfl
  ·intro hb
   have e2 : acOwn a.kind = false := hb
   clear hb
   refine JI ?_
   simp only [zz6, QO, ↓Qb]
   refine kK hK0 [1] ?_
   refine pq fun K0 hK0 => ?_
   simp only [zzK, QR, QP, QQ, zz19, zz23, F_off73_1, zzH, QN, QS, F_ok3, F_ag3, F_sz3, zz8, zzD, zzC, QA, yyE, Qe, zz21, JM, zz34, JB, zz6, QO, ↓Qb]
   refine kK hK0 [2] ?_
   refine JJ ?_
   simp only [zz6, QO, ↓Qb]
   refine dnA ?_
   simp only [QD, QE, resA, JZ, QR, QP, JD, QQ, Qd, Qc, JP]
   rw [acOk, e, e2]; rfl
theorem Of_ (n : Int) (h0 : -9223372036854775808 ≤ n) (h1 : n < 9223372036854775808) : ACalls Tryz.prog 67 [iv n] [] (wideA n) := by
 refine acalls_S (rs := [.cell 2 102]) Tryz.func67 rfl rfl 11 [(0, .d (iv n))] rfl (by simp) rfl ?_
 refine pq fun K0 hK0 => ?_
 simp only [zzK, QR, QP, QQ, zz32, JS, F_zero102, zzC, QA, yyE, Qe, zzD, QS, QN, zzH, zz10, zz6, QO, ↓Qb]
 refine kK hK0 [0, 2] ?_
 refine JA fun K0 hK0 => ?_
 refine pq fun K1 hK1 => ?_
 simp only [zzK, QR, QP, QQ, JC, zz21, JM, zz22, zz6, QO, ↓Qb]
 refine kK hK1 [0, 2, 4] ?_
 refine cnA ?_ ?_
 ·intro hb
  simp only [decide_eq_true_eq] at hb
  refine pq fun K2 hK2 => ?_
  simp only [zzK, QR, QP, QQ, JC, zz27, JM, F_cv3_94, F_cvV94, F_zero102, F_bld102, zz7, splice, Option.getD_some, QG, zz1, zzG, zzD, zzC, QA, yyE, Qe, QS, QN, zzH, zz10, F_fld102_0, F_fld102_1, zz18, F_ok102, F_sz102, zz6, QO, ↓Qb]
  refine kK hK2 [2] ?_
  refine JJ ?_
  simp only [zz6, QO, ↓Qb]
  refine done0 (by simp [resCs, resC, S, List.getD, JD, lookR, F_ag102, F_sz102, F_ok102]) ?_ (by simp [Ja, Jb, Jc, wideA]) (by simp [QY, QX, wideA])
  simp only [QD, QE, resA, JZ, S_mem, lookR_cons, lookR_nil, QR, QP, JD, QQ, Qd, Qc, JP, QI, QJ, QH, QL, QK, List.take_zero, F_ag102, F_sz102, F_ok102]
  rw [wide_neg h0 hb]
 ·intro hb
  simp only [decide_eq_false_iff_not, Int.not_lt] at hb
  refine JI ?_
  simp only [zz6, QO, ↓Qb]
  refine kK hK0 [0, 2] ?_
  refine pq fun K0 hK0 => ?_
  simp only [zzK, QR, QP, QQ, JC, zz27, JM, F_cv3_94, F_cvV94, F_zero102, F_bld102, zz7, splice, Option.getD_some, QG, zz1, zzG, zzD, zzC, QA, yyE, Qe, QS, QN, zzH, zz10, F_fld102_1, zz18, F_ok102, F_sz102, zz6, QO, ↓Qb]
  refine kK hK0 [2] ?_
  refine JJ ?_
  simp only [zz6, QO, ↓Qb]
  refine done0 (by simp [resCs, resC, S, List.getD, JD, lookR, F_ag102, F_sz102, F_ok102]) ?_ (by simp [Ja, Jb, Jc, wideA]) (by simp [QY, QX, wideA])
  simp only [QD, QE, resA, JZ, S_mem, lookR_cons, lookR_nil, QR, QP, JD, QQ, Qd, Qc, JP, QI, QJ, QH, QL, QK, List.take_zero, F_ag102, F_sz102, F_ok102]
  rw [wide_pos h1 hb]
set_option maxRecDepth 100000 in
set_option maxHeartbeats 4000000 in
theorem WSum_ (l : List Int) (hl : l.length ≤ 1000000) (hall : ∀ x ∈ l, -170141183460469231731687303715884105728 ≤ x ∧ x < 170141183460469231731687303715884105728) : ACalls Tryz.prog 68 [wides l] [] (.tp [wideA (bif fitsW l.sum then l.sum else 0), bv (fitsW l.sum)]) := by
 refine acalls_S (rs := [.cell 2 102, .tmp 3]) Tryz.func68 rfl rfl 75 [(0, .d (wides l))] rfl (by simp) rfl ?_
 refine pq fun K0 hK0 => ?_
 simp only [zzK, QR, QP, QQ, zz32, JS, F_zero102, zzC, QA, yyE, Qe, zzD, QS, QN, zzH, zz10, JB, zz6, QO, ↓Qb]
 refine kK hK0 [0, 2] ?_
 refine pq fun K0 hK0 => ?_
 simp only [zzK, QR, QP, QQ, JB, zz6, QO, ↓Qb]
 refine kK hK0 [0, 2, 4] ?_
 refine pq fun K0 hK0 => ?_
 simp only [zzK, QR, QP, QQ, JB, zz6, QO, ↓Qb]
 refine kK hK0 [0, 2, 4, 5, 6] ?_
 refine JA fun K0 hK0 => ?_
 refine pq fun K1 hK1 => ?_
 simp only [zzK, QR, QP, QQ, JB, zz6, QO, ↓Qb]
 refine kK hK1 [0, 2, 4, 5, 6, 7] ?_
 refine JH ?_
 refine JL (fun m s => ∃ pre post : List Int, l = pre ++ post ∧ m = post.length ∧ s = S 75 [(0, .d (wides l)), (2, .ptr 2 0 0), (4, .d (iv (topN pre.sum))), (5, .d (.v (.int .u64 (hiN pre.sum)))), (6, .d (.v (.int .u64 (loN pre.sum)))), (7, .d (iv pre.length))] [(2, (⟨True, 102, 2, true, false, 2, [[.d (.v (.int .i64 0)), .d (.v (.int .u64 0))]]⟩ : ARow))]) l.length _ (leK id [] (hl := by simp only [leV, JD, QQ, Qd, Qc, List.sum_nil]; exact ⟨Qn _, Qn _, Qn _, Qn _, Qn _, Qn _, trivial⟩) (hr := by exact ⟨fun _ => ⟨_, rfl, ⟨id, rfl, rfl, fun _ => rfl, id, .inl, VLess.refl _⟩⟩, (by simp), trivial⟩)) ⟨[], l, rfl, rfl, rfl⟩ ?_
 rintro m s ⟨pre, post, rfl, rfl, rfl⟩
 refine JA fun K2 hK2 => ?_
 refine pq fun K3 hK3 => ?_
 simp only [zzK, QR, QP, QQ, JC, JE, zz12, F_sl100, Option.isSome_some, zz21, JM, zz22, wides, JN, zz6, QO, ↓Qb]
 refine kK hK3 [0, 2, 4, 5, 6, 7, 16] ?_
 refine cnA ?_ ?_
 ·intro hb
  obtain ⟨x, post, rfl⟩ := more_of hb; clear hb
  have hx := hall x (by simp)
  have hs := wsum_bound (l := pre) (fun y hy => hall y (by simp [hy])) (by simp at hl; omega)
  refine JI ?_
  simp only [zz6, QO, ↓Qb]
  refine kK hK2 [0, 2, 4, 5, 6, 7] ?_
  refine JA fun K2 hK2 => ?_
  refine JH ?_
  refine pq fun K3 hK3 => ?_
  simp only [zzK, QR, QP, QQ, JC, JW, zz23, zz24, F_sl100, F_sz102, QA, zzC, yyE, Qe, zz19, F_off102_1, zzH, QN, QS, F_ok94, F_ag94, F_sz94, zz8, zzD, JE, JF, zz14, JB, wides, wideC, getD_mid, JN, lt_mid, ge_mid, zz6, QO, ↓Qb]
  refine call_ext _ _ (add64 (loN pre.sum) (x % 18446744073709551616) 0 (lo_nn _) (by omega) (by decide) (by decide)) ?_
  simp only [zzK, QR, QP, QQ, JC, JW, zz23, zz24, F_sl100, F_sz102, QA, zzC, yyE, Qe, zz19, F_off102_1, zzH, QN, QS, F_ok94, F_ag94, F_sz94, zz8, zzD, JE, JF, zz14, JB, wides, wideC, getD_mid, JN, lt_mid, ge_mid, zz6, QO, ↓Qb, grsL, JM, QB, QA, oksL, ofV_pair, ofV_int, ofV_bool]
  refine kK hK3 [0, 2, 4, 5, 7, 8, 9] ?_
  refine pq fun K3 hK3 => ?_
  simp only [zzK, QR, QP, QQ, JC, JW, zz23, zz24, F_sl100, F_sz102, QA, zzC, yyE, Qe, zz19, F_off102_0, zzH, QN, QS, F_ok3, F_ag3, F_sz3, zz8, zzD, zz27, JM, F_cv3_94, F_cvV94, JE, JF, zz14, JB, wides, wideC, getD_mid, JN, lt_mid, ge_mid, zz6, QO, ↓Qb]
  refine call_ext _ _ (add64 (hiN pre.sum) (Ql .u64 (x / 18446744073709551616)) ((loN pre.sum + x % 18446744073709551616 + 0) / 18446744073709551616) (hi_nn _) (wu_nn _) (wcarry0 _ _) (wcarry1 _ _)) ?_
  simp only [zzK, QR, QP, QQ, JC, JW, zz23, zz24, F_sl100, F_sz102, QA, zzC, yyE, Qe, zz19, F_off102_0, zzH, QN, QS, F_ok3, F_ag3, F_sz3, zz8, zzD, zz27, JM, F_cv3_94, F_cvV94, JE, JF, zz14, JB, wides, wideC, getD_mid, JN, lt_mid, ge_mid, zz6, QO, ↓Qb, grsL, JM, QB, QA, oksL, ofV_pair, ofV_int, ofV_bool]
  refine kK hK3 [0, 2, 4, 7, 8, 10, 11] ?_
  refine pq fun K3 hK3 => ?_
  simp only [zzK, QR, QP, QQ, JC, JB, zz6, QO, ↓Qb]
  refine kK hK3 [0, 2, 4, 5, 6, 7, 11] ?_
  refine pq fun K3 hK3 => ?_
  simp only [zzK, QR, QP, QQ, JC, zz27, JM, F_cv94_3, F_cvV3, zz21, zz26, JB, zz6, QO, ↓Qb]
  refine kK hK3 [0, 2, 4, 5, 6, 7] ?_
  refine pq fun K3 hK3 => ?_
  simp only [zzK, QR, QP, QQ, JC, JW, zz23, zz24, F_sl100, F_sz102, QA, zzC, yyE, Qe, zz19, F_off102_0, zzH, QN, QS, F_ok3, F_ag3, F_sz3, zz8, zzD, zz21, JM, zz22, wides, wideC, getD_mid, JN, lt_mid, ge_mid, zz6, QO, ↓Qb]
  refine kK hK3 [0, 2, 4, 5, 6, 7, 52] ?_
  refine cnA ?_ ?_
  ·intro hb
   refine pz ?_
   simp only [zzK, QR, QP, QQ, JC, zz21, JM, zz33, JB, zz6, QO, ↓Qb]
   refine kK hK2 [0, 2, 4, 5, 6, 7] ?_
   refine pz ?_
   simp only [zzK, QR, QP, QQ, JC, zz21, JM, zz26, JB, zz6, QO, ↓Qb]
   refine ⟨post.length, _, by simp, le_SK id [] rfl (l' := [(0, .d (wides (pre ++ x :: post))), (2, .ptr 2 0 0), (4, .d (iv (topN (pre ++ [x]).sum))), (5, .d (.v (.int .u64 (hiN (pre ++ [x]).sum)))), (6, .d (.v (.int .u64 (loN (pre ++ [x]).sum)))), (7, .d (iv (pre ++ [x]).length))]) (m' := [(2, (⟨True, 102, 2, true, false, 2, [[.d (.v (.int .i64 0)), .d (.v (.int .u64 0))]]⟩ : ARow))]) ?_ ?_ ?_ ?_, pre ++ [x], post, by simp, rfl, rfl⟩
   ·simp only [leV, JD, QQ, Qd, Qc, wides, wrap_len pre x (by simp at hl; omega), sum_snoc]
    refine ⟨Qn _, Qn _, ?_, ?_, ?_, Qn _, trivial⟩
    ·(first | rw [wsum_topA hs.1 hs.2 hx.1 hx.2 hb] | rw [wsum_topB hs.1 hs.2 hx.1 hx.2 hb]); exact Qn _
    ·rw [wsum_hi]; exact Qn _
    ·rw [wsum_lo]; exact Qn _
   ·exact ⟨fun _ => ⟨_, rfl, ⟨id, rfl, rfl, fun _ => rfl, id, .inl, VLess.refl _⟩⟩, (by simp), trivial⟩
   ·simp [wfV, QY, lookR]
   ·simp [wfR, QX, QY]
  ·intro hb
   refine JI ?_
   simp only [zz6, QO, ↓Qb]
   refine kK hK2 [0, 2, 4, 5, 6, 7] ?_
   refine pz ?_
   simp only [zzK, QR, QP, QQ, JC, zz21, JM, zz26, JB, zz6, QO, ↓Qb]
   refine ⟨post.length, _, by simp, le_SK id [] rfl (l' := [(0, .d (wides (pre ++ x :: post))), (2, .ptr 2 0 0), (4, .d (iv (topN (pre ++ [x]).sum))), (5, .d (.v (.int .u64 (hiN (pre ++ [x]).sum)))), (6, .d (.v (.int .u64 (loN (pre ++ [x]).sum)))), (7, .d (iv (pre ++ [x]).length))]) (m' := [(2, (⟨True, 102, 2, true, false, 2, [[.d (.v (.int .i64 0)), .d (.v (.int .u64 0))]]⟩ : ARow))]) ?_ ?_ ?_ ?_, pre ++ [x], post, by simp, rfl, rfl⟩
   ·simp only [leV, JD, QQ, Qd, Qc, wides, wrap_len pre x (by simp at hl; omega), sum_snoc]
    refine ⟨Qn _, Qn _, ?_, ?_, ?_, Qn _, trivial⟩
    ·(first | rw [wsum_topA hs.1 hs.2 hx.1 hx.2 hb] | rw [wsum_topB hs.1 hs.2 hx.1 hx.2 hb]); exact Qn _
    ·rw [wsum_hi]; exact Qn _
    ·rw [wsum_lo]; exact Qn _
   ·exact ⟨fun _ => ⟨_, rfl, ⟨id, rfl, rfl, fun _ => rfl, id, .inl, VLess.refl _⟩⟩, (by simp), trivial⟩
   ·simp [wfV, QY, lookR]
   ·simp [wfR, QX, QY]
 ·intro hb
  obtain rfl := none_of hb; clear hb
  simp only [QG] at hl hall ⊢
  refine JK ?_
  simp only [zz6, QO, ↓Qb]
  refine kK hK0 [2, 4, 5, 6] ?_
  refine pq fun K0 hK0 => ?_
  simp only [zzK, QR, QP, QQ, JC, zz27, JM, F_cv94_3, F_cvV3, JB, zz6, QO, ↓Qb]
  refine kK hK0 [2, 4, 6, 12] ?_
  refine JA fun K0 hK0 => ?_
  refine JA fun K1 hK1 => ?_
  refine Qz F_mixed [some 57, some 58, some 59, some 60, some 61, some 62, some 63, some 64, some 65, some 66, some 67, some 68, some 69, some 70] rfl ?_
  simp only [zzK, QR, QP, QQ, QU, JZ, zz5, Qj, Qi, Qh, and_self, JC, zz21, JM, zz34, zz31, zz13, JQ, JR, zz22, zz6, QO, ↓Qb]
  refine kK hK1 [2, 6, 12, 70] ?_
  refine cnA ?_ ?_
  ·intro hb
   rw [fits_law] at hb
   refine pq fun K2 hK2 => ?_
   simp only [zzK, QR, QP, QQ, JC, F_zero102, F_bld102, zz7, splice, Option.getD_some, QG, zz1, zzG, zzD, zzC, QA, yyE, Qe, QS, QN, zzH, zz10, F_fld102_0, F_fld102_1, zz18, F_ok102, F_sz102, JB, zz6, QO, ↓Qb]
   refine kK hK2 [2, 3] ?_
   refine JJ ?_
   simp only [zz6, QO, ↓Qb]
   refine done0 (by simp [resCs, resC, S, List.getD, JD, lookR, F_ag102, F_sz102, F_ok102]) ?_ (by simp [Ja, Jb, Jc, wideA]) (by simp [QY, QX, wideA])
   simp only [QD, QE, resA, JZ, S_mem, lookR_cons, lookR_nil, QR, QP, JD, QQ, Qd, Qc, JP, QI, QJ, QH, QL, QK, List.take_zero, F_ag102, F_sz102, F_ok102]
   simp only [QG, hb, wide_fit hb, Qd]
  ·intro hb
   rw [fits_law] at hb
   refine JI ?_
   simp only [zz6, QO, ↓Qb]
   refine kK hK0 [2] ?_
   refine pq fun K0 hK0 => ?_
   simp only [zzK, QR, QP, QQ, F_zero102, F_bld102, zz7, splice, Option.getD_some, QG, zz1, zzG, zzD, zzC, QA, yyE, Qe, QS, QN, zzH, zz10, zz18, F_ok102, F_sz102, JB, zz6, QO, ↓Qb]
   refine kK hK0 [2, 3] ?_
   refine JJ ?_
   simp only [zz6, QO, ↓Qb]
   refine done0 (by simp [resCs, resC, S, List.getD, JD, lookR, F_ag102, F_sz102, F_ok102]) ?_ (by simp [Ja, Jb, Jc, wideA]) (by simp [QY, QX, wideA])
   simp only [QD, QE, resA, JZ, S_mem, lookR_cons, lookR_nil, QR, QP, JD, QQ, Qd, Qc, JP, QI, QJ, QH, QL, QK, List.take_zero, F_ag102, F_sz102, F_ok102]
   simp only [QG, hb, Qc]; rfl
theorem Int_ (t : Int) : ACalls Tryz.prog 69 [.agg (wideC t)] [] (.tp [.d (iv (bif rightN t then t else 0)), bv (rightN t)]) := by
 refine acalls_S (rs := [.tmp 2, .tmp 3]) Tryz.func69 rfl rfl 18 [(0, .d (.agg (wideC t)))] rfl (by simp) rfl ?_
 refine pq fun K0 hK0 => ?_
 simp only [zzK, QR, QP, QQ, zz35, JS, zz1, zzG, zzD, zzC, QA, yyE, Qe, QS, QN, zzH, JB, wideC, zz6, QO, ↓Qb]
 refine kK hK0 [1] ?_
 refine pq fun K0 hK0 => ?_
 simp only [zzK, QR, QP, QQ, zz19, zz23, F_off102_1, zzH, QN, QS, F_ok94, F_ag94, F_sz94, zz8, zzD, zzC, QA, yyE, Qe, zz27, JM, F_cv94_3, F_cvV3, JB, zz6, QO, ↓Qb]
 refine kK hK0 [1, 4] ?_
 refine JA fun K0 hK0 => ?_
 refine JA fun K1 hK1 => ?_
 refine awp_draw F_mixed [some 8, some 9, some 10, some 11, some 12, some 13, some 14, some 15, some 16] rfl (by kernel_rfl) ?_
 simp only [zzK, QR, QP, QQ, QU, JZ, zz5, Qj, Qi, Qh, JC, JE, JF, F_ok102, F_ag102, F_sz102, zz8, zz23, zzD, QS, QN, zzH, zzC, QA, yyE, Qe, zz21, JM, gr_ag, gr_agg, grL_cons, grL_nil, grD_cons, grD_nil, b_eqla, b_neqa, F_neq102, zz29, zz30, zz13, JQ, JR, wideA, wideC, zz6, QO, ↓Qb]
 refine JT F_go67 (fun hG => Of_ (Ql .i64 (t % 18446744073709551616)) (wI0 _) (wI1 _)) (by simp [QY, QX, wideA, wideC]) (by simp) ?_
 simp only [zzK, QR, QP, QQ, QU, JZ, zz5, Qj, Qi, Qh, JC, JE, JF, F_ok102, F_ag102, F_sz102, zz8, zz23, zzD, QS, QN, zzH, zzC, QA, yyE, Qe, zz21, JM, gr_ag, gr_agg, grL_cons, grL_nil, grD_cons, grD_nil, b_eqla, b_neqa, F_neq102, zz29, zz30, zz13, JQ, JR, wideA, wideC, zz6, QO, ↓Qb, atsL, oksG, JV, QZ, Qa, JO, Qm, QT, QS, zz9, QB, QA, S_mem, yyF, QF, zz2]
 refine JT F_go62 (fun hG => rRight_ (Ql .i64 (t % 18446744073709551616))) (by simp [QY, QX, wideA, wideC]) (by simp) ?_
 simp only [zzK, QR, QP, QQ, QU, JZ, zz5, Qj, Qi, Qh, JC, JE, JF, F_ok102, F_ag102, F_sz102, zz8, zz23, zzD, QS, QN, zzH, zzC, QA, yyE, Qe, zz21, JM, gr_ag, gr_agg, grL_cons, grL_nil, grD_cons, grD_nil, b_eqla, b_neqa, F_neq102, zz29, zz30, zz13, JQ, JR, wideA, wideC, zz6, QO, ↓Qb, atsL, oksG, JV, QZ, Qa, JO, Qm, QT, QS, zz9, QB, QA, S_mem, yyF, QF, zz2]
 refine kK hK1 [4, 16] ?_
 refine cnA ?_ ?_
 ·intro hb
  rw [int_law] at hb
  simp only [Bool.not_eq_true'] at hb
  refine pq fun K2 hK2 => ?_
  simp only [zzK, QR, QP, QQ, JB, zz6, QO, ↓Qb]
  refine kK hK2 [2, 3] ?_
  refine JJ ?_
  simp only [zz6, QO, ↓Qb]
  refine dnA ?_
  simp only [QD, QE, resA, JZ, QR, QP, JD, QQ, Qd, Qc, JP]
  simp only [hb, Qc]
 ·intro hb
  rw [int_law] at hb
  simp only [Bool.not_eq_false'] at hb
  refine JI ?_
  simp only [zz6, QO, ↓Qb]
  refine kK hK0 [4] ?_
  refine pq fun K0 hK0 => ?_
  simp only [zzK, QR, QP, QQ, JC, JB, zz6, QO, ↓Qb]
  refine kK hK0 [2, 3] ?_
  refine JJ ?_
  simp only [zz6, QO, ↓Qb]
  refine dnA ?_
  simp only [QD, QE, resA, JZ, QR, QP, JD, QQ, Qd, Qc, JP]
  simp only [hb, Qd, int_val hb]
theorem Add_ (l : List Int) (hl : l.length ≤ 1000000) (hall : ∀ x ∈ l, -9223372036854775808 ≤ x ∧ x < 9223372036854775808) : ACalls Tryz.prog 33 [ints l] [] (.tp [.d (iv (bif rightN l.sum then l.sum else 0)), bv (rightN l.sum)]) := by
 refine acalls_S (rs := [.tmp 2, .tmp 3]) Tryz.func33 rfl rfl 33 [(0, .d (ints l))] rfl (by simp) rfl ?_
 refine pq fun K0 hK0 => ?_
 simp only [zzK, QR, QP, QQ, JB, zz6, QO, ↓Qb]
 refine kK hK0 [0] ?_
 refine pq fun K0 hK0 => ?_
 simp only [zzK, QR, QP, QQ, JB, zz6, QO, ↓Qb]
 refine kK hK0 [0, 4] ?_
 refine JA fun K0 hK0 => ?_
 refine pq fun K1 hK1 => ?_
 simp only [zzK, QR, QP, QQ, JB, zz6, QO, ↓Qb]
 refine kK hK1 [0, 4, 5] ?_
 refine JH ?_
 refine JL (fun m s => ∃ pre post : List Int, l = pre ++ post ∧ m = post.length ∧ s = S 33 [(0, .d (ints l)), (4, .ref 4 pre.length), (5, .d (iv pre.length))] [(4, grow 102 2 4 (pre.map wideC))]) l.length _ (leK id [4] (hl := by simp only [leV, JD, QQ, Qd, Qc]; exact ⟨VLe.data_ _, Qq (by decide), VLe.data_ _, trivial⟩) (hr := by simp [leR, grow])) ⟨[], l, rfl, rfl, rfl⟩ ?_
 rintro m s ⟨pre, post, rfl, rfl, rfl⟩
 refine JA fun K2 hK2 => ?_
 refine pq fun K3 hK3 => ?_
 simp only [zzK, QR, QP, QQ, JC, JE, zz12, F_sl30, Option.isSome_some, zz21, JM, zz22, ints, JN, zz6, QO, ↓Qb]
 refine kK hK3 [0, 4, 5, 11] ?_
 refine cnA ?_ ?_
 ·intro hb
  obtain ⟨x, post, rfl⟩ := more_of hb; clear hb
  have hx := hall x (by simp)
  refine JI ?_
  simp only [zz6, QO, ↓Qb]
  refine kK hK2 [0, 4, 5] ?_
  refine JA fun K2 hK2 => ?_
  refine JH ?_
  refine pz ?_
  simp only [zzK, QR, QP, QQ, JC, JW, zz23, zz24, F_sl30, F_sz3, QA, zzC, yyE, Qe, F_ok3, F_ag3, zz8, zzD, QS, QN, zzH, JE, JF, F_sl100, F_zero102, F_sz102, zz3, JS, zz1, zzG, maxLen_le, QT, F_by102, zz4, zz9, QB, JB, ints, grow, wideA, wideC, getD_mid, JN, lt_mid, ge_mid, zz6, QO, ↓Qb]
  refine JT F_go67 (fun hG => Of_ x hx.1 hx.2) (by simp [QY, QX, wideA, wideC]) (by simp) ?_
  simp only [zzK, QR, QP, QQ, JC, JW, zz23, zz24, F_sl30, F_sz3, QA, zzC, yyE, Qe, F_ok3, F_ag3, zz8, zzD, QS, QN, zzH, JE, JF, F_sl100, F_zero102, F_sz102, zz3, JS, zz1, zzG, maxLen_le, QT, F_by102, zz4, zz9, QB, JB, ints, grow, wideA, wideC, getD_mid, JN, lt_mid, ge_mid, zz6, QO, ↓Qb, atsL, oksG, JV, QZ, Qa, JO, Qm, QT, QS, unDs_cons, QB, QA, S_mem, yyF, QF, zz2]
  have hm : pre.length + 1 ≤ 1000000 := by simp at hl; omega
  refine ⟨by rw [maxLen_le _ hm]; trivial, by omega, ?_⟩
  clear hm
  refine kK hK2 [0, 4, 5] ?_
  refine pz ?_
  simp only [zzK, QR, QP, QQ, JC, zz21, JM, zz26, JB, zz6, QO, ↓Qb]
  refine ⟨post.length, _, by simp, le_SK (fun _ => 21) [] rfl (l' := [(0, .d (ints (pre ++ x :: post))), (4, .ref 4 (pre ++ [x]).length), (5, .d (iv (pre ++ [x]).length))]) (m' := [(4, grow 102 2 4 ((pre ++ [x]).map wideC))]) ?_ ?_ ?_ ?_, pre ++ [x], post, by simp, rfl, rfl⟩
  ·simp only [leV, JD, QQ, Qd, Qc, ints, wrap_len pre x (by simp at hl; omega)]
   refine ⟨VLe.data_ _, ?_, VLe.data_ _, trivial⟩
   rw [show pre.length + 1 = (pre ++ [x]).length from by simp]; exact VLe.ref_ (f := fun _ => 21) (r := 4) (by simp)
  ·refine ⟨fun _ => ⟨_, rfl, Qw (by simp [wideC])⟩, (by simp), trivial⟩
  ·simp [wfV, QY, lookR, grow]
  ·exact ⟨wf_data _ _, trivial⟩
 ·intro hb
  obtain rfl := none_of hb; clear hb
  simp only [QG] at hl hall ⊢
  have hfit := fits_small hall hl
  refine JK ?_
  simp only [zz6, QO, ↓Qb]
  refine kK hK0 [4] ?_
  refine pq fun K0 hK0 => ?_
  simp only [zzK, QR, QP, QQ, JC, JE, JF, zz14, zzD, QS, QN, zz32, JS, F_zero102, zzC, QA, yyE, Qe, zzH, zz10, zz18, F_ok102, F_sz102, splice, QG, zz1, zzG, JB, wides, wideA, JN, grow, zz6, QO, ↓Qb]
  refine JT F_go68 (fun hG => WSum_ pre hl (fun x hx => ⟨by have := (hall x hx).1; omega, by have := (hall x hx).2; omega⟩)) (by simp [QY, QX, wideA]) (by simp) ?_
  simp only [zzK, QR, QP, QQ, JC, JE, JF, zz14, zzD, QS, QN, zz32, JS, F_zero102, zzC, QA, yyE, Qe, zzH, zz10, zz18, F_ok102, F_sz102, splice, QG, zz1, zzG, JB, wides, wideA, JN, grow, zz6, QO, ↓Qb, atsL, oksG, JV, QZ, Qa, JO, Qm, QT, QS, zz9, QB, QA, S_mem, yyF, QF, zz2]
  refine kK hK0 [6, 7] ?_
  refine JA fun K0 hK0 => ?_
  refine pq fun K1 hK1 => ?_
  simp only [zzK, QR, QP, QQ, JC, zz29, JM, zz30, zz6, QO, ↓Qb]
  refine kK hK1 [6, 28] ?_
  refine cnA ?_ ?_
  ·intro hb
   simp [hfit] at hb
  ·intro hb
   clear hb
   refine JI ?_
   simp only [zz6, QO, ↓Qb]
   refine kK hK0 [6] ?_
   refine pq fun K0 hK0 => ?_
   simp only [zzK, QR, QP, QQ, F_ok102, F_ag102, F_sz102, zz8, zz23, zzD, QS, QN, zzH, zzC, QA, yyE, Qe, JE, JF, zz14, JB, hfit, wideC, wideA, QW, zz6, QO, ↓Qb]
   refine JT F_go69 (fun hG => Int_ pre.sum) (by simp [QY, QX, wideC, wideA]) (by simp) ?_
   simp only [zzK, QR, QP, QQ, F_ok102, F_ag102, F_sz102, zz8, zz23, zzD, QS, QN, zzH, zzC, QA, yyE, Qe, JE, JF, zz14, JB, hfit, wideC, wideA, QW, zz6, QO, ↓Qb, atsL, oksG, JV, QZ, Qa, JO, Qm, QT, QS, zz9, QB, QA, S_mem, yyF, QF, zz2]
   refine kK hK0 [2, 3] ?_
   refine JJ ?_
   simp only [zz6, QO, ↓Qb]
   refine dnA ?_
   simp only [QD, QE, resA, JZ, QR, QP, JD, QQ, Qd, Qc, JP]
   simp only [QG]
theorem rMay_ (l : List LegV) (hl : l.length ≤ 1000000) : ACalls Tryz.prog 92 [legs l] [] (bv (l.all legOk)) := by
 refine acalls_S (rs := [.tmp 2]) Tryz.func92 rfl rfl 26 [(0, .d (legs l))] rfl (by simp) rfl ?_
 refine pq fun K0 hK0 => ?_
 simp only [zzK, QR, QP, QQ, JB, zz6, QO, ↓Qb]
 refine kK hK0 [0] ?_
 refine JA fun K0 hK0 => ?_
 refine pq fun K1 hK1 => ?_
 simp only [zzK, QR, QP, QQ, JB, zz6, QO, ↓Qb]
 refine kK hK1 [0, 3] ?_
 refine JH ?_
 refine JL (fun m s => ∃ pre post : List LegV, l = pre ++ post ∧ pre.all legOk = true ∧ m = post.length ∧ s = S 26 [(0, .d (legs l)), (3, .d (iv pre.length))] []) l.length _ (leK id [] (hl := by simp only [leV, JD, QQ, Qd, Qc, legs, JN]; exact ⟨Qn _, Qn _, trivial⟩)) ⟨[], l, rfl, rfl, rfl, rfl⟩ ?_
 rintro m s ⟨pre, post, rfl, hp, rfl, rfl⟩
 refine JA fun K2 hK2 => ?_
 refine pq fun K3 hK3 => ?_
 simp only [zzK, QR, QP, QQ, JC, JE, zz12, F_sl41, Option.isSome_some, zz21, JM, zz22, legs, JN, zz6, QO, ↓Qb]
 refine kK hK3 [0, 3, 7] ?_
 refine cnA ?_ ?_
 ·intro hb
  obtain ⟨x, post, rfl⟩ := more_of hb; clear hb
  refine JI ?_
  simp only [zz6, QO, ↓Qb]
  refine kK hK2 [0, 3] ?_
  refine JA fun K2 hK2 => ?_
  refine JH ?_
  refine JA fun K3 hK3 => ?_
  refine Qz F_mixed [some 10, some 11, some 12, some 13, some 14, some 15, some 16, some 17, some 18, some 19, some 20, some 21, some 22, some 23, some 24, some 25] rfl ?_
  simp only [zzK, QR, QP, QQ, QU, JZ, zz5, Qj, Qi, Qh, JC, JW, zz23, zz24, F_sl41, F_sz75, QA, zzC, yyE, Qe, zz19, F_off75_0, zzH, QN, QS, F_ok73, F_ag73, F_sz73, zz8, zzD, JE, JF, zz29, JM, zz30, F_off75_1, F_ok3, F_ag3, F_sz3, zz13, JQ, JR, legs, legC, acC, getD_mid, JN, lt_mid, ge_mid, QW, zz6, QO, ↓Qb]
  refine cgA F_go61 (fun hG => rAcRight_ x.ac) ?_
  simp only [zzK, QR, QP, QQ, QU, JZ, zz5, Qj, Qi, Qh, JC, JW, zz23, zz24, F_sl41, F_sz75, QA, zzC, yyE, Qe, zz19, F_off75_0, zzH, QN, QS, F_ok73, F_ag73, F_sz73, zz8, zzD, JE, JF, zz29, JM, zz30, F_off75_1, F_ok3, F_ag3, F_sz3, zz13, JQ, JR, legs, legC, acC, getD_mid, JN, lt_mid, ge_mid, QW, zz6, QO, ↓Qb, atsL, oksG, JV, QZ, Qa, JO, Qm, QT, QS, zz9, QB, QA, S_mem, yyF, QF, zz2]
  refine cgA F_go62 (fun hG => rRight_ x.amt) ?_
  simp only [zzK, QR, QP, QQ, QU, JZ, zz5, Qj, Qi, Qh, JC, JW, zz23, zz24, F_sl41, F_sz75, QA, zzC, yyE, Qe, zz19, F_off75_0, zzH, QN, QS, F_ok73, F_ag73, F_sz73, zz8, zzD, JE, JF, zz29, JM, zz30, F_off75_1, F_ok3, F_ag3, F_sz3, zz13, JQ, JR, legs, legC, acC, getD_mid, JN, lt_mid, ge_mid, QW, zz6, QO, ↓Qb, atsL, oksG, JV, QZ, Qa, JO, Qm, QT, QS, zz9, QB, QA, S_mem, yyF, QF, zz2]
  refine kK hK3 [0, 3, 25] ?_
  refine cnA ?_ ?_
  ·intro hb
   have hq : legOk x = false := by
    simp only [legOk]
    cases h1 : acOk x.ac <;> cases h2 : rightN x.amt <;> simp [h1, h2] at hb ⊢
   try clear hb
   refine pq fun K4 hK4 => ?_
   simp only [zzK, QR, QP, QQ, JB, zz6, QO, ↓Qb]
   refine kK hK4 [2] ?_
   refine JJ ?_
   simp only [zz6, QO, ↓Qb]
   refine dnA ?_
   simp only [QD, QE, resA, JZ, QR, QP, JD, QQ, Qd, Qc, JP]
   simp [hq]
  ·intro hb
   have hq : legOk x = true := by
    simp only [legOk]
    cases h1 : acOk x.ac <;> cases h2 : rightN x.amt <;> simp [h1, h2] at hb ⊢
   clear hb
   refine JI ?_
   simp only [zz6, QO, ↓Qb]
   refine kK hK2 [0, 3] ?_
   refine pz ?_
   simp only [zzK, QR, QP, QQ, JC, zz21, JM, zz26, JB, zz6, QO, ↓Qb]
   refine ⟨post.length, _, by simp, leK id [] (hl := by simp only [leV, JD, QQ, Qd, Qc, legs, JN, wrap_len pre x (by simp at hl; omega)]; exact ⟨Qn _, Qn _, trivial⟩), pre ++ [x], post, by simp, by simp [hp, hq], rfl, rfl⟩
 ·intro hb
  obtain rfl := none_of hb; clear hb
  refine JK ?_
  simp only [zz6, QO, ↓Qb]
  refine kK hK0 [] ?_
  refine pq fun K0 hK0 => ?_
  simp only [zzK, QR, QP, QQ, JB, zz6, QO, ↓Qb]
  refine kK hK0 [2] ?_
  refine JJ ?_
  simp only [zz6, QO, ↓Qb]
  refine dnA ?_
  simp only [QD, QE, resA, JZ, QR, QP, JD, QQ, Qd, Qc, JP]
  simp [hp]
theorem rFlo_ (a : AcV) : ACalls Tryz.prog 63 [.agg (acC a)] [] (.d (iv (flo a))) := by
 refine acalls_S (rs := [.tmp 2]) Tryz.func63 rfl rfl 15 [(0, .d (.agg (acC a)))] rfl (by simp) rfl ?_
 refine pq fun K0 hK0 => ?_
 simp only [zzK, QR, QP, QQ, zz35, JS, zz1, zzG, zzD, zzC, QA, yyE, Qe, QS, QN, zzH, JB, acC, zz6, QO, ↓Qb]
 refine kK hK0 [1] ?_
 refine JA fun K0 hK0 => ?_
 refine JA fun K1 hK1 => ?_
 refine Qz F_mixed [some 3, some 4, some 5, some 6, some 7, some 8, some 9, some 10, some 11, some 12, some 13, some 14] rfl ?_
 simp only [zzK, QR, QP, QQ, QU, JZ, zz5, Qj, Qi, Qh, F_ok73, F_ag73, F_sz73, zz8, zz23, zzD, QS, QN, zzH, zzC, QA, yyE, Qe, JE, JF, JC, zz19, F_off73_0, F_ok3, F_ag3, F_sz3, zz21, JM, zz34, zz13, JQ, JR, acC, QW, zz6, QO, ↓Qb]
 refine cgA F_go61 (fun hG => rAcRight_ a) ?_
 simp only [zzK, QR, QP, QQ, QU, JZ, zz5, Qj, Qi, Qh, F_ok73, F_ag73, F_sz73, zz8, zz23, zzD, QS, QN, zzH, zzC, QA, yyE, Qe, JE, JF, JC, zz19, F_off73_0, F_ok3, F_ag3, F_sz3, zz21, JM, zz34, zz13, JQ, JR, acC, QW, zz6, QO, ↓Qb, atsL, oksG, JV, QZ, Qa, JO, Qm, QT, QS, zz9, QB, QA, S_mem, yyF, QF, zz2]
 refine kK hK1 [14] ?_
 refine cnA ?_ ?_
 ·intro hb
  have e : (acOk a && (a.kind == 3 || a.kind == 4)) = true := hb
  clear hb
  refine pq fun K2 hK2 => ?_
  simp only [zzK, QR, QP, QQ, JB, zz6, QO, ↓Qb]
  refine kK hK2 [2] ?_
  refine JJ ?_
  simp only [zz6, QO, ↓Qb]
  refine dnA ?_
  simp only [QD, QE, resA, JZ, QR, QP, JD, QQ, Qd, Qc, JP]
  simp only [flo, e, Qd]
 ·intro hb
  have e : (acOk a && (a.kind == 3 || a.kind == 4)) = false := hb
  clear hb
  refine JI ?_
  simp only [zz6, QO, ↓Qb]
  refine kK hK0 [] ?_
  refine pq fun K0 hK0 => ?_
  simp only [zzK, QR, QP, QQ, JB, zz6, QO, ↓Qb]
  refine kK hK0 [2] ?_
  refine JJ ?_
  simp only [zz6, QO, ↓Qb]
  refine dnA ?_
  simp only [QD, QE, resA, JZ, QR, QP, JD, QQ, Qd, Qc, JP]
  simp only [flo, e, Qc]
theorem rLess_ (a b : AcV) : ACalls Tryz.prog 64 [.agg (acC a), .agg (acC b)] [] (bv (acLt a b)) := by
 refine acalls_S (rs := [.tmp 4]) Tryz.func64 rfl rfl 30 [(0, .d (.agg (acC a))), (1, .d (.agg (acC b)))] rfl (by simp) rfl ?_
 refine pq fun K0 hK0 => ?_
 simp only [zzK, QR, QP, QQ, zz35, JS, zz1, zzG, zzD, zzC, QA, yyE, Qe, QS, QN, zzH, JB, acC, zz6, QO, ↓Qb]
 refine kK hK0 [2, 3] ?_
 refine JA fun K0 hK0 => ?_
 refine pq fun K1 hK1 => ?_
 simp only [zzK, QR, QP, QQ, zz19, zz23, F_off73_0, zzH, QN, QS, F_ok3, F_ag3, F_sz3, zz8, zzD, zzC, QA, yyE, Qe, zz21, JM, zz28, zz6, QO, ↓Qb]
 refine kK hK1 [2, 3, 9] ?_
 refine cnA ?_ ?_
 ·intro hb
  have e : acLt a b = decide (a.kind < b.kind) := by simp only [acLt, hb, Qd]
  refine pq fun K2 hK2 => ?_
  simp only [zzK, QR, QP, QQ, zz19, zz23, F_off73_0, zzH, QN, QS, F_ok3, F_ag3, F_sz3, zz8, zzD, zzC, QA, yyE, Qe, zz21, JM, zz22, JB, zz6, QO, ↓Qb]
  refine kK hK2 [4] ?_
  refine JJ ?_
  simp only [zz6, QO, ↓Qb]
  refine dnA ?_
  simp only [QD, QE, resA, JZ, QR, QP, JD, QQ, Qd, Qc, JP]
  rw [e]
 ·intro hb
  skip
  refine JI ?_
  simp only [zz6, QO, ↓Qb]
  refine kK hK0 [2, 3] ?_
  refine JA fun K0 hK0 => ?_
  refine pq fun K1 hK1 => ?_
  simp only [zzK, QR, QP, QQ, zz19, zz23, F_off73_1, zzH, QN, QS, F_ok3, F_ag3, F_sz3, zz8, zzD, zzC, QA, yyE, Qe, zz21, JM, zz28, zz6, QO, ↓Qb]
  refine kK hK1 [2, 3, 19] ?_
  refine cnA ?_ ?_
  ·intro hb
   rename_i hb0
   have e : acLt a b = decide (a.who < b.who) := by simp only [acLt, hb0, hb, Qd, Qc]
   refine pq fun K2 hK2 => ?_
   simp only [zzK, QR, QP, QQ, zz19, zz23, F_off73_1, zzH, QN, QS, F_ok3, F_ag3, F_sz3, zz8, zzD, zzC, QA, yyE, Qe, zz21, JM, zz22, JB, zz6, QO, ↓Qb]
   refine kK hK2 [4] ?_
   refine JJ ?_
   simp only [zz6, QO, ↓Qb]
   refine dnA ?_
   simp only [QD, QE, resA, JZ, QR, QP, JD, QQ, Qd, Qc, JP]
   rw [e]
  ·intro hb
   rename_i hb0
   have e : acLt a b = decide (a.cur < b.cur) := by simp only [acLt, hb0, hb, Qc]
   refine JI ?_
   simp only [zz6, QO, ↓Qb]
   refine kK hK0 [2, 3] ?_
   refine pq fun K0 hK0 => ?_
   simp only [zzK, QR, QP, QQ, zz19, zz23, F_off73_2, zzH, QN, QS, F_ok3, F_ag3, F_sz3, zz8, zzD, zzC, QA, yyE, Qe, zz21, JM, zz22, JB, zz6, QO, ↓Qb]
   refine kK hK0 [4] ?_
   refine JJ ?_
   simp only [zz6, QO, ↓Qb]
   refine dnA ?_
   simp only [QD, QE, resA, JZ, QR, QP, JD, QQ, Qd, Qc, JP]
   rw [e]
set_option maxRecDepth 100000 in
set_option maxHeartbeats 4000000 in
theorem rTot_ (nx : Int) (l : List LegV) (c : Int) (ks : List Int) (hr : ∀ x ∈ l, rightN x.amt = true) (hl : l.length ≤ 500000) (hk : ks.length ≤ 1000000) : ACalls Tryz.prog 65 [.agg (ledC ⟨nx, l⟩), iv c, ints ks] [] (.tp [.d (iv (bif rightN (kSum c (fun k => ks.contains k) l) then kSum c (fun k => ks.contains k) l else 0)), bv (rightN (kSum c (fun k => ks.contains k) l))]) := by
 refine acalls_S (rs := [.tmp 6, .tmp 7]) Tryz.func65 rfl rfl 65 [(0, .d (.agg (ledC ⟨nx, l⟩))), (1, .d (iv c)), (2, .d (ints ks))] rfl (by simp) rfl ?_
 refine pq fun K0 hK0 => ?_
 simp only [zzK, QR, QP, QQ, zz35, JS, zz1, zzG, zzD, zzC, QA, yyE, Qe, QS, QN, zzH, JB, ledC, legs, zz6, QO, ↓Qb]
 refine kK hK0 [1, 2, 3] ?_
 refine pq fun K0 hK0 => ?_
 simp only [zzK, QR, QP, QQ, JB, zz6, QO, ↓Qb]
 refine kK hK0 [1, 2, 3, 8] ?_
 refine JA fun K0 hK0 => ?_
 refine pq fun K1 hK1 => ?_
 simp only [zzK, QR, QP, QQ, JB, zz6, QO, ↓Qb]
 refine kK hK1 [1, 2, 3, 8, 9] ?_
 refine JH ?_
 refine JL (fun m s => ∃ (pre : List LegV) (post : List LegV), (l = pre ++ post) ∧ m = post.length ∧ s = S 65 [(1, .d (iv c)), (2, .d (ints ks)), (3, .ptr 3 0 0), (8, .ref 8 (sumsL c (fun k => ks.contains k) pre).length), (9, .d (iv pre.length))] [(3, (⟨True, 24, 2, true, false, 3, [[.d (iv nx), .d (.sl 4 (l.map legC))]]⟩ : ARow)), (8, grow 3 1 8 ((sumsL c (fun k => ks.contains k) pre).map fun n => [iv n]))]) (l.length) _ (leK id [8]) ⟨[], l, rfl, rfl, rfl⟩ ?_
 rintro m s ⟨pre, post, hsp, rfl, rfl⟩
 have hspl := congrArg List.length hsp
 simp only [QC] at hspl
 have hql := sumsL_len c (fun k => ks.contains k) pre
 refine JA fun K2 hK2 => ?_
 refine pq fun K3 hK3 => ?_
 simp only [zzK, QR, QP, QQ, JC, zz19, zz23, F_off24_1, zzH, QN, QS, F_ok22, F_ag22, F_sz22, zz8, zzD, zzC, QA, yyE, Qe, JE, zz12, F_sl22, Option.isSome_some, zz21, JM, zz22, JN, zz6, QO, ↓Qb]
 refine kK hK3 [1, 2, 3, 8, 9, 16] ?_
 refine cnA ?_ ?_
 ·intro hb
  obtain ⟨x, post2, rfl⟩ : ∃ x t, post = x :: t := by
   cases post with
   | nil => have := Qg hb; simp at hspl; omega
   | cons x t => exact ⟨x, t, rfl⟩
  clear hb
  simp only [QF] at hspl
  have gx : (l.map legC).getD pre.length [] = [iv x.ac.kind, iv x.ac.who, iv x.ac.cur, iv x.amt] := by
   rw [hsp, List.map_append]; exact gd_mid' (A := pre.map legC) _ _ (by simp)
  have bx := ltI (show pre.length < l.length by omega)
  have hwx : Ql .i64 ((pre.length : Int) + 1) = ((pre ++ [x]).length : Int) := by rw [wrapI (by omega) (by omega)]; simp
  refine JI ?_
  simp only [zz6, QO, ↓Qb]
  refine kK hK2 [1, 2, 3, 8, 9] ?_
  refine JA fun K2 hK2 => ?_
  refine JH ?_
  refine pq fun K3 hK3 => ?_
  simp only [zzK, QR, QP, QQ, JB, zz6, QO, ↓Qb]
  refine kK hK3 [1, 2, 3, 8, 9, 10] ?_
  refine JA fun K3 hK3 => ?_
  refine pq fun K4 hK4 => ?_
  simp only [zzK, QR, QP, QQ, JB, zz6, QO, ↓Qb]
  refine kK hK4 [1, 2, 3, 8, 9, 10, 11] ?_
  refine JH ?_
  refine JL (fun m s => ∃ (kp : List Int) (kq : List Int), (ks = kp ++ kq) ∧ m = kq.length ∧ s = S 65 [(1, .d (iv c)), (2, .d (ints ks)), (3, .ptr 3 0 0), (8, .ref 8 (sumsL c (fun k => ks.contains k) pre).length), (9, .d (iv pre.length)), (10, .d (.v (.bool (kp.contains x.ac.kind)))), (11, .d (iv kp.length))] [(3, (⟨True, 24, 2, true, false, 3, [[.d (iv nx), .d (.sl 4 (l.map legC))]]⟩ : ARow)), (8, grow 3 1 8 ((sumsL c (fun k => ks.contains k) pre).map fun n => [iv n]))]) (ks.length) _ (leK id []) ⟨[], ks, rfl, rfl, rfl⟩ ?_
  rintro m s ⟨kp, kq, hks, rfl, rfl⟩
  have hksl := congrArg List.length hks
  simp only [QC] at hksl
  refine JA fun K5 hK5 => ?_
  refine pq fun K6 hK6 => ?_
  simp only [zzK, QR, QP, QQ, JC, JE, zz12, F_sl30, Option.isSome_some, zz21, JM, zz22, ints, JN, zz6, QO, ↓Qb]
  refine kK hK6 [1, 2, 3, 8, 9, 10, 11, 22] ?_
  refine cnA ?_ ?_
  ·intro hb
   obtain ⟨y, kq2, rfl⟩ : ∃ x t, kq = x :: t := by
    cases kq with
    | nil => have := Qg hb; simp at hksl; omega
    | cons x t => exact ⟨x, t, rfl⟩
   clear hb
   simp only [QF] at hksl
   have gy : (ks.map (fun n => [iv n])).getD kp.length [] = [iv y] := by
    rw [hks, List.map_append]; exact gd_mid' (A := kp.map (fun n => [iv n])) _ _ (by simp)
   have by_ := ltI (show kp.length < ks.length by omega)
   have hwy : Ql .i64 ((kp.length : Int) + 1) = ((kp ++ [y]).length : Int) := by rw [wrapI (by omega) (by omega)]; simp
   have hcn : (kp.contains x.ac.kind || (y == x.ac.kind)) = (kp ++ [y]).contains x.ac.kind := by
    simp only [List.contains_append, List.contains_cons, List.contains_nil, Bool.or_false]
    rw [show (y == x.ac.kind) = (x.ac.kind == y) from Bool.beq_comm]
   refine JI ?_
   simp only [zz6, QO, ↓Qb]
   refine kK hK5 [1, 2, 3, 8, 9, 10, 11] ?_
   refine JA fun K5 hK5 => ?_
   refine JH ?_
   refine awp_draw F_mixed [some 25, some 26, some 27, some 28, some 29, some 30, some 31, some 32, some 33, some 34, some 35, some 36, some 37, some 38, some 39, some 10] rfl (by kernel_rfl) ?_
   simp only [zzK, QR, QP, QQ, QU, JZ, zz5, Qj, Qi, Qh, JC, JW, zz23, zz24, F_sl30, F_sz3, QA, zzC, yyE, Qe, F_ok3, F_ag3, zz8, zzD, QS, QN, zzH, zz19, F_off24_1, F_ok22, F_ag22, F_sz22, F_sl22, F_sz86, F_off86_0, F_off73_0, zz21, JM, zz34, zz13, JQ, JR, JB, ints, gy, by_, hwy, gx, bx, hwx, JN, ge0, QV, QW, legC, acC, hcn, zz6, QO, ↓Qb]
   refine kK hK5 [1, 2, 3, 8, 9, 10, 11] ?_
   refine pz ?_
   simp only [zzK, QR, QP, QQ, JC, zz21, JM, zz26, JB, hwy, zz6, QO, ↓Qb]
   refine ⟨kq2.length, _, by simp, leK id [] (hl := by simp only [leV, JD, QQ, Qd, Qc, hwy, hcn]; exact ⟨vA, vA, vA, vA, vA, vA, vA, trivial⟩), (kp ++ [y]), kq2, by simp [hks], rfl, rfl⟩
  ·intro hb
   obtain rfl : kq = [] := by
    cases kq with
    | nil => rfl
    | cons x t => have := Qf hb; simp at hksl; omega
   clear hb
   simp only [QG] at hks
   obtain rfl : ks = kp := hks
   refine JK ?_
   simp only [zz6, QO, ↓Qb]
   refine kK hK3 [1, 2, 3, 8, 9, 10] ?_
   refine JA fun K3 hK3 => ?_
   refine Qz F_mixed [some 40, some 41, some 42, some 43, some 44, some 45, some 46, some 47, some 48, some 49, some 50, some 51] rfl ?_
   simp only [zzK, QR, QP, QQ, QU, JZ, zz5, Qj, Qi, Qh, JC, zz19, zz23, F_off24_1, zzH, QN, QS, F_ok22, F_ag22, F_sz22, zz8, zzD, zzC, QA, yyE, Qe, JW, zz24, F_sl22, F_sz86, F_off86_0, F_off73_2, F_ok3, F_ag3, F_sz3, zz21, JM, zz34, zz13, JQ, JR, gx, bx, hwx, JN, ge0, QV, QW, legC, acC, zz6, QO, ↓Qb]
   refine kK hK3 [1, 2, 3, 8, 9, 51] ?_
   refine cnA ?_ ?_
   ·intro hb
    have hs : (x.ac.cur == c && ks.contains x.ac.kind) = true := by rw [Bool.and_comm]; exact hb
    clear hb
    have hsl := sumsL_yes (g := (fun k => ks.contains k)) hs pre
    refine pz ?_
    simp only [zzK, QR, QP, QQ, JC, zz19, zz23, F_off24_1, zzH, QN, QS, F_ok22, F_ag22, F_sz22, zz8, zzD, zzC, QA, yyE, Qe, JW, zz24, F_sl22, F_sz86, F_off86_1, F_ok3, F_ag3, F_sz3, F_sl30, F_zero3, zz3, JS, zz1, zzG, maxLen_le, QT, JE, F_by3, zz4, zz9, QB, JB, gx, bx, hwx, JN, ge0, QV, QW, legC, grow, unDs_map, zz6, QO, ↓Qb]
    have hm : (sumsL c (fun k => ks.contains k) pre).length + 1 ≤ 1000000 := by first | omega | (simp; omega)
    first | refine ⟨le_maxLen hm, by omega, ?_⟩ | refine ⟨by simp, le_maxLen hm, by omega, ?_⟩
    clear hm
    refine kK hK2 [1, 2, 3, 8, 9] ?_
    refine pz ?_
    simp only [zzK, QR, QP, QQ, JC, zz21, JM, zz26, JB, hwx, zz6, QO, ↓Qb]
    refine ⟨post2.length, _, by simp, leK (fun r => bif r == 8 then 60 else r) [] (hl := by simp only [leV, JD, QQ, Qd, Qc, hwx, hsl]; exact ⟨vA, vA, vA, vA, vA, trivial⟩) (hr := by exact ⟨fun _ => ⟨_, rfl, rA⟩, (by simp), fun _ => ⟨_, rfl, Qw (by rw [hsl]; simp)⟩, (by simp), trivial⟩), (pre ++ [x]), post2, by simp [hsp], rfl, rfl⟩
   ·intro hb
    have hs : (x.ac.cur == c && ks.contains x.ac.kind) = false := by rw [Bool.and_comm]; exact hb
    clear hb
    have hsl := sumsL_no (g := (fun k => ks.contains k)) hs pre
    refine JI ?_
    simp only [zz6, QO, ↓Qb]
    refine kK hK2 [1, 2, 3, 8, 9] ?_
    refine pz ?_
    simp only [zzK, QR, QP, QQ, JC, zz21, JM, zz26, JB, hwx, zz6, QO, ↓Qb]
    refine ⟨post2.length, _, by simp, leK id [] (hl := by simp only [leV, JD, QQ, Qd, Qc, hwx, hsl]; exact ⟨vA, vA, vA, vA, vA, trivial⟩) (hr := by exact ⟨fun _ => ⟨_, rfl, rA⟩, (by simp), fun _ => ⟨_, rfl, Qw (by rw [hsl])⟩, (by simp), trivial⟩), (pre ++ [x]), post2, by simp [hsp], rfl, rfl⟩
 ·intro hb
  obtain rfl : post = [] := by
   cases post with
   | nil => rfl
   | cons x t => have := Qf hb; simp at hspl; omega
  clear hb
  simp only [QG] at hsp
  obtain rfl : l = pre := hsp
  have hrt := rt_amts hr c (fun k => ks.contains k)
  refine JK ?_
  simp only [zz6, QO, ↓Qb]
  refine kK hK0 [8] ?_
  refine pq fun K0 hK0 => ?_
  simp only [zzK, QR, QP, QQ, JC, JE, JF, zz14, zzD, QS, QN, zzF, JB, ints, grow, D.sl.injEq, JN, zz6, QO, ↓Qb]
  refine cgA F_go33 (fun hG => Add_ (sumsL c (fun k => ks.contains k) l) (by omega) (rt_bound hrt)) ?_
  simp only [zzK, QR, QP, QQ, JC, JE, JF, zz14, zzD, QS, QN, zzF, JB, ints, grow, JN, zz6, QO, ↓Qb, atsL, oksG, JV, QZ, Qa, JO, Qm, QT, QS, zz9, QB, QA, zzC, yyF, QF, zz2]
  first | refine ⟨by simp, ?_⟩ | skip
  refine kK hK0 [6, 7] ?_
  refine JJ ?_
  simp only [zz6, QO, ↓Qb]
  refine dnA ?_
  simp only [QD, QE, resA, JZ, QR, QP, JD, QQ, Qd, Qc, JP]
  rfl
set_option maxRecDepth 100000 in
set_option maxHeartbeats 4000000 in
theorem rLed0_ (nx : Int) (l : List LegV) (hl : l.length ≤ 500000) : ACalls Tryz.prog 31 [.agg (ledC ⟨nx, l⟩)] [] (bv (ledOk ⟨nx, l⟩)) := by
 refine acalls_S (rs := [.tmp 2]) Tryz.func31 rfl rfl 80 [(0, .d (.agg (ledC ⟨nx, l⟩)))] rfl (by simp) rfl ?_
 refine pq fun K0 hK0 => ?_
 simp only [zzK, QR, QP, QQ, zz35, JS, zz1, zzG, zzD, zzC, QA, yyE, Qe, QS, QN, zzH, JB, ledC, legs, zz6, QO, ↓Qb]
 refine kK hK0 [1] ?_
 refine JA fun K0 hK0 => ?_
 refine pq fun K1 hK1 => ?_
 simp only [zzK, QR, QP, QQ, zz19, zz23, F_off24_0, zzH, QN, QS, F_ok3, F_ag3, F_sz3, zz8, zzD, zzC, QA, yyE, Qe, zz21, JM, zz22, zz6, QO, ↓Qb]
 refine kK hK1 [1, 10] ?_
 refine cnA ?_ ?_
 ·intro hb
  have hn : decide (nx < 0) = true := hb
  clear hb
  refine pq fun K2 hK2 => ?_
  simp only [zzK, QR, QP, QQ, JB, zz6, QO, ↓Qb]
  refine kK hK2 [2] ?_
  refine JJ ?_
  simp only [zz6, QO, ↓Qb]
  refine dnA ?_
  simp only [QD, QE, resA, JZ, QR, QP, JD, QQ, Qd, Qc, JP]
  have e : ledOk ⟨nx, l⟩ = false := by simp only [ledOk, hn]; rfl
  rw [e]
 ·intro hb
  have hn : decide (nx < 0) = false := hb
  clear hb
  refine JI ?_
  simp only [zz6, QO, ↓Qb]
  refine kK hK0 [1] ?_
  refine JA fun K0 hK0 => ?_
  refine pq fun K1 hK1 => ?_
  simp only [zzK, QR, QP, QQ, JB, zz6, QO, ↓Qb]
  refine kK hK1 [1, 3] ?_
  refine JH ?_
  refine JL (fun m s => ∃ pre post : List LegV, l = pre ++ post ∧ chkR balOk lxLt none l = chkR balOk lxLt pre.getLast? post ∧ m = post.length ∧ s = S 80 [(1, .ptr 1 0 0), (3, .d (iv pre.length))] [(1, (⟨True, 24, 2, true, false, 1, [[.d (iv nx), .d (.sl 4 (l.map legC))]]⟩ : ARow))]) l.length _ (leK id [] (hl := by simp only [leV, JD, QQ, Qd, Qc, JN]; exact ⟨Qn _, Qn _, trivial⟩) (hr := by exact ⟨fun _ => ⟨_, rfl, ⟨id, rfl, rfl, fun _ => rfl, id, .inl, VLess.refl _⟩⟩, (by simp), trivial⟩)) ⟨[], l, rfl, rfl, rfl, rfl⟩ ?_
  rintro m s ⟨pre, post, rfl, hck, rfl, rfl⟩
  refine JA fun K2 hK2 => ?_
  refine pq fun K3 hK3 => ?_
  simp only [zzK, QR, QP, QQ, JC, zz19, zz23, F_off24_1, zzH, QN, QS, F_ok22, F_ag22, F_sz22, zz8, zzD, zzC, QA, yyE, Qe, JE, zz12, F_sl22, Option.isSome_some, zz21, JM, zz22, JN, zz6, QO, ↓Qb]
  refine kK hK3 [1, 3, 15] ?_
  refine cnA ?_ ?_
  ·intro hb
   obtain ⟨x, post, rfl⟩ := more_of hb; clear hb
   have hpp : pre.length < 4611686018427387904 := by simp at hl; omega
   have hpg := prev_get legC pre post x [] hpp
   refine JI ?_
   simp only [zz6, QO, ↓Qb]
   refine kK hK2 [1, 3] ?_
   refine JA fun K2 hK2 => ?_
   refine JH ?_
   refine pq fun K3 hK3 => ?_
   simp only [zzK, QR, QP, QQ, zz19, zz23, F_off24_1, zzH, QN, QS, F_ok22, F_ag22, F_sz22, zz8, zzD, zzC, QA, yyE, Qe, JC, JW, zz24, F_sl22, F_sz86, F_ok86, F_ag86, zz32, JS, F_zero86, zz10, zz18, splice, QG, zz1, zzG, legC, getD_mid, JN, lt_mid, ge_mid, zz6, QO, ↓Qb]
   refine kK hK3 [1, 3, 4] ?_
   refine JA fun K3 hK3 => ?_
   refine awp_draw F_mixed [some 23, some 24, some 25, some 26, some 27, some 28, some 29, some 30, some 31, some 32, some 33, some 34, some 35, some 36, some 37, some 38, some 39, some 40, some 41, some 42, some 43, some 44, some 45, some 46, some 47, some 48, some 49, some 50, some 51, some 52, some 53, some 54, some 55, some 56, some 57, some 58, some 59, some 60, some 61, some 62] rfl (by kernel_rfl) ?_
   simp only [zzK, QR, QP, QQ, QU, JZ, zz5, Qj, Qi, Qh, zz19, zz23, F_off86_0, zzH, QN, QS, F_ok73, F_ag73, F_sz73, zz8, zzD, zzC, QA, yyE, Qe, JE, JF, zz29, JM, zz30, JC, F_off86_1, F_ok3, F_ag3, F_sz3, zz21, zz34, zz13, JQ, JR, zz22, zz25, F_off24_1, F_ok22, F_ag22, F_sz22, zz33, JW, zz24, F_sl22, F_sz86, QW, legC, acC, hpg, getD_mid, JN, lt_mid, ge_mid, zz6, QO, ↓Qb]
   refine cgA F_go61 (fun hG => rAcRight_ x.ac) ?_
   simp only [zzK, QR, QP, QQ, QU, JZ, zz5, Qj, Qi, Qh, zz19, zz23, F_off86_0, zzH, QN, QS, F_ok73, F_ag73, F_sz73, zz8, zzD, zzC, QA, yyE, Qe, JE, JF, zz29, JM, zz30, JC, F_off86_1, F_ok3, F_ag3, F_sz3, zz21, zz34, zz13, JQ, JR, zz22, zz25, F_off24_1, F_ok22, F_ag22, F_sz22, zz33, JW, zz24, F_sl22, F_sz86, QW, legC, acC, hpg, getD_mid, JN, lt_mid, ge_mid, zz6, QO, ↓Qb, atsL, oksG, JV, QZ, Qa, JO, Qm, QT, QS, zz9, QB, QA, S_mem, yyF, QF, zz2]
   refine cgA F_go62 (fun hG => rRight_ x.amt) ?_
   simp only [zzK, QR, QP, QQ, QU, JZ, zz5, Qj, Qi, Qh, zz19, zz23, F_off86_0, zzH, QN, QS, F_ok73, F_ag73, F_sz73, zz8, zzD, zzC, QA, yyE, Qe, JE, JF, zz29, JM, zz30, JC, F_off86_1, F_ok3, F_ag3, F_sz3, zz21, zz34, zz13, JQ, JR, zz22, zz25, F_off24_1, F_ok22, F_ag22, F_sz22, zz33, JW, zz24, F_sl22, F_sz86, QW, legC, acC, hpg, getD_mid, JN, lt_mid, ge_mid, zz6, QO, ↓Qb, atsL, oksG, JV, QZ, Qa, JO, Qm, QT, QS, zz9, QB, QA, S_mem, yyF, QF, zz2]
   refine cgA F_go63 (fun hG => rFlo_ x.ac) ?_
   simp only [zzK, QR, QP, QQ, QU, JZ, zz5, Qj, Qi, Qh, zz19, zz23, F_off86_0, zzH, QN, QS, F_ok73, F_ag73, F_sz73, zz8, zzD, zzC, QA, yyE, Qe, JE, JF, zz29, JM, zz30, JC, F_off86_1, F_ok3, F_ag3, F_sz3, zz21, zz34, zz13, JQ, JR, zz22, zz25, F_off24_1, F_ok22, F_ag22, F_sz22, zz33, JW, zz24, F_sl22, F_sz86, QW, legC, acC, hpg, getD_mid, JN, lt_mid, ge_mid, zz6, QO, ↓Qb, atsL, oksG, JV, QZ, Qa, JO, Qm, QT, QS, zz9, QB, QA, S_mem, yyF, QF, zz2]
   refine ⟨⟨fun _ hp2 => prev_ok pre hpp hp2, fun _ _ => prev_lt pre post x hpp⟩, ?_⟩
   refine cgA F_go64 (fun hG => rLess_ (lastOr x pre).ac x.ac) ?_
   simp only [zzK, QR, QP, QQ, QU, JZ, zz5, Qj, Qi, Qh, zz19, zz23, F_off86_0, zzH, QN, QS, F_ok73, F_ag73, F_sz73, zz8, zzD, zzC, QA, yyE, Qe, JE, JF, zz29, JM, zz30, JC, F_off86_1, F_ok3, F_ag3, F_sz3, zz21, zz34, zz13, JQ, JR, zz22, zz25, F_off24_1, F_ok22, F_ag22, F_sz22, zz33, JW, zz24, F_sl22, F_sz86, QW, legC, acC, hpg, getD_mid, JN, lt_mid, ge_mid, zz6, QO, ↓Qb, atsL, oksG, JV, QZ, Qa, JO, Qm, QT, QS, zz9, QB, QA, S_mem, yyF, QF, zz2]
   refine kK hK3 [1, 3, 62] ?_
   refine cnA ?_ ?_
   ·intro hb
    have hs : (!balOk x || (decide ((pre.length : Int) > 0) && !lxLt (lastOr x pre) x)) = true := by
     rw [← hb]; simp only [balOk, balBad, lxLt, Bool.not_not, List.all_cons, List.all_nil, Bool.and_true]; cases acOk x.ac <;> cases rightN x.amt <;> cases (x.amt == 0) <;> simp
    clear hb
    refine pq fun K4 hK4 => ?_
    simp only [zzK, QR, QP, QQ, JB, zz6, QO, ↓Qb]
    refine kK hK4 [2] ?_
    refine JJ ?_
    simp only [zz6, QO, ↓Qb]
    refine dnA ?_
    simp only [QD, QE, resA, JZ, QR, QP, JD, QQ, Qd, Qc, JP]
    have e : ledOk ⟨nx, pre ++ x :: post⟩ = false := by simp only [ledOk]; rw [hck, chkR_step, hs]; simp
    rw [e]
   ·intro hb
    have hs : (!balOk x || (decide ((pre.length : Int) > 0) && !lxLt (lastOr x pre) x)) = false := by
     rw [← hb]; simp only [balOk, balBad, lxLt, Bool.not_not, List.all_cons, List.all_nil, Bool.and_true]; cases acOk x.ac <;> cases rightN x.amt <;> cases (x.amt == 0) <;> simp
    clear hb
    refine JI ?_
    simp only [zz6, QO, ↓Qb]
    refine kK hK2 [1, 3] ?_
    refine pz ?_
    simp only [zzK, QR, QP, QQ, JC, zz21, JM, zz26, JB, zz6, QO, ↓Qb]
    refine ⟨post.length, _, by simp, leK id [] (hl := by simp only [leV, JD, QQ, Qd, Qc, JN, wrap_len pre x (by simp at hl; omega)]; exact ⟨Qn _, Qn _, trivial⟩) (hr := by exact ⟨fun _ => ⟨_, rfl, ⟨id, rfl, rfl, fun _ => rfl, id, .inl, VLess.refl _⟩⟩, (by simp), trivial⟩), pre ++ [x], post, by simp, by rw [hck, chkR_step, hs]; simp, rfl, rfl⟩
  ·intro hb
   obtain rfl := none_of hb; clear hb
   simp only [QG] at hck hl ⊢
   have hk0 := hck; clear hck
   obtain ⟨l, eps⟩ : ∃ x, x = pre := ⟨_, rfl⟩
   subst eps
   obtain ⟨hall, hr⟩ := chk_all hk0
   refine JK ?_
   simp only [zz6, QO, ↓Qb]
   refine kK hK0 [1] ?_
   refine JA fun K0 hK0 => ?_
   refine pq fun K1 hK1 => ?_
   simp only [zzK, QR, QP, QQ, JB, zz6, QO, ↓Qb]
   refine kK hK1 [1, 5] ?_
   refine JH ?_
   refine JL (fun m s => ∃ (c : Nat), (c ≤ 3) ∧ (∀ k : Nat, k < c → curBad (k : Int) l = false) ∧ m = 3 - c ∧ s = S 80 [(1, .ptr 1 0 0), (5, .d (iv ((c : Nat) : Int)))] [(1, (⟨True, 24, 2, true, false, 1, [[.d (iv nx), .d (.sl 4 (l.map legC))]]⟩ : ARow))]) (3) _ (leK id []) ⟨0, by omega, fun k hk => by omega, rfl, rfl⟩ ?_
   rintro m s ⟨c, hc3, hck, rfl, rfl⟩
   refine JA fun K2 hK2 => ?_
   refine pq fun K3 hK3 => ?_
   simp only [zzK, QR, QP, QQ, JC, zz21, JM, zz22, zz6, QO, ↓Qb]
   refine kK hK3 [1, 5, 64] ?_
   refine cnA ?_ ?_
   ·intro hb
    have hlt : c < 3 := by have := Qg hb; omega
    clear hb
    have hwc : Ql .i64 ((c : Int) + 1) = ((c + 1 : Nat) : Int) := by rw [wrapI (by omega) (by omega)]; omega
    have htc := tot_cur hall (c : Int)
    refine JI ?_
    simp only [zz6, QO, ↓Qb]
    refine kK hK2 [1, 5] ?_
    refine JA fun K2 hK2 => ?_
    refine JH ?_
    refine pq fun K3 hK3 => ?_
    simp only [zzK, QR, QP, QQ, F_ok24, F_ag24, F_sz24, zz8, zz23, zzD, QS, QN, zzH, zzC, QA, yyE, Qe, JC, F_sl30, F_zero3, F_sz3, zz3, JS, zz1, zzG, maxLen_le, QT, JE, JF, zz14, JB, ledC, legs, ints, QW, QD, D.sl.injEq, zz6, QO, ↓Qb]
    refine cgA F_go65 (fun hG => rTot_ nx l (c : Int) [1, 2, 3, 4, 5, 6] hr hl (by simp)) ?_
    simp only [zzK, QR, QP, QQ, F_ok24, F_ag24, F_sz24, zz8, zz23, zzD, QS, QN, zzH, zzC, QA, yyE, Qe, JC, F_sl30, F_zero3, F_sz3, zz3, JS, zz1, zzG, maxLen_le, QT, JE, JF, zz14, JB, ledC, legs, ints, QW, QD, zz6, QO, ↓Qb, atsL, oksG, JV, QZ, Qa, JO, Qm, QT, QS, zz9, QB, QA, S_mem, yyF, QF, zz2]
    refine kK hK3 [1, 5, 6, 7] ?_
    refine JA fun K3 hK3 => ?_
    refine Qz F_mixed [some 74, some 75, some 76, some 77, some 78, some 79] rfl ?_
    simp only [zzK, QR, QP, QQ, QU, JZ, zz5, Qj, Qi, Qh, and_self, JC, zz29, JM, zz30, zz21, zz28, zz13, JQ, JR, htc, zz6, QO, ↓Qb]
    refine kK hK3 [1, 5, 79] ?_
    refine cnA ?_ ?_
    ·intro hb
     have hcc : curBad (c : Int) l = true := hb
     clear hb
     have e : ledOk ⟨nx, l⟩ = false := by
      have e2 : (curBad 0 l || curBad 1 l || curBad 2 l) = true := by
       have : c = 0 ∨ c = 1 ∨ c = 2 := by omega
       rcases this with rfl | rfl | rfl
       ·rw [show curBad 0 l = true from hcc]; rfl
       ·rw [show curBad 1 l = true from hcc]; cases curBad 0 l <;> rfl
       ·rw [show curBad 2 l = true from hcc]; cases curBad 0 l <;> cases curBad 1 l <;> rfl
      simp only [ledOk, e2, Bool.not_true, Bool.and_false]
     refine pq fun K4 hK4 => ?_
     simp only [zzK, QR, QP, QQ, JB, zz6, QO, ↓Qb]
     refine kK hK4 [2] ?_
     refine JJ ?_
     simp only [zz6, QO, ↓Qb]
     simp only [QG]
     refine dnA ?_
     simp only [QD, QE, resA, JZ, QR, QP, JD, QQ, Qd, Qc, JP]
     rw [e]
    ·intro hb
     have hcc : curBad (c : Int) l = false := hb
     clear hb
     refine JI ?_
     simp only [zz6, QO, ↓Qb]
     refine kK hK2 [1, 5] ?_
     refine pz ?_
     simp only [zzK, QR, QP, QQ, JC, zz21, JM, zz26, JB, hwc, zz6, QO, ↓Qb]
     refine ⟨3 - (c + 1), _, by omega, le_SK id [] rfl (l' := [(1, .ptr 1 0 0), (5, .d (iv (((c + 1) : Nat) : Int)))]) (m' := [(1, (⟨True, 24, 2, true, false, 1, [[.d (iv nx), .d (.sl 4 (l.map legC))]]⟩ : ARow))]) ?_ ?_ ?_ ?_, (c + 1), by omega, fun k hk => by
      rcases Nat.lt_succ_iff_lt_or_eq.1 hk with hk | rfl
      ·exact hck k hk
      ·exact hcc, rfl, rfl⟩
     ·simp only [leV, JD, QQ, Qd, Qc, hwc]; exact ⟨vA, vA, trivial⟩
     ·exact ⟨fun _ => ⟨_, rfl, rA⟩, (by simp), trivial⟩
     ·simp [wfV, QY, QX, lookR, grow]
     ·exact ⟨by simp [QX, QY, lookR], trivial⟩
   ·intro hb
    obtain rfl : c = 3 := by have := Qf hb; omega
    clear hb
    have e : ledOk ⟨nx, l⟩ = true := by
     simp only [ledOk, hn, hk0, show curBad 0 l = false from hck 0 (by omega), show curBad 1 l = false from hck 1 (by omega), show curBad 2 l = false from hck 2 (by omega)]; rfl
    refine JK ?_
    simp only [zz6, QO, ↓Qb]
    refine kK hK0 [] ?_
    refine pq fun K0 hK0 => ?_
    simp only [zzK, QR, QP, QQ, JB, zz6, QO, ↓Qb]
    refine kK hK0 [2] ?_
    refine JJ ?_
    simp only [zz6, QO, ↓Qb]
    simp only [QG]
    refine dnA ?_
    simp only [QD, QE, resA, JZ, QR, QP, JD, QQ, Qd, Qc, JP]
    rw [e]
theorem rAll_ : ACalls Tryz.prog 93 [ints [1, 2, 3, 4, 5, 6]] [⟨73, 3, allAc.map acC⟩] (.ref 0 allAc.length) := by
 refine acalls_S (rs := [.tmp 2]) Tryz.func93 rfl rfl 51 [(0, .d (ints [1, 2, 3, 4, 5, 6]))] rfl (by simp) rfl ?_
 refine pq fun K0 hK0 => ?_
 simp only [zzK, QR, QP, QQ, JB, zz6, QO, ↓Qb]
 refine kK hK0 [0] ?_
 refine pq fun K0 hK0 => ?_
 simp only [zzK, QR, QP, QQ, JB, zz6, QO, ↓Qb]
 refine kK hK0 [0, 3] ?_
 refine JA fun K0 hK0 => ?_
 refine pq fun K1 hK1 => ?_
 simp only [zzK, QR, QP, QQ, JB, zz6, QO, ↓Qb]
 refine kK hK1 [0, 3, 4] ?_
 refine JH ?_
 refine JL (fun m s => ∃ k : Nat, k ≤ 6 ∧ m = 6 - k ∧ s = S 51 [(0, .d (ints [1, 2, 3, 4, 5, 6])), (3, .ref 3 (kL k).length), (4, .d (iv (k + 1 : Nat)))] [(3, grow 73 3 3 ((kL k).map acC))]) 6 _ (leK id [3] (hwr := by simp [wfR, grow, kL, QX, QY])) ⟨0, by omega, rfl, rfl⟩ ?_
 rintro m s ⟨k, hk6, rfl, rfl⟩
 refine JA fun K2 hK2 => ?_
 refine pq fun K3 hK3 => ?_
 simp only [zzK, QR, QP, QQ, JC, zz21, JM, b_leq, pure_leq, zz6, QO, ↓Qb]
 refine kK hK3 [0, 3, 4, 11] ?_
 refine cnA ?_ ?_
 ·intro hb
  have hk : k < 6 := by have := Qg hb; omega
  clear hb
  have hwk : Ql .i64 (((k + 1 : Nat) : Int) + 1) = ((k + 1 + 1 : Nat) : Int) := by rw [wrapI (by omega) (by omega)]; omega
  refine JI ?_
  simp only [zz6, QO, ↓Qb]
  refine kK hK2 [0, 3, 4] ?_
  refine JA fun K2 hK2 => ?_
  refine JH ?_
  refine pq fun K3 hK3 => ?_
  simp only [zzK, QR, QP, QQ, JB, zz6, QO, ↓Qb]
  refine kK hK3 [0, 3, 4, 5] ?_
  refine JA fun K3 hK3 => ?_
  refine pq fun K4 hK4 => ?_
  simp only [zzK, QR, QP, QQ, JB, zz6, QO, ↓Qb]
  refine kK hK4 [0, 3, 4, 5, 6] ?_
  refine JH ?_
  refine JL (fun m s => ∃ j : Nat, j ≤ 6 ∧ m = 6 - j ∧ s = S 51 [(0, .d (ints [1, 2, 3, 4, 5, 6])), (3, .ref 3 (kL k).length), (4, .d (iv (k + 1 : Nat))), (5, bv (decide (k + 1 ≤ j))), (6, .d (iv j))] [(3, grow 73 3 3 ((kL k).map acC))]) 6 _ (leK id [] (hl := by simp only [leV, JD, QQ, Qd, Qc, show decide (k + 1 ≤ 0) = false from decide_eq_false (by omega)]; exact ⟨Qn _, Qn _, Qn _, Qn _, Qn _, trivial⟩) (hr := by exact ⟨fun _ => ⟨_, rfl, Qw rfl⟩, (by simp), trivial⟩)) ⟨0, by omega, rfl, rfl⟩ ?_
  rintro m s ⟨j, hj6, rfl, rfl⟩
  refine JA fun K5 hK5 => ?_
  refine pq fun K6 hK6 => ?_
  simp only [zzK, QR, QP, QQ, JC, JE, zz12, F_sl30, Option.isSome_some, zz21, JM, zz22, ints, JN, zz6, QO, ↓Qb]
  refine kK hK6 [0, 3, 4, 5, 6, 17] ?_
  refine cnA ?_ ?_
  ·intro hb
   have hj : j < 6 := by
    have := Qg hb
    simp at this; omega
   clear hb
   have hwj : Ql .i64 ((j : Int) + 1) = ((j + 1 : Nat) : Int) := by rw [wrapI (by omega) (by omega)]; omega
   have hdj : (decide (k + 1 ≤ j) || ((j + 1 : Nat) : Int) == ((k + 1 : Nat) : Int)) = decide (k + 1 ≤ j + 1) := by
    rw [Bool.eq_iff_iff]; simp; omega
   have gj : (([1, 2, 3, 4, 5, 6] : List Int).map fun n => [iv n]).getD j [] = [iv ((j + 1 : Nat) : Int)] := by
    have : j = 0 ∨ j = 1 ∨ j = 2 ∨ j = 3 ∨ j = 4 ∨ j = 5 := by omega
    rcases this with rfl | rfl | rfl | rfl | rfl | rfl <;> rfl
   have bj : ((j : Int) < ((([1, 2, 3, 4, 5, 6] : List Int).map fun n => [iv n]).length : Int)) = True := by simp; omega
   refine JI ?_
   simp only [zz6, QO, ↓Qb]
   refine kK hK5 [0, 3, 4, 5, 6] ?_
   refine JA fun K5 hK5 => ?_
   refine JH ?_
   refine Qz F_mixed [some 20, some 21, some 22, some 23, some 24, some 25, some 26, some 27, some 28, some 5] rfl ?_
   simp only [zzK, QR, QP, QQ, QU, JZ, zz5, Qj, Qi, Qh, JC, JW, zz23, zz24, F_sl30, F_sz3, QA, zzC, yyE, Qe, F_ok3, F_ag3, zz8, zzD, QS, QN, zzH, zz21, JM, zz34, zz13, JQ, JR, JB, ints, gj, bj, ge0, QV, hdj, zz6, QO, ↓Qb]
   refine kK hK5 [0, 3, 4, 5, 6] ?_
   refine pz ?_
   simp only [zzK, QR, QP, QQ, JC, zz21, JM, zz26, JB, hwj, zz6, QO, ↓Qb]
   refine ⟨6 - (j + 1), _, by omega, leK id [] (hl := by simp only [leV, JD, QQ, Qd, Qc, hwj, QP]; exact ⟨Qn _, Qn _, Qn _, Qn _, Qn _, trivial⟩) (hr := by exact ⟨fun _ => ⟨_, rfl, Qw rfl⟩, (by simp), trivial⟩), j + 1, by omega, rfl, rfl⟩
  ·intro hb
   obtain rfl : j = 6 := by
    have := Qf hb
    simp at this; omega
   clear hb
   have hd6 : decide (k + 1 ≤ 6) = true := decide_eq_true (by omega)
   refine JK ?_
   simp only [zz6, QO, ↓Qb]
   refine kK hK3 [0, 3, 4, 5] ?_
   refine JA fun K3 hK3 => ?_
   simp only [hd6]
   refine pz ?_
   simp only [zzK, QR, QP, QQ, JB, zz6, QO, ↓Qb]
   refine kK hK3 [0, 3, 4, 5, 7] ?_
   refine JH ?_
   refine JL (fun m s => ∃ w : Nat, w ≤ 17 ∧ m = 17 - w ∧ s = S 51 [(0, .d (ints [1, 2, 3, 4, 5, 6])), (3, .ref 3 ((kL k ++ wL (k + 1) w)).length), (4, .d (iv (k + 1 : Nat))), (5, bv true), (7, .d (iv w))] [(3, grow 73 3 3 (((kL k ++ wL (k + 1) w)).map acC))]) 17 _ (leK id [] (hl := by simp only [leV, JD, QQ, Qd, Qc, show kL k ++ wL (k + 1) 0 = kL k by simp [wL]]; exact ⟨Qn _, Qn _, Qn _, Qn _, Qn _, trivial⟩) (hr := by exact ⟨fun _ => ⟨_, rfl, Qw (by simp [wL])⟩, (by simp), trivial⟩)) ⟨0, by omega, rfl, rfl⟩ ?_
   rintro m s ⟨w, hw17, rfl, rfl⟩
   refine JA fun K4 hK4 => ?_
   refine JA fun K5 hK5 => ?_
   refine Qz F_mixed [some 29, some 30, some 31, some 32, some 33] rfl ?_
   simp only [zzK, QR, QP, QQ, QU, JZ, zz5, Qj, Qi, Qh, and_self, JC, zz21, JM, b_leq, pure_leq, zz13, JQ, JR, zz6, QO, ↓Qb]
   refine kK hK5 [0, 3, 4, 5, 7, 33] ?_
   refine cnA ?_ ?_
   ·intro hb
    have hw : w < 17 := by
     have : decide ((w : Int) ≤ 16) = true := by simpa using hb
     have := Qg this; omega
    clear hb
    have hww : Ql .i64 ((w : Int) + 1) = ((w + 1 : Nat) : Int) := by rw [wrapI (by omega) (by omega)]; omega
    refine JI ?_
    simp only [zz6, QO, ↓Qb]
    refine kK hK4 [0, 3, 4, 5, 7] ?_
    refine JA fun K4 hK4 => ?_
    refine JH ?_
    refine pq fun K5 hK5 => ?_
    simp only [zzK, QR, QP, QQ, JB, zz6, QO, ↓Qb]
    refine kK hK5 [0, 3, 4, 5, 7, 8] ?_
    refine JH ?_
    refine JL (fun m s => ∃ c : Nat, c ≤ 3 ∧ m = 3 - c ∧ s = S 51 [(0, .d (ints [1, 2, 3, 4, 5, 6])), (3, .ref 3 ((kL k ++ wL (k + 1) w ++ cL (k + 1) w c)).length), (4, .d (iv (k + 1 : Nat))), (5, bv true), (7, .d (iv w)), (8, .d (iv c))] [(3, grow 73 3 3 (((kL k ++ wL (k + 1) w ++ cL (k + 1) w c)).map acC))]) 3 _ (leK id [] (hl := by simp only [leV, JD, QQ, Qd, Qc, show kL k ++ wL (k + 1) w ++ cL (k + 1) w 0 = kL k ++ wL (k + 1) w by simp [cL]]; exact ⟨Qn _, Qn _, Qn _, Qn _, Qn _, Qn _, trivial⟩) (hr := by exact ⟨fun _ => ⟨_, rfl, Qw (by simp [cL])⟩, (by simp), trivial⟩)) ⟨0, by omega, rfl, rfl⟩ ?_
    rintro m s ⟨c, hc3, rfl, rfl⟩
    have n1 := kL_len k
    have n2 := wL_len (k + 1) w
    have n3 := cL_len (k + 1) w c
    refine JA fun K6 hK6 => ?_
    refine pq fun K7 hK7 => ?_
    simp only [zzK, QR, QP, QQ, JC, zz21, JM, zz22, zz6, QO, ↓Qb]
    refine kK hK7 [0, 3, 4, 5, 7, 8, 37] ?_
    refine cnA ?_ ?_
    ·intro hb
     have hc : c < 3 := by have := Qg hb; omega
     clear hb
     have hwc : Ql .i64 ((c : Int) + 1) = ((c + 1 : Nat) : Int) := by rw [wrapI (by omega) (by omega)]; omega
     refine JI ?_
     simp only [zz6, QO, ↓Qb]
     refine kK hK6 [0, 3, 4, 5, 7, 8] ?_
     refine JA fun K6 hK6 => ?_
     refine JH ?_
     refine pq fun K7 hK7 => ?_
     simp only [zzK, QR, QP, QQ, JC, F_zero73, F_bld73, zz7, splice, Option.getD_some, QG, zz1, zzG, zzD, zzC, QA, yyE, Qe, QS, QN, zzH, zz10, F_fld73_0, F_fld73_1, F_fld73_2, zz32, JS, zz18, F_ok73, F_sz73, zz6, QO, ↓Qb]
     refine kK hK7 [0, 3, 4, 5, 7, 8, 9] ?_
     refine pq fun K7 hK7 => ?_
     simp only [zzK, QR, QP, QQ, F_ok73, F_ag73, F_sz73, zz8, zz23, zzD, QS, QN, zzH, zzC, QA, yyE, Qe, JE, JF, acC, QW, zz6, QO, ↓Qb]
     refine cgA F_go61 (fun hG => rAcRight_ ⟨((k + 1 : Nat) : Int), (w : Int), (c : Int)⟩) ?_
     simp only [zzK, QR, QP, QQ, F_ok73, F_ag73, F_sz73, zz8, zz23, zzD, QS, QN, zzH, zzC, QA, yyE, Qe, JE, JF, acC, QW, zz6, QO, ↓Qb, atsL, oksG, JV, QZ, Qa, JO, Qm, QT, QS, zz9, QB, QA, S_mem, yyF, QF, zz2]
     refine kK hK7 [0, 3, 4, 5, 7, 8, 9, 45] ?_
     refine cnA ?_ ?_
     ·intro hb
      have hok : acOk ⟨((k + 1 : Nat) : Int), (w : Int), (c : Int)⟩ = true := hb
      clear hb
      have hcx : kL k ++ wL (k + 1) w ++ cL (k + 1) w (c + 1) = (kL k ++ wL (k + 1) w ++ cL (k + 1) w c) ++ [(⟨((k + 1 : Nat) : Int), (w : Int), (c : Int)⟩ : AcV)] := by rw [cL_succ, oneA, hok]; simp
      have hcl : (kL k ++ wL (k + 1) w ++ cL (k + 1) w (c + 1)).length = (kL k ++ wL (k + 1) w ++ cL (k + 1) w c).length + 1 := by rw [hcx]; simp only [QC, QM]
      have hm : (kL k ++ wL (k + 1) w ++ cL (k + 1) w c).length + 1 ≤ 1000000 := by simp only [QC]; omega
      refine pz ?_
      simp only [zzK, QR, QP, QQ, JC, F_ok73, F_ag73, F_sz73, zz8, zz23, zzD, QS, QN, zzH, zzC, QA, yyE, Qe, F_sl130, F_zero73, zz3, JS, zz1, zzG, maxLen_le, QT, JE, F_by73, zz4, zz9, QB, JB, grow, QW, unDs_map, zz6, QO, ↓Qb]
      first | refine ⟨le_maxLen hm, by omega, ?_⟩ | refine ⟨by simp, le_maxLen hm, by omega, ?_⟩
      clear hm
      refine kK hK6 [0, 3, 4, 5, 7, 8] ?_
      refine pz ?_
      simp only [zzK, QR, QP, QQ, JC, zz21, JM, zz26, JB, hwc, zz6, QO, ↓Qb]
      refine ⟨3 - (c + 1), _, by omega, le_SK (fun r => bif r == 3 then 49 else r) [] rfl (l' := [(0, .d (ints [1, 2, 3, 4, 5, 6])), (3, .ref 3 (kL k ++ wL (k + 1) w ++ cL (k + 1) w (c + 1)).length), (4, .d (iv (k + 1 : Nat))), (5, bv true), (7, .d (iv w)), (8, .d (iv ((c + 1 : Nat) : Int)))]) (m' := [(3, grow 73 3 3 ((kL k ++ wL (k + 1) w ++ cL (k + 1) w (c + 1)).map acC))]) ?_ ?_ ?_ ?_, c + 1, by omega, rfl, rfl⟩
      ·simp only [leV, JD, QQ, Qd, Qc, hwc]
       refine ⟨Qo rfl, ?_, Qo rfl, Qo rfl, Qo rfl, Qo rfl, trivial⟩
       rw [hcl]; exact VLe.ref_ (f := (fun r => bif r == 3 then 49 else r)) (r := 3) (by simp)
      ·exact ⟨fun _ => ⟨_, rfl, Qw (by rw [hcx] <;> simp [acC])⟩, (by simp), trivial⟩
      ·simp [wfV, QY, lookR, grow]
      ·exact ⟨wf_data _ _, trivial⟩
     ·intro hb
      have hok : acOk ⟨((k + 1 : Nat) : Int), (w : Int), (c : Int)⟩ = false := hb
      clear hb
      have hcx : kL k ++ wL (k + 1) w ++ cL (k + 1) w (c + 1) = kL k ++ wL (k + 1) w ++ cL (k + 1) w c := by rw [cL_succ, oneA, hok]; simp
      have hcl : (kL k ++ wL (k + 1) w ++ cL (k + 1) w (c + 1)).length = (kL k ++ wL (k + 1) w ++ cL (k + 1) w c).length := by rw [hcx]
      refine JI ?_
      simp only [zz6, QO, ↓Qb]
      refine kK hK6 [0, 3, 4, 5, 7, 8] ?_
      refine pz ?_
      simp only [zzK, QR, QP, QQ, JC, zz21, JM, zz26, JB, hwc, zz6, QO, ↓Qb]
      refine ⟨3 - (c + 1), _, by omega, le_SK (fun r => bif r == 3 then 3 else r) [] rfl (l' := [(0, .d (ints [1, 2, 3, 4, 5, 6])), (3, .ref 3 (kL k ++ wL (k + 1) w ++ cL (k + 1) w (c + 1)).length), (4, .d (iv (k + 1 : Nat))), (5, bv true), (7, .d (iv w)), (8, .d (iv ((c + 1 : Nat) : Int)))]) (m' := [(3, grow 73 3 3 ((kL k ++ wL (k + 1) w ++ cL (k + 1) w (c + 1)).map acC))]) ?_ ?_ ?_ ?_, c + 1, by omega, rfl, rfl⟩
      ·simp only [leV, JD, QQ, Qd, Qc, hwc]
       refine ⟨Qo rfl, ?_, Qo rfl, Qo rfl, Qo rfl, Qo rfl, trivial⟩
       rw [hcl]; exact VLe.ref_ (f := (fun r => bif r == 3 then 3 else r)) (r := 3) (by simp)
      ·exact ⟨fun _ => ⟨_, rfl, Qw (by rw [hcx] <;> simp [acC])⟩, (by simp), trivial⟩
      ·simp [wfV, QY, lookR, grow]
      ·exact ⟨wf_data _ _, trivial⟩
    ·intro hb
     obtain rfl : c = 3 := by have := Qf hb; omega
     clear hb
     refine JK ?_
     simp only [zz6, QO, ↓Qb]
     refine kK hK4 [0, 3, 4, 5, 7] ?_
     refine pz ?_
     simp only [zzK, QR, QP, QQ, JC, zz21, JM, zz26, JB, hww, zz6, QO, ↓Qb]
     refine ⟨17 - (w + 1), _, by omega, leK id [] (hl := by simp only [leV, JD, QQ, Qd, Qc, hww, wL_succ, List.append_assoc]; exact ⟨Qn _, Qn _, Qn _, Qn _, Qn _, trivial⟩) (hr := by exact ⟨fun _ => ⟨_, rfl, Qw (by rw [wL_succ, List.append_assoc])⟩, (by simp), trivial⟩), w + 1, by omega, rfl, rfl⟩
   ·intro hb
    obtain rfl : w = 17 := by
     have : decide ((w : Int) ≤ 16) = false := by simpa using hb
     have := Qf this; omega
    clear hb
    refine JK ?_
    simp only [zz6, QO, ↓Qb]
    refine kK hK2 [0, 3, 4] ?_
    refine pz ?_
    simp only [zzK, QR, QP, QQ, JC, zz21, JM, zz26, JB, hwk, zz6, QO, ↓Qb]
    refine ⟨6 - (k + 1), _, by omega, leK id [] (hl := by simp only [leV, JD, QQ, Qd, Qc, hwk, kL_succ]; exact ⟨Qo rfl, Qn _, Qo rfl, trivial⟩) (hr := by exact ⟨fun _ => ⟨_, rfl, Qw (by rw [kL_succ])⟩, (by simp), trivial⟩), k + 1, by omega, rfl, rfl⟩
 ·intro hb
  obtain rfl : k = 6 := by have := Qf hb; omega
  clear hb
  refine JK ?_
  simp only [zz6, QO, ↓Qb]
  refine kK hK0 [3] ?_
  refine pq fun K0 hK0 => ?_
  simp only [zzK, QR, QP, QQ, JC, JB, zz6, QO, ↓Qb]
  refine kK hK0 [2] ?_
  refine JJ ?_
  simp only [zz6, QO, ↓Qb]
  refine done1 3 (by simp only [resCs, resC]; trivial) ?_ (by simp [Ja, Jb, Jc, acC]) (by simp [QY, QX, acC]) (by rfl) trivial rfl rfl ?_ (by simp [flatDs, Jc, acC])
  ·simp only [QD, QE, resA, JZ, QR, QP, JD, QQ, Qd, Qc, JP]; rfl
  ·rfl
def acs (l : List AcV) : D := .sl 3 (l.map acC)
theorem rAllF : ACalls Tryz.prog 93 [ints [1, 2, 3, 4, 5, 6]] [] (.d (acs allAc)) := rAll_.freeze (by simp [frzOk])
set_option maxRecDepth 100000 in
set_option maxHeartbeats 4000000 in
theorem rJoin_ (l : List LegV) (hl : l.length ≤ 1000000) : ACalls Tryz.prog 48 [legs l] [⟨75, 4, (joinV l).map legC⟩] (.tp [.ref 0 (joinV l).length, .d (iv (joinR l))]) := by
 refine acalls_S (rs := [.tmp 2, .tmp 3]) Tryz.func48 rfl rfl 65 [(0, .d (legs l))] rfl (by simp) rfl ?_
 refine pq fun K0 hK0 => ?_
 simp only [zzK, QR, QP, QQ, JB, zz6, QO, ↓Qb]
 refine kK hK0 [0] ?_
 refine JA fun K0 hK0 => ?_
 refine pq fun K1 hK1 => ?_
 simp only [zzK, QR, QP, QQ, JC, JE, JF, zz29, JM, zz30, legs, zz6, QO, ↓Qb]
 refine cgA F_go92 (fun hG => rMay_ l hl) ?_
 simp only [zzK, QR, QP, QQ, JC, JE, JF, zz29, JM, zz30, legs, zz6, QO, ↓Qb, atsL, oksG, JV, QZ, Qa, JO, Qm, QT, QS, zz9, QB, QA, zzC, yyF, zzD, zz2]
 refine kK hK1 [0, 13] ?_
 refine cnA ?_ ?_
 ·intro hb
  have hok : l.all legOk = false := by simpa using hb
  clear hb
  have hjr : joinR l = 3 := by simp only [joinR, hok, Qc]
  have hjv : joinV l = [] := by simp only [joinV, hjr]; rfl
  refine pq fun K2 hK2 => ?_
  simp only [zzK, QR, QP, QQ, JB, zz6, QO, ↓Qb]
  refine kK hK2 [2, 3] ?_
  refine awp_le (leK id [0] (l' := [(2, .ref 0 0), (3, .d (iv 3))]) (m' := [(0, (⟨True, 75, 4, true, true, 0, []⟩ : ARow))])) ?_
  refine JJ ?_
  simp only [zz6, QO, ↓Qb]
  rw [hjv, hjr]
  refine done1 0 (by simp only [resCs, resC]; trivial) ?_ (by simp [Ja, Jb, Jc]) (by simp [QY, QX]) (by rfl) trivial rfl rfl ?_ (by simp [flatDs, Jc])
  ·simp only [QD, QE, resA, JZ, QR, QP, JD, QQ, Qd, Qc, JP]; rfl
  ·rfl
 ·intro hb
  have hok : l.all legOk = true := by simpa using hb
  clear hb
  have hla : allAc.length ≤ 306 := kL_len 6
  refine JI ?_
  simp only [zz6, QO, ↓Qb]
  refine kK hK0 [0] ?_
  refine pq fun K0 hK0 => ?_
  simp only [zzK, QR, QP, QQ, JB, zz6, QO, ↓Qb]
  refine kK hK0 [0, 4] ?_
  refine pq fun K0 hK0 => ?_
  simp only [zzK, QR, QP, QQ, F_sl30, F_zero3, F_sz3, zz3, JS, zz1, zzG, zzD, zzC, QA, yyE, Qe, QS, QN, zzH, maxLen_le, QT, JE, JF, JB, ints, QD, D.sl.injEq, zz6, QO, ↓Qb]
  refine cgA F_go93 (fun hG => rAllF) ?_
  simp only [zzK, QR, QP, QQ, F_sl30, F_zero3, F_sz3, zz3, JS, zz1, zzG, zzD, zzC, QA, yyE, Qe, QS, QN, zzH, maxLen_le, QT, JE, JF, JB, ints, QD, zz6, QO, ↓Qb, atsL, oksG, JV, QZ, Qa, JO, Qm, QT, QS, zz9, QB, QA, S_mem, yyF, QF, zz2]
  refine kK hK0 [0, 4, 5] ?_
  refine JA fun K0 hK0 => ?_
  refine pq fun K1 hK1 => ?_
  simp only [zzK, QR, QP, QQ, JB, zz6, QO, ↓Qb]
  refine kK hK1 [0, 4, 5, 6] ?_
  refine JH ?_
  refine JL (fun m s => ∃ A B : List AcV, allAc = A ++ B ∧ (∀ a ∈ A, rightN (sumA a l) = true) ∧ m = B.length ∧ s = S 65 [(0, .d (legs l)), (4, .ref 4 (rOut l A).length), (5, .d (acs allAc)), (6, .d (iv (A).length))] [(4, grow 75 4 4 ((rOut l A).map legC))]) allAc.length _ (leK id [4] (hl := by simp only [leV, JD, QQ, Qd, Qc, legs]; exact ⟨Qo rfl, Qq (by decide), Qo rfl, Qo rfl, trivial⟩) (hwr := by simp [wfR, grow, rOut, QX, QY])) ⟨[], allAc, rfl, by simp, rfl, rfl⟩ ?_
  rintro m s ⟨A, B, hAB, hra, rfl, rfl⟩
  have hABl := congrArg List.length hAB
  simp only [QC] at hABl
  have hrl := rOut_len l A
  refine JA fun K2 hK2 => ?_
  refine pq fun K3 hK3 => ?_
  simp only [zzK, QR, QP, QQ, JC, JE, zz12, F_sl130, Option.isSome_some, zz21, JM, zz22, acs, JN, zz6, QO, ↓Qb]
  refine kK hK3 [0, 4, 5, 6, 19] ?_
  refine cnA ?_ ?_
  ·intro hb
   obtain ⟨a, B, rfl⟩ : ∃ x t, B = x :: t := by
    cases B with
    | nil => have := Qg hb; simp at hABl; omega
    | cons x t => exact ⟨x, t, rfl⟩
   clear hb
   simp only [QF] at hABl
   have ga : (allAc.map acC).getD A.length [] = [iv a.kind, iv a.who, iv a.cur] := by
    rw [hAB, List.map_append]; exact gd_mid' (A := A.map acC) _ _ (by simp)
   have ba := ltI (show A.length < allAc.length by omega)
   have hwa : Ql .i64 ((A.length : Int) + 1) = ((A.length + 1 : Nat) : Int) := by rw [wrapI (by omega) (by omega)]; omega
   have haA : a ∈ allAc := by rw [hAB]; simp
   refine JI ?_
   simp only [zz6, QO, ↓Qb]
   refine kK hK2 [0, 4, 5, 6] ?_
   refine JA fun K2 hK2 => ?_
   refine JH ?_
   refine pq fun K3 hK3 => ?_
   simp only [zzK, QR, QP, QQ, JB, zz6, QO, ↓Qb]
   refine kK hK3 [0, 4, 5, 6, 7] ?_
   refine JA fun K3 hK3 => ?_
   refine pq fun K4 hK4 => ?_
   simp only [zzK, QR, QP, QQ, JB, zz6, QO, ↓Qb]
   refine kK hK4 [0, 4, 5, 6, 7, 8] ?_
   refine JH ?_
   refine JL (fun m s => ∃ pre post : List LegV, l = pre ++ post ∧ m = post.length ∧ s = S 65 [(0, .d (legs l)), (4, .ref 4 (rOut l A).length), (5, .d (acs allAc)), (6, .d (iv A.length)), (7, .ref 7 (amtA a pre).length), (8, .d (iv (pre).length))] [(4, grow 75 4 4 ((rOut l A).map legC)), (7, grow 3 1 7 ((amtA a pre).map fun n => [iv n]))]) l.length _ (leK id [7] (hl := by simp only [leV, JD, QQ, Qd, Qc, legs, acs]; exact ⟨Qo rfl, VLe.ref_ (f := id) (r := 4) (by simp), Qo rfl, Qo rfl, Qq (by decide), Qo rfl, trivial⟩) (hr := by exact ⟨fun _ => ⟨_, rfl, Qw rfl⟩, (by simp), (by simp), fun _ => rfl, trivial⟩) (hwr := by exact ⟨wf_data _ _, by simp [grow, amtA, amts], trivial⟩)) ⟨[], l, rfl, rfl, rfl⟩ ?_
   rintro m s ⟨pre, post, hsp, rfl, rfl⟩
   have hspl := congrArg List.length hsp
   simp only [QC] at hspl
   refine JA fun K5 hK5 => ?_
   refine pq fun K6 hK6 => ?_
   simp only [zzK, QR, QP, QQ, JC, JE, zz12, F_sl41, Option.isSome_some, zz21, JM, zz22, legs, JN, zz6, QO, ↓Qb]
   refine kK hK6 [0, 4, 5, 6, 7, 8, 25] ?_
   refine cnA ?_ ?_
   ·intro hb
    obtain ⟨x, post, rfl⟩ : ∃ x t, post = x :: t := by
     cases post with
     | nil => have := Qg hb; simp at hspl; omega
     | cons x t => exact ⟨x, t, rfl⟩
    clear hb
    simp only [QF] at hspl
    have gx : (l.map legC).getD pre.length [] = [iv x.ac.kind, iv x.ac.who, iv x.ac.cur, iv x.amt] := by
     rw [hsp, List.map_append]; exact gd_mid' (A := pre.map legC) _ _ (by simp)
    have b1 := ltI (show pre.length < l.length by omega)
    have hwi : Ql .i64 ((pre.length : Int) + 1) = ((pre.length + 1 : Nat) : Int) := by rw [wrapI (by omega) (by omega)]; omega
    have hcf : (amtA a pre).length ≤ pre.length := by simp only [amtA, amts, List.length_map]; exact List.length_filter_le _ _
    refine JI ?_
    simp only [zz6, QO, ↓Qb]
    refine kK hK5 [0, 4, 5, 6, 7, 8] ?_
    refine JA fun K5 hK5 => ?_
    refine JH ?_
    refine JA fun K6 hK6 => ?_
    refine awp_draw F_mixed [some 28, some 29, some 30, some 31, some 32, some 33, some 34, some 35, some 36, some 37] rfl (by kernel_rfl) ?_
    simp only [zzK, QR, QP, QQ, JC, JW, zz23, zz24, F_sl41, F_sz75, QA, zzC, yyE, Qe, zz19, F_off75_0, zzH, QN, QS, F_ok73, F_ag73, F_sz73, zz8, zzD, F_sl130, JE, JF, legs, acs, acC, JN, gx, b1, ga, ba, ge0, QV, QW, zz6, QO, ↓Qb]
    refine cgA F_go91 (fun hG => rSame_ x.ac a) ?_
    simp only [zzK, QR, QP, QQ, JC, JW, zz23, zz24, F_sl41, F_sz75, QA, zzC, yyE, Qe, zz19, F_off75_0, zzH, QN, QS, F_ok73, F_ag73, F_sz73, zz8, zzD, F_sl130, JE, JF, legs, acs, acC, JN, gx, b1, ga, ba, ge0, QV, QW, zz6, QO, ↓Qb, atsL, oksG, JV, QZ, Qa, JO, Qm, QT, QS, zz9, QB, QA, S_mem, yyF, QF, zz2]
    refine kK hK6 [0, 4, 5, 6, 7, 8, 37] ?_
    refine cnA ?_ ?_
    ·intro hb
     have hcq : acSame x.ac a = true := hb
     clear hb
     have hcx : amtA a (pre ++ [x]) = amtA a pre ++ [x.amt] := by simp only [amtA, amts, List.filter_append, List.filter_cons, hcq, List.filter_nil, if_true, List.map_append, QD, QE]
     refine pz ?_
     simp only [zzK, QR, QP, QQ, JC, JW, zz23, zz24, F_sl41, F_sz75, QA, zzC, yyE, Qe, zz19, F_off75_1, zzH, QN, QS, F_ok3, F_ag3, F_sz3, zz8, zzD, F_sl30, F_zero3, zz3, JS, zz1, zzG, maxLen_le, QT, JE, F_by3, zz4, zz9, QB, JB, legs, JN, gx, b1, ge0, QV, QW, grow, unDs_map, zz6, QO, ↓Qb]
     have hm : (amtA a pre).length + 1 ≤ 1000000 := by omega
     first | refine ⟨le_maxLen hm, by omega, ?_⟩ | refine ⟨by simp [amtA, amts], le_maxLen hm, by omega, ?_⟩
     clear hm
     refine kK hK5 [0, 4, 5, 6, 7, 8] ?_
     refine pz ?_
     simp only [zzK, QR, QP, QQ, JC, zz21, JM, zz26, JB, hwi, zz6, QO, ↓Qb]
     refine ⟨post.length, _, by simp, le_SK (fun r => bif r == 7 then 45 else r) [] rfl (l' := [(0, .d (legs l)), (4, .ref 4 (rOut l A).length), (5, .d (acs allAc)), (6, .d (iv A.length)), (7, .ref 7 (amtA a (pre ++ [x])).length), (8, .d (iv ((pre ++ [x])).length))]) (m' := [(4, grow 75 4 4 ((rOut l A).map legC)), (7, grow 3 1 7 ((amtA a (pre ++ [x])).map fun n => [iv n]))]) ?_ ?_ ?_ ?_, pre ++ [x], post, by rw [hsp]; simp, rfl, rfl⟩
     ·simp only [leV, JD, QQ, Qd, Qc, hwi, hcx, QC, QM]
      refine ⟨Qo rfl, ?_, Qo rfl, Qo rfl, ?_, Qo rfl, trivial⟩
      ·exact VLe.ref_ (f := (fun r => bif r == 7 then 45 else r)) (r := 4) (by simp)
      ·exact VLe.ref_ (f := (fun r => bif r == 7 then 45 else r)) (r := 7) (by simp)
     ·exact ⟨fun _ => ⟨_, rfl, Qw rfl⟩, (by simp), fun _ => ⟨_, rfl, Qw (by rw [hcx] <;> simp)⟩, (by simp), trivial⟩
     ·simp [wfV, QY, lookR, grow]
     ·exact ⟨wf_data _ _, wf_data _ _, trivial⟩
    ·intro hb
     have hcq : acSame x.ac a = false := hb
     clear hb
     have hcx : amtA a (pre ++ [x]) = amtA a pre := by simp only [amtA, amts, List.filter_append, List.filter_cons, hcq, List.filter_nil, Bool.false_eq_true, if_false, QG]
     refine JI ?_
     simp only [zz6, QO, ↓Qb]
     refine kK hK5 [0, 4, 5, 6, 7, 8] ?_
     refine pz ?_
     simp only [zzK, QR, QP, QQ, JC, zz21, JM, zz26, JB, hwi, zz6, QO, ↓Qb]
     refine ⟨post.length, _, by simp, le_SK (fun r => bif r == 7 then 7 else r) [] rfl (l' := [(0, .d (legs l)), (4, .ref 4 (rOut l A).length), (5, .d (acs allAc)), (6, .d (iv A.length)), (7, .ref 7 (amtA a (pre ++ [x])).length), (8, .d (iv ((pre ++ [x])).length))]) (m' := [(4, grow 75 4 4 ((rOut l A).map legC)), (7, grow 3 1 7 ((amtA a (pre ++ [x])).map fun n => [iv n]))]) ?_ ?_ ?_ ?_, pre ++ [x], post, by rw [hsp]; simp, rfl, rfl⟩
     ·simp only [leV, JD, QQ, Qd, Qc, hwi, hcx, QC, QM]
      refine ⟨Qo rfl, ?_, Qo rfl, Qo rfl, ?_, Qo rfl, trivial⟩
      ·exact VLe.ref_ (f := (fun r => bif r == 7 then 7 else r)) (r := 4) (by simp)
      ·exact VLe.ref_ (f := (fun r => bif r == 7 then 7 else r)) (r := 7) (by simp)
     ·exact ⟨fun _ => ⟨_, rfl, Qw rfl⟩, (by simp), fun _ => ⟨_, rfl, Qw (by rw [hcx] <;> simp)⟩, (by simp), trivial⟩
     ·simp [wfV, QY, lookR, grow]
     ·exact ⟨wf_data _ _, wf_data _ _, trivial⟩
   ·intro hb
    obtain rfl : post = [] := by
     cases post with
     | nil => rfl
     | cons x t => have := Qf hb; simp at hspl; omega
    clear hb
    simp only [QG] at hsp
    obtain rfl : l = pre := hsp
    have hcf : (amtA a l).length ≤ l.length := by simp only [amtA, amts, List.length_map]; exact List.length_filter_le _ _
    have hrt : (amtA a l).all rightN = true := amts_rt fun y hy => ok_rt hok y (List.mem_filter.1 hy).1
    refine JK ?_
    simp only [zz6, QO, ↓Qb]
    refine kK hK3 [0, 4, 5, 6, 7] ?_
    refine pq fun K3 hK3 => ?_
    simp only [zzK, QR, QP, QQ, JC, JE, JF, zz14, zzD, QS, QN, zzF, JB, ints, grow, D.sl.injEq, JN, amtA_sum, zz6, QO, ↓Qb]
    refine cgA F_go33 (fun hG => Add_ (amtA a l) (by omega) (rt_bound hrt)) ?_
    simp only [zzK, QR, QP, QQ, JC, JE, JF, zz14, zzD, QS, QN, zzF, JB, ints, grow, JN, amtA_sum, zz6, QO, ↓Qb, atsL, oksG, JV, QZ, Qa, JO, Qm, QT, QS, zz9, QB, QA, zzC, yyF, QF, zz2]
    first | refine ⟨by simp, ?_⟩ | skip
    refine kK hK3 [0, 4, 5, 6, 9, 10] ?_
    refine JA fun K3 hK3 => ?_
    refine pq fun K4 hK4 => ?_
    simp only [zzK, QR, QP, QQ, JC, zz29, JM, zz30, zz6, QO, ↓Qb]
    refine kK hK4 [0, 4, 5, 6, 9, 52] ?_
    refine cnA ?_ ?_
    ·intro hb
     have hbad : rightN (sumA a l) = false := by simpa using hb
     clear hb
     have hrb := ref_bad hok haA hbad
     refine pq fun K5 hK5 => ?_
     simp only [zzK, QR, QP, QQ, JB, zz6, QO, ↓Qb]
     refine kK hK5 [2, 3] ?_
     refine awp_le (leK id [0] (l' := [(2, .ref 0 0), (3, .d (iv 1))]) (m' := [(0, (⟨True, 75, 4, true, true, 0, []⟩ : ARow))])) ?_
     refine JJ ?_
     simp only [zz6, QO, ↓Qb]
     rw [hrb.1, hrb.2]
     refine done1 0 (by simp only [resCs, resC]; trivial) ?_ (by simp [Ja, Jb, Jc]) (by simp [QY, QX]) (by rfl) trivial rfl rfl ?_ (by simp [flatDs, Jc])
     ·simp only [QD, QE, resA, JZ, QR, QP, JD, QQ, Qd, Qc, JP]; rfl
     ·rfl
    ·intro hb
     have hgood : rightN (sumA a l) = true := by simpa using hb
     clear hb
     have hra2 : ∀ b ∈ A ++ [a], rightN (sumA b l) = true := fun b hb => by
      rcases List.mem_append.1 hb with hb | hb
      ·exact hra b hb
      ·obtain rfl : b = a := by simpa using hb
       exact hgood
     simp only [hgood, Qd]
     refine JI ?_
     simp only [zz6, QO, ↓Qb]
     refine kK hK3 [0, 4, 5, 6, 9] ?_
     refine pq fun K3 hK3 => ?_
     simp only [zzK, QR, QP, QQ, JC, zz21, JM, zz28, zz6, QO, ↓Qb]
     refine kK hK3 [0, 4, 5, 6, 9, 54] ?_
     refine cnA ?_ ?_
     ·intro hb
      have hro : rOut l (A ++ [a]) = rOut l A ++ [(⟨a, sumA a l⟩ : LegV)] := by rw [rOut_snoc, rOne, show (sumA a l != 0) = true from hb]; rfl
      clear hb
      refine pz ?_
      simp only [zzK, QR, QP, QQ, JC, JW, zz23, zz24, F_sl130, F_sz73, QA, zzC, yyE, Qe, F_ok73, F_ag73, zz8, zzD, QS, QN, zzH, F_zero75, F_bld75, zz7, splice, Option.getD_some, QG, zz1, zzG, zz10, F_fld75_0, F_fld75_1, F_sl41, F_sz75, zz3, JS, maxLen_le, QT, JE, F_by75, zz4, zz9, QB, JB, acs, acC, JN, ga, ba, ge0, QV, QW, grow, unDs_map, zz6, QO, ↓Qb]
      have hm : (rOut l A).length + 1 ≤ 1000000 := by omega
      first | refine ⟨le_maxLen hm, by omega, ?_⟩ | refine ⟨by simp, le_maxLen hm, by omega, ?_⟩
      clear hm
      refine kK hK2 [0, 4, 5, 6] ?_
      refine pz ?_
      simp only [zzK, QR, QP, QQ, JC, zz21, JM, zz26, JB, hwa, zz6, QO, ↓Qb]
      refine ⟨B.length, _, by simp, le_SK (fun r => bif r == 4 then 63 else r) [] rfl (l' := [(0, .d (legs l)), (4, .ref 4 (rOut l (A ++ [a])).length), (5, .d (acs allAc)), (6, .d (iv ((A ++ [a])).length))]) (m' := [(4, grow 75 4 4 ((rOut l (A ++ [a])).map legC))]) ?_ ?_ ?_ ?_, A ++ [a], B, by rw [hAB]; simp, hra2, rfl, rfl⟩
      ·simp only [leV, JD, QQ, Qd, Qc, hwa, hro, QC, QM]
       refine ⟨Qo rfl, ?_, Qo rfl, Qo rfl, trivial⟩
       exact VLe.ref_ (f := (fun r => bif r == 4 then 63 else r)) (r := 4) (by simp)
      ·exact ⟨fun _ => ⟨_, rfl, Qw (by rw [hro] <;> simp [legC])⟩, (by simp), trivial⟩
      ·simp [wfV, QY, lookR, grow]
      ·exact ⟨wf_data _ _, trivial⟩
     ·intro hb
      have hro : rOut l (A ++ [a]) = rOut l A := by rw [rOut_snoc, rOne, show (sumA a l != 0) = false from hb]; simp
      clear hb
      refine JI ?_
      simp only [zz6, QO, ↓Qb]
      refine kK hK2 [0, 4, 5, 6] ?_
      refine pz ?_
      simp only [zzK, QR, QP, QQ, JC, zz21, JM, zz26, JB, hwa, zz6, QO, ↓Qb]
      refine ⟨B.length, _, by simp, le_SK (fun r => bif r == 4 then 4 else r) [] rfl (l' := [(0, .d (legs l)), (4, .ref 4 (rOut l (A ++ [a])).length), (5, .d (acs allAc)), (6, .d (iv ((A ++ [a])).length))]) (m' := [(4, grow 75 4 4 ((rOut l (A ++ [a])).map legC))]) ?_ ?_ ?_ ?_, A ++ [a], B, by rw [hAB]; simp, hra2, rfl, rfl⟩
      ·simp only [leV, JD, QQ, Qd, Qc, hwa, hro, QC, QM]
       refine ⟨Qo rfl, ?_, Qo rfl, Qo rfl, trivial⟩
       exact VLe.ref_ (f := (fun r => bif r == 4 then 4 else r)) (r := 4) (by simp)
      ·exact ⟨fun _ => ⟨_, rfl, Qw (by rw [hro] <;> simp [legC])⟩, (by simp), trivial⟩
      ·simp [wfV, QY, lookR, grow]
      ·exact ⟨wf_data _ _, trivial⟩
  ·intro hb
   obtain rfl : B = [] := by
    cases B with
    | nil => rfl
    | cons x t => have := Qf hb; simp at hABl; omega
   clear hb
   simp only [QG] at hAB
   subst hAB
   have hrg := ref_good hok hra
   refine JK ?_
   simp only [zz6, QO, ↓Qb]
   refine kK hK0 [4] ?_
   refine pq fun K0 hK0 => ?_
   simp only [zzK, QR, QP, QQ, JC, JB, zz6, QO, ↓Qb]
   refine kK hK0 [2, 3] ?_
   refine JJ ?_
   simp only [zz6, QO, ↓Qb]
   rw [hrg.1, hrg.2]
   refine done1 4 (by simp only [resCs, resC]; trivial) ?_ (by simp [Ja, Jb, Jc, legC]) (by simp [QY, QX, legC]) (by rfl) trivial rfl rfl ?_ (by simp [flatDs, Jc, legC])
   ·simp only [QD, QE, resA, JZ, QR, QP, JD, QQ, Qd, Qc, JP]; rfl
   ·rfl
theorem rMove_ (a b : AcV) (n : Int) : ACalls Tryz.prog 47 [.agg (acC a), .agg (acC b), iv n] [⟨75, 4, (moveL a b n).map legC⟩] (.ref 0 2) := by
 refine acalls_S (rs := [.tmp 6]) Tryz.func47 rfl rfl 18 [(0, .d (.agg (acC a))), (1, .d (.agg (acC b))), (2, .d (iv n))] rfl (by simp) rfl ?_
 refine pq fun K0 hK0 => ?_
 simp only [zzK, QR, QP, QQ, zz35, JS, zz1, zzG, zzD, zzC, QA, yyE, Qe, QS, QN, zzH, JB, acC, zz6, QO, ↓Qb]
 refine kK hK0 [2, 3, 4] ?_
 refine JA fun K0 hK0 => ?_
 refine pq fun K1 hK1 => ?_
 simp only [zzK, QR, QP, QQ, JC, JE, JF, zz29, JM, zz30, zz6, QO, ↓Qb]
 refine cgA F_go62 (fun hG => rRight_ n) ?_
 simp only [zzK, QR, QP, QQ, JC, JE, JF, zz29, JM, zz30, zz6, QO, ↓Qb, atsL, oksG, JV, QZ, Qa, JO, Qm, QT, QS, zz9, QB, QA, zzC, yyF, zzD, zz2]
 refine kK hK1 [2, 3, 4, 9] ?_
 refine cnA ?_ ?_
 ·intro hb
  have e : rightN n = false := by simpa using hb
  clear hb
  have hw : Ql .i64 (0 - 0) = 0 - 0 := wrapI (by omega) (by omega)
  refine pz ?_
  simp only [zzK, QR, QP, QQ, JB, zz6, QO, ↓Qb]
  refine kK hK0 [2, 3, 4] ?_
  refine pq fun K0 hK0 => ?_
  simp only [zzK, QR, QP, QQ, F_ok73, F_ag73, F_sz73, zz8, zz23, zzD, QS, QN, zzH, zzC, QA, yyE, Qe, JC, zz29, JM, zz37, F_zero75, F_bld75, zz7, splice, Option.getD_some, QG, zz1, zzG, zz10, F_fld75_0, F_fld75_1, F_sl41, F_sz75, zz3, JS, maxLen_le, QT, JB, hw, zz6, QO, ↓Qb]
  refine kK hK0 [6] ?_
  refine JJ ?_
  simp only [zz6, QO, ↓Qb]
  rw [moveL, e]
  refine done1 17 (by simp only [resCs, resC]; trivial) ?_ (by simp [Ja, Jb, Jc, legC]) (by simp [QY, QX, legC]) (by rfl) trivial rfl rfl ?_ (by simp [flatDs, Jc, legC])
  ·simp only [QD, QE, resA, JZ, QR, QP, JD, QQ, Qd, Qc, JP]; rfl
  ·simp only [QD, QE, legC, Qd, Qc]
 ·intro hb
  have e : rightN n = true := by simpa using hb
  clear hb
  have hn : -4611686018427387904 ≤ n ∧ n ≤ 4611686018427387904 := by simpa [rightN] using e
  have hw : Ql .i64 (0 - n) = 0 - n := wrapI (by omega) (by omega)
  refine JI ?_
  simp only [zz6, QO, ↓Qb]
  refine kK hK0 [2, 3, 4] ?_
  refine pq fun K0 hK0 => ?_
  simp only [zzK, QR, QP, QQ, F_ok73, F_ag73, F_sz73, zz8, zz23, zzD, QS, QN, zzH, zzC, QA, yyE, Qe, JC, zz29, JM, zz37, F_zero75, F_bld75, zz7, splice, Option.getD_some, QG, zz1, zzG, zz10, F_fld75_0, F_fld75_1, F_sl41, F_sz75, zz3, JS, maxLen_le, QT, JB, hw, zz6, QO, ↓Qb]
  refine kK hK0 [6] ?_
  refine JJ ?_
  simp only [zz6, QO, ↓Qb]
  rw [moveL, e]
  refine done1 17 (by simp only [resCs, resC]; trivial) ?_ (by simp [Ja, Jb, Jc, legC]) (by simp [QY, QX, legC]) (by rfl) trivial rfl rfl ?_ (by simp [flatDs, Jc, legC])
  ·simp only [QD, QE, resA, JZ, QR, QP, JD, QQ, Qd, Qc, JP]; rfl
  ·simp only [QD, QE, legC, Qd, Qc]
theorem rMoveF (a b : AcV) (n : Int) : ACalls Tryz.prog 47 [.agg (acC a), .agg (acC b), iv n] [] (.d (legs (moveL a b n))) := (rMove_ a b n).freeze (by simp [frzOk, moveL])
end Go.Proofs.YtjkfadaedgidpaaGreat
