import Derived.Test.YtjkfadaedgidpaaWpF
namespace Go.Proofs.Ytjkfadaedgidpaa
open Go.RowKit
set_option linter.unusedVariables false
set_option linter.unusedSimpArgs false
open Option renaming map_some → QA, bind_some → QB
open List renaming length_append → QC, map_cons → QD, map_nil → QE, length_cons → QF, append_nil → QG, drop_zero → QH, getD_cons_zero → QI, getD_cons_succ → QJ, take_succ_cons → QK, drop_succ_cons → QL, length_singleton → QM
open Nat renaming zero_add → QN, reduceEqDiff → QO, reduceLeDiff → QP, reduceBEq → QQ, reduceLT → QR, reduceAdd → QS, reduceMul → QT, reduceSub → QU
open Int renaming toNat_natCast → QV
open D.agg renaming injEq → QW
open AV renaming idsL → QX, ids → QY, ren → QZ, renL → Qa
open _root_ renaming reduceIte → Qb, cond_false → Qc, cond_true → Qd, reduceCtorEq → Qe, of_decide_eq_false → Qf, of_decide_eq_true → Qg, imp_self → Qh, imp_and → Qi, and_imp → Qj
open IntKind renaming wrap → Ql
open ORow renaming row → Qm
open VLe renaming refl → Qn, still → Qo, nild_ → Qp, nil_ → Qq, refE → Qr, ptrE → Qs, dE → Qt
open RowLe renaming same → Qu, still → Qv, data_ → Qw, uq2 → Qx
open Go.Proofs.Ytjkfadaedgidpaa renaming awp_plain → Qz, awp_seq → JA, evS_assign → JB, evS_move → JC, look_cons → JD, evS_call → JE, evC_value → JF, awp_block → JH, awp_skip → JI, awp_ret → JJ, awp_exit → JK, awp_loop → JL, gr_v → JM, len_map → JN, addRows → JO, resAll → JP, pickK_l → JQ, pickK_r → JR, newRow1 → JS, call_go → JT, freeN → JV, evS_indexAddr → JW, S_getD → JZ, flatA → Ja, flatAs → Jb, flatD → Jc
theorem F_go20 : goFn Try.prog 20 := ⟨_, Try.func20, rfl, rfl⟩
theorem F_ag89 : aggT Try.prog 89 = true := by kernel_rfl
theorem F_sz89 : szT Try.prog 89 = 2 := by kernel_rfl
theorem F_ok89 : tyOk Try.prog 89 = true := by kernel_rfl
theorem F_zero89 : zeroT Try.prog 89 = some [(.int .i64 0), (.int .u64 0)] := by kernel_rfl
theorem F_bld89 : bldT Try.prog 89 = true := by kernel_rfl
theorem F_fld89_0 : fldT Try.prog 89 0 = some (0, 1) := by kernel_rfl
theorem F_fld89_1 : fldT Try.prog 89 1 = some (1, 1) := by kernel_rfl
theorem F_sl86 : sliceT Try.prog 86 = some 89 := by kernel_rfl
theorem F_off89_1 : offT Try.prog 89 1 = some 1 := by kernel_rfl
theorem F_off89_0 : offT Try.prog 89 0 = some 0 := by kernel_rfl
theorem F_eqi89 (a0 b0 : Int) (a1 b1 : Int) (w : World) : (Op.equalIn 10000 89 (.agg #[.int .i64 a0, .int .u64 a1]) (.agg #[.int .i64 b0, .int .u64 b1])).run Try.prog w = .ok (veqL [.int .i64 a0, .int .u64 a1] [.int .i64 b0, .int .u64 b1]) w := by
 have u3 := Try.underlying3
 have g3 := Try.isAgg3
 have z3 := Try.sizeOf3
 have u87 := Try.underlying87
 have g87 := Try.isAgg87
 have z87 := Try.sizeOf87
 have hS : Try.prog.underlying 89 = some (.struct (Try.prog.fieldsOf 89)) := by kernel_rfl
 have hp : Try.prog.stoodInHeld 89 = false := by kernel_rfl
 rw [show (10000 : Nat) = 9999 + 1 from rfl, run_equalIn_agg w 9999 89 _ _ hS hp]
 simp only [Program.fieldsOf, Try.underlying89]
 go_simp
 by_cases h0 : a0 = b0 <;> by_cases h1 : a1 = b1 <;> simp [veqL, veq, h0, h1]
theorem F_neq89 (a0 b0 : Int) (a1 b1 : Int) (x y : Operand) : pureBin Try.prog .neq 89 x y (.agg #[.int .i64 a0, .int .u64 a1]) (.agg #[.int .i64 b0, .int .u64 b1]) = True := by
 have hm : Try.prog.eqGuardType Try.prog.depth 89 = false := by kernel_rfl
 simp only [pureBin, Pure, eq_iff_iff, iff_true]
 intro w
 simp only [Sem.run_bind, run_eqGuard_agg w .neq 89 x y _ _ hm, Result.andThen_ok, run_neq_struct, F_eqi89, binV]
theorem F_go42 : goFn Try.prog 42 := ⟨_, Try.func42, rfl, rfl⟩
theorem F_go39 : goFn Try.prog 39 := ⟨_, Try.func39, rfl, rfl⟩
theorem F_by89 : byT Try.prog 89 = 16 := by kernel_rfl
theorem F_go43 : goFn Try.prog 43 := ⟨_, Try.func43, rfl, rfl⟩
theorem F_go44 : goFn Try.prog 44 := ⟨_, Try.func44, rfl, rfl⟩
theorem F_go38 : goFn Try.prog 38 := ⟨_, Try.func38, rfl, rfl⟩
theorem F_go35 : goFn Try.prog 35 := ⟨_, Try.func35, rfl, rfl⟩
theorem F_go23 : goFn Try.prog 23 := ⟨_, Try.func23, rfl, rfl⟩
theorem F_go24 : goFn Try.prog 24 := ⟨_, Try.func24, rfl, rfl⟩
theorem F_go40 : goFn Try.prog 40 := ⟨_, Try.func40, rfl, rfl⟩
theorem F_go41 : goFn Try.prog 41 := ⟨_, Try.func41, rfl, rfl⟩
theorem F_sl66 : sliceT Try.prog 66 = some 32 := by kernel_rfl
theorem F_by32 : byT Try.prog 32 = 24 := by kernel_rfl
theorem F_go21 : goFn Try.prog 21 := ⟨_, Try.func21, rfl, rfl⟩
theorem F_go17 : goFn Try.prog 17 := ⟨_, Try.func17, rfl, rfl⟩
theorem F_fld24_0 : fldT Try.prog 24 0 = some (0, 1) := by kernel_rfl
theorem F_go22 : goFn Try.prog 22 := ⟨_, Try.func22, rfl, rfl⟩
theorem F_go10 : goFn Try.prog 10 := ⟨_, Try.func10, rfl, rfl⟩
theorem F_by63 : byT Try.prog 63 = 32 := by kernel_rfl
theorem rSame_ (a b : AcV) : ACalls Try.prog 20 [.agg (acC a), .agg (acC b)] [] (bv (acSame a b)) := by
 refine acalls_S (rs := [.tmp 4]) Try.func20 rfl rfl 24 [(0, .d (.agg (acC a))), (1, .d (.agg (acC b)))] rfl (by simp) rfl ?_
 refine JA fun K0 hK0 => ?_
 refine Qz F_mixed [some 2, some 3, some 4] rfl ?_
 simp only [zzK, QR, QP, QQ, zz35, JS, zz1, zzG, zzD, zzC, QA, yyE, Qe, QS, QN, zzH, JB, acC, zz6, QO, ↓Qb]
 refine hK0 _ ?_; try clear hK0 K0
 refine kpA [2, 3] ?_
 refine JA fun K0 hK0 => ?_
 refine Qz F_mixed [some 5, some 6, some 7, some 8, some 9, some 10, some 11, some 12, some 13, some 14, some 15, some 16, some 17, some 18, some 19, some 20, some 21, some 22, some 23, some 4] rfl ?_
 simp only [zzK, QR, QP, QQ, QU, JZ, zz5, Qj, Qi, Qh, zz19, zz23, F_off32_0, zzH, QN, QS, F_ok3, F_ag3, F_sz3, zz8, zzD, zzC, QA, yyE, Qe, zz21, JM, zz34, JC, F_off32_1, zz13, JQ, JR, F_off32_2, JB, zz6, QO, ↓Qb]
 refine hK0 _ ?_; try clear hK0 K0
 refine kpA [4] ?_
 refine JJ ?_
 simp only [zz6, QO, ↓Qb]
 refine dnA ?_
 simp only [QD, QE, resA, JZ, QR, QP, JD, QQ, Qd, Qc, JP]
 try rfl
theorem rOf_ (nx : Int) (l : List LegV) (a : AcV) (hl : l.length ≤ 500000) : ACalls Try.prog 10 [.agg (ledC ⟨nx, l⟩), .agg (acC a)] [] (.d (iv (ofL a l))) := by
 refine acalls_S (rs := [.tmp 4]) Try.func10 rfl rfl 27 [(0, .d (.agg (ledC ⟨nx, l⟩))), (1, .d (.agg (acC a)))] rfl (by simp) rfl ?_
 refine JA fun K0 hK0 => ?_
 refine Qz F_mixed [some 2, some 3, some 4] rfl ?_
 simp only [zzK, QR, QP, QQ, zz35, JS, zz1, zzG, zzD, zzC, QA, yyE, Qe, QS, QN, zzH, JB, ledC, legs, acC, zz6, QO, ↓Qb]
 refine hK0 _ ?_; try clear hK0 K0
 refine kpA [2, 3] ?_
 refine JA fun K0 hK0 => ?_
 refine JA fun K1 hK1 => ?_
 refine Qz F_mixed [some 5] rfl ?_
 simp only [zzK, QR, QP, QQ, JB, zz6, QO, ↓Qb]
 refine hK1 _ ?_; try clear hK1 K1
 refine kpA [2, 3, 5] ?_
 refine JH ?_
 refine JL (fun m s => ∃ (pre : List LegV) (post : List LegV), (l = pre ++ post) ∧ (ofL a l = ofL a post) ∧ m = post.length ∧ s = S 27 [(2, .ptr 2 0 0), (3, .ptr 3 0 0), (5, .d (iv pre.length))] [(2, (⟨True, 24, 2, true, false, 2, [[.d (iv nx), .d (.sl 4 (l.map legC))]]⟩ : ARow)), (3, (⟨True, 32, 3, true, false, 3, [[.d (iv a.kind), .d (iv a.who), .d (iv a.cur)]]⟩ : ARow))]) (l.length) _ (le_SK id [] rfl (l' := [(2, .ptr 2 0 0), (3, .ptr 3 0 0), (5, .d (iv [].length))]) (m' := [(2, (⟨True, 24, 2, true, false, 2, [[.d (iv nx), .d (.sl 4 (l.map legC))]]⟩ : ARow)), (3, (⟨True, 32, 3, true, false, 3, [[.d (iv a.kind), .d (iv a.who), .d (iv a.cur)]]⟩ : ARow))]) ?_ ?_ ?_ ?_) ⟨[], l, rfl, rfl, rfl, rfl⟩ ?_
 ·simp only [leV, JD, QQ, Qd, Qc]; exact ⟨(by first | exact Qo rfl | exact Qq (by decide) | exact Qp | exact Qn _ | exact Qs (by simp) (by rfl) | exact Qr (by simp) (by rfl) (by first | rfl | (simp; done) | (simp; omega)) | exact Qt (by first | rfl | simp)), (by first | exact Qo rfl | exact Qq (by decide) | exact Qp | exact Qn _ | exact Qs (by simp) (by rfl) | exact Qr (by simp) (by rfl) (by first | rfl | (simp; done) | (simp; omega)) | exact Qt (by first | rfl | simp)), (by first | exact Qo rfl | exact Qq (by decide) | exact Qp | exact Qn _ | exact Qs (by simp) (by rfl) | exact Qr (by simp) (by rfl) (by first | rfl | (simp; done) | (simp; omega)) | exact Qt (by first | rfl | simp)), trivial⟩
 ·exact ⟨fun _ => ⟨_, rfl, (by first | exact Qw (by first | rfl | simp) | exact Qx (by first | rfl | simp) (by simp) ids_data | exact Qv (by simp [QX, QY]) | exact Qu (by simp) (by simp [QX, QY]))⟩, fun h => by simp at h, fun _ => ⟨_, rfl, (by first | exact Qw (by first | rfl | simp) | exact Qx (by first | rfl | simp) (by simp) ids_data | exact Qv (by simp [QX, QY]) | exact Qu (by simp) (by simp [QX, QY]))⟩, fun h => by simp at h, trivial⟩
 ·simp [wfV, QY, QX, lookR, grow]
 ·exact ⟨by simp [QX, QY, lookR], by simp [QX, QY, lookR], trivial⟩
 rintro m s ⟨pre, post, hsp, ho, rfl, rfl⟩
 have hspl := congrArg List.length hsp
 simp only [QC] at hspl
 refine JA fun K2 hK2 => ?_
 refine JA fun K3 hK3 => ?_
 refine Qz F_mixed [some 6, some 7, some 8, some 9, some 10] rfl ?_
 simp only [zzK, QR, QP, QQ, JC, zz19, zz23, F_off24_1, zzH, QN, QS, F_ok22, F_ag22, F_sz22, zz8, zzD, zzC, QA, yyE, Qe, JE, zz12, F_sl22, Option.isSome_some, zz21, JM, zz22, JN, zz6, QO, ↓Qb]
 refine hK3 _ ?_; try clear hK3 K3
 refine kpA [2, 3, 5, 10] ?_
 refine cnA ?_ ?_
 ·intro hb
  obtain ⟨x, post2, rfl⟩ : ∃ x t, post = x :: t := by
   cases post with
   | nil => have := Qg hb; simp at hspl; omega
   | cons x t => exact ⟨x, t, rfl⟩
  clear hb
  simp only [QF] at hspl
  have gx : (l.map legC).getD pre.length [] = [iv x.ac.kind, iv x.ac.who, iv x.ac.cur, iv x.amt] := by
   rw [hsp, List.map_append]; exact gd_mid' (A := pre.map legC) _ _ (by simp)
  have bx := ltI (show pre.length < l.length by omega)
  have hwx : Ql .i64 ((pre.length : Int) + 1) = ((pre ++ [x]).length : Int) := by rw [wrapI (by omega) (by omega)]; simp
  refine JI ?_
  simp only [zz6, QO, ↓Qb]
  refine hK2 _ ?_; try clear hK2 K2
  refine kpA [2, 3, 5] ?_
  refine JA fun K2 hK2 => ?_
  refine JH ?_
  refine JA fun K3 hK3 => ?_
  refine awp_draw F_mixed [some 13, some 14, some 15, some 16, some 17, some 18, some 19, some 20] rfl (by kernel_rfl) ?_
  simp only [zzK, QR, QP, QQ, zz19, zz23, F_off24_1, zzH, QN, QS, F_ok22, F_ag22, F_sz22, zz8, zzD, zzC, QA, yyE, Qe, JC, JW, zz24, F_sl22, F_sz63, F_off63_0, F_ok32, F_ag32, F_sz32, JE, JF, gx, bx, hwx, JN, ge0, QV, QW, legC, acC, zz6, QO, ↓Qb]
  refine JT F_go20 (fun hG => rSame_ x.ac a) (by simp [QY, QX]) (by simp) ?_
  simp only [zzK, QR, QP, QQ, zz19, zz23, F_off24_1, zzH, QN, QS, F_ok22, F_ag22, F_sz22, zz8, zzD, zzC, QA, yyE, Qe, JC, JW, zz24, F_sl22, F_sz63, F_off63_0, F_ok32, F_ag32, F_sz32, JE, JF, gx, bx, hwx, JN, ge0, QV, QW, legC, acC, zz6, QO, ↓Qb, atsL, oksG, JV, QZ, Qa, JO, Qm, QT, QS, zz9, QB, QA, S_mem, yyF, QF, zz2]
  refine hK3 _ ?_; try clear hK3 K3
  refine kpA [2, 3, 5, 20] ?_
  refine cnA ?_ ?_
  ·intro hb
   have hs : acSame x.ac a = true := hb
   clear hb
   refine JA fun K4 hK4 => ?_
   refine Qz F_mixed [some 21, some 22, some 23, some 24, some 25, some 26, some 4] rfl ?_
   simp only [zzK, QR, QP, QQ, zz19, zz23, F_off24_1, zzH, QN, QS, F_ok22, F_ag22, F_sz22, zz8, zzD, zzC, QA, yyE, Qe, JC, JW, zz24, F_sl22, F_sz63, F_off63_1, F_ok3, F_ag3, F_sz3, JB, gx, bx, hwx, JN, ge0, QV, QW, legC, zz6, QO, ↓Qb]
   refine hK4 _ ?_; try clear hK4 K4
   refine kpA [4] ?_
   refine JJ ?_
   simp only [zz6, QO, ↓Qb]
   refine dnA ?_
   simp only [QD, QE, resA, JZ, QR, QP, JD, QQ, Qd, Qc, JP]
   rw [ho, ofL, hs]; rfl
  ·intro hb
   have hs : acSame x.ac a = false := hb
   clear hb
   refine JI ?_
   simp only [zz6, QO, ↓Qb]
   refine hK2 _ ?_; try clear hK2 K2
   refine kpA [2, 3, 5] ?_
   refine Qz F_mixed [some 11, some 12, some 5] rfl ?_
   simp only [zzK, QR, QP, QQ, JC, zz21, JM, zz26, JB, hwx, zz6, QO, ↓Qb]
   refine ⟨post2.length, _, by simp, le_SK id [] rfl (l' := [(2, .ptr 2 0 0), (3, .ptr 3 0 0), (5, .d (iv (pre ++ [x]).length))]) (m' := [(2, (⟨True, 24, 2, true, false, 2, [[.d (iv nx), .d (.sl 4 (l.map legC))]]⟩ : ARow)), (3, (⟨True, 32, 3, true, false, 3, [[.d (iv a.kind), .d (iv a.who), .d (iv a.cur)]]⟩ : ARow))]) ?_ ?_ ?_ ?_, (pre ++ [x]), post2, by simp [hsp], by rw [ho, ofL, hs]; rfl, rfl, rfl⟩
   ·simp only [leV, JD, QQ, Qd, Qc, hwx]; exact ⟨(by first | exact Qo rfl | exact Qq (by decide) | exact Qp | exact Qn _ | exact Qs (by simp) (by rfl) | exact Qr (by simp) (by rfl) (by first | rfl | (simp; done) | (simp; omega)) | exact Qt (by first | rfl | simp)), (by first | exact Qo rfl | exact Qq (by decide) | exact Qp | exact Qn _ | exact Qs (by simp) (by rfl) | exact Qr (by simp) (by rfl) (by first | rfl | (simp; done) | (simp; omega)) | exact Qt (by first | rfl | simp)), (by first | exact Qo rfl | exact Qq (by decide) | exact Qp | exact Qn _ | exact Qs (by simp) (by rfl) | exact Qr (by simp) (by rfl) (by first | rfl | (simp; done) | (simp; omega)) | exact Qt (by first | rfl | simp)), trivial⟩
   ·exact ⟨fun _ => ⟨_, rfl, (by first | exact Qw (by first | rfl | simp) | exact Qx (by first | rfl | simp) (by simp) ids_data | exact Qv (by simp [QX, QY]) | exact Qu (by simp) (by simp [QX, QY]))⟩, fun h => by simp at h, fun _ => ⟨_, rfl, (by first | exact Qw (by first | rfl | simp) | exact Qx (by first | rfl | simp) (by simp) ids_data | exact Qv (by simp [QX, QY]) | exact Qu (by simp) (by simp [QX, QY]))⟩, fun h => by simp at h, trivial⟩
   ·simp [wfV, QY, QX, lookR, grow]
   ·exact ⟨by simp [QX, QY, lookR], by simp [QX, QY, lookR], trivial⟩
 ·intro hb
  obtain rfl : post = [] := by
   cases post with
   | nil => rfl
   | cons x t => have := Qf hb; simp at hspl; omega
  clear hb
  simp only [QG] at hsp
  subst hsp
  refine JK ?_
  simp only [zz6, QO, ↓Qb]
  refine hK0 _ ?_; try clear hK0 K0
  refine kpA [] ?_
  refine JA fun K0 hK0 => ?_
  refine Qz F_mixed [some 4] rfl ?_
  simp only [zzK, QR, QP, QQ, JB, zz6, QO, ↓Qb]
  refine hK0 _ ?_; try clear hK0 K0
  refine kpA [4] ?_
  refine JJ ?_
  simp only [zz6, QO, ↓Qb]
  refine dnA ?_
  simp only [QD, QE, resA, JZ, QR, QP, JD, QQ, Qd, Qc, JP]
  rw [ho]; rfl
theorem rRight_ (n : Int) : ACalls Try.prog 39 [iv n] [] (bv (rightN n)) := by
 refine acalls_S (rs := [.tmp 2]) Try.func39 rfl rfl 9 [(0, .d (iv n))] rfl (by simp) rfl ?_
 refine JA fun K0 hK0 => ?_
 refine Qz F_mixed [some 2] rfl ?_
 simp only [zzK, QR, QP, QQ, JB, zz6, QO, ↓Qb]
 refine hK0 _ ?_; try clear hK0 K0
 refine kpA [0] ?_
 refine JA fun K0 hK0 => ?_
 refine Qz F_mixed [some 3, some 4, some 5, some 6, some 7, some 8, some 2] rfl ?_
 simp only [zzK, QR, QP, QQ, QU, JZ, zz5, Qj, Qi, Qh, and_self, JC, zz21, JM, zz31, b_leq, pure_leq, zz13, JQ, JR, JB, zz6, QO, ↓Qb]
 refine hK0 _ ?_; try clear hK0 K0
 refine kpA [2] ?_
 refine JJ ?_
 simp only [zz6, QO, ↓Qb]
 refine dnA ?_
 simp only [QD, QE, resA, JZ, QR, QP, JD, QQ, Qd, Qc, JP]
 have h : (decide (n ≥ -4611686018427387904) && decide (n ≤ 4611686018427387904)) = rightN n := by
  rw [Bool.eq_iff_iff]; simp [rightN]
 rw [h]
theorem rAcRight_ (a : AcV) : ACalls Try.prog 38 [.agg (acC a)] [] (bv (acOk a)) := by
 refine acalls_S (rs := [.tmp 2]) Try.func38 rfl rfl 40 [(0, .d (.agg (acC a)))] rfl (by simp) rfl ?_
 refine JA fun K0 hK0 => ?_
 refine Qz F_mixed [some 1, some 2] rfl ?_
 simp only [zzK, QR, QP, QQ, zz35, JS, zz1, zzG, zzD, zzC, QA, yyE, Qe, QS, QN, zzH, JB, acC, zz6, QO, ↓Qb]
 refine hK0 _ ?_; try clear hK0 K0
 refine kpA [1] ?_
 refine JA fun K0 hK0 => ?_
 refine JA fun K1 hK1 => ?_
 refine Qz F_mixed [some 3, some 4, some 5, some 6, some 7, some 8, some 9, some 10, some 11, some 12, some 13, some 14, some 15, some 16, some 17, some 18, some 19, some 20] rfl ?_
 simp only [zzK, QR, QP, QQ, QU, JZ, zz5, Qj, Qi, Qh, zz19, zz23, F_off32_2, zzH, QN, QS, F_ok3, F_ag3, F_sz3, zz8, zzD, zzC, QA, yyE, Qe, zz21, JM, zz22, JC, zz31, zz13, JQ, JR, F_off32_0, zz25, zz6, QO, ↓Qb]
 refine hK1 _ ?_; try clear hK1 K1
 refine kpA [1, 20] ?_
 refine cnA ?_ ?_
 ·intro hb
  have e : acBad a = true := by rw [acBad_ref]; exact hb
  clear hb
  refine JA fun K2 hK2 => ?_
  refine Qz F_mixed [some 2] rfl ?_
  simp only [zzK, QR, QP, QQ, JB, zz6, QO, ↓Qb]
  refine hK2 _ ?_; try clear hK2 K2
  refine kpA [2] ?_
  refine JJ ?_
  simp only [zz6, QO, ↓Qb]
  refine dnA ?_
  simp only [QD, QE, resA, JZ, QR, QP, JD, QQ, Qd, Qc, JP]
  rw [acOk, e]; rfl
 ·intro hb
  have e : acBad a = false := by rw [acBad_ref]; exact hb
  clear hb
  refine JI ?_
  simp only [zz6, QO, ↓Qb]
  refine hK0 _ ?_; try clear hK0 K0
  refine kpA [1] ?_
  refine JA fun K0 hK0 => ?_
  refine JA fun K1 hK1 => ?_
  refine Qz F_mixed [some 21, some 22, some 23, some 24, some 25, some 26, some 27, some 28] rfl ?_
  simp only [zzK, QR, QP, QQ, QU, JZ, zz5, Qj, Qi, Qh, zz19, zz23, F_off32_0, zzH, QN, QS, F_ok3, F_ag3, F_sz3, zz8, zzD, zzC, QA, yyE, Qe, zz21, JM, zz34, JC, zz13, JQ, JR, zz6, QO, ↓Qb]
  refine hK1 _ ?_; try clear hK1 K1
  refine kpA [1, 28] ?_
  refine cnA ?_ ?_
  ·intro hb
   have e2 : acOwn a.kind = true := hb
   clear hb
   refine JA fun K2 hK2 => ?_
   refine Qz F_mixed [some 29, some 30, some 31, some 32, some 33, some 34, some 35, some 36, some 2] rfl ?_
   simp only [zzK, QR, QP, QQ, QU, JZ, zz5, Qj, Qi, Qh, zz19, zz23, F_off32_1, zzH, QN, QS, F_ok3, F_ag3, F_sz3, zz8, zzD, zzC, QA, yyE, Qe, zz21, JM, zz31, JC, b_leq, pure_leq, zz13, JQ, JR, JB, zz6, QO, ↓Qb]
   refine hK2 _ ?_; try clear hK2 K2
   refine kpA [2] ?_
   refine JJ ?_
   simp only [zz6, QO, ↓Qb]
   refine dnA ?_
   simp only [QD, QE, resA, JZ, QR, QP, JD, QQ, Qd, Qc, JP]
   rw [acOk, e, e2]; cases decide (a.who ≥ 1) <;> rfl
  ·intro hb
   have e2 : acOwn a.kind = false := hb
   clear hb
   refine JI ?_
   simp only [zz6, QO, ↓Qb]
   refine hK0 _ ?_; try clear hK0 K0
   refine kpA [1] ?_
   refine JA fun K0 hK0 => ?_
   refine Qz F_mixed [some 37, some 38, some 39, some 2] rfl ?_
   simp only [zzK, QR, QP, QQ, zz19, zz23, F_off32_1, zzH, QN, QS, F_ok3, F_ag3, F_sz3, zz8, zzD, zzC, QA, yyE, Qe, zz21, JM, zz34, JB, zz6, QO, ↓Qb]
   refine hK0 _ ?_; try clear hK0 K0
   refine kpA [2] ?_
   refine JJ ?_
   simp only [zz6, QO, ↓Qb]
   refine dnA ?_
   simp only [QD, QE, resA, JZ, QR, QP, JD, QQ, Qd, Qc, JP]
   rw [acOk, e, e2]; rfl
theorem Of_ (n : Int) (h0 : -9223372036854775808 ≤ n) (h1 : n < 9223372036854775808) : ACalls Try.prog 42 [iv n] [] (wideA n) := by
 refine acalls_S (rs := [.cell 2 89]) Try.func42 rfl rfl 11 [(0, .d (iv n))] rfl (by simp) rfl ?_
 refine JA fun K0 hK0 => ?_
 refine Qz F_mixed [some 2] rfl ?_
 simp only [zzK, QR, QP, QQ, zz32, JS, F_zero89, zzC, QA, yyE, Qe, zzD, QS, QN, zzH, zz10, zz6, QO, ↓Qb]
 refine hK0 _ ?_; try clear hK0 K0
 refine kpA [0, 2] ?_
 refine JA fun K0 hK0 => ?_
 refine JA fun K1 hK1 => ?_
 refine Qz F_mixed [some 3, some 4] rfl ?_
 simp only [zzK, QR, QP, QQ, JC, zz21, JM, zz22, zz6, QO, ↓Qb]
 refine hK1 _ ?_; try clear hK1 K1
 refine kpA [0, 2, 4] ?_
 refine cnA ?_ ?_
 ·intro hb
  simp only [decide_eq_true_eq] at hb
  refine JA fun K2 hK2 => ?_
  refine Qz F_mixed [some 5, some 6, some 7, none] rfl ?_
  simp only [zzK, QR, QP, QQ, JC, zz27, JM, F_cv3_87, F_cvV87, F_zero89, F_bld89, zz7, splice, Option.getD_some, QG, zz1, zzG, zzD, zzC, QA, yyE, Qe, QS, QN, zzH, zz10, F_fld89_0, F_fld89_1, zz18, F_ok89, F_sz89, zz6, QO, ↓Qb]
  refine hK2 _ ?_; try clear hK2 K2
  refine kpA [2] ?_
  refine JJ ?_
  simp only [zz6, QO, ↓Qb]
  refine done0 (by simp [resCs, resC, S, List.getD, JD, lookR, F_ag89, F_sz89, F_ok89]) ?_ (by simp [Ja, Jb, Jc, wideA]) (by simp [QY, QX, wideA])
  simp only [QD, QE, resA, JZ, S_mem, lookR_cons, lookR_nil, QR, QP, JD, QQ, Qd, Qc, JP, QI, QJ, QH, QL, QK, List.take_zero, F_ag89, F_sz89, F_ok89]
  rw [wide_neg h0 hb]
 ·intro hb
  simp only [decide_eq_false_iff_not, Int.not_lt] at hb
  refine JI ?_
  simp only [zz6, QO, ↓Qb]
  refine hK0 _ ?_; try clear hK0 K0
  refine kpA [0, 2] ?_
  refine JA fun K0 hK0 => ?_
  refine Qz F_mixed [some 8, some 9, some 10, none] rfl ?_
  simp only [zzK, QR, QP, QQ, JC, zz27, JM, F_cv3_87, F_cvV87, F_zero89, F_bld89, zz7, splice, Option.getD_some, QG, zz1, zzG, zzD, zzC, QA, yyE, Qe, QS, QN, zzH, zz10, F_fld89_1, zz18, F_ok89, F_sz89, zz6, QO, ↓Qb]
  refine hK0 _ ?_; try clear hK0 K0
  refine kpA [2] ?_
  refine JJ ?_
  simp only [zz6, QO, ↓Qb]
  refine done0 (by simp [resCs, resC, S, List.getD, JD, lookR, F_ag89, F_sz89, F_ok89]) ?_ (by simp [Ja, Jb, Jc, wideA]) (by simp [QY, QX, wideA])
  simp only [QD, QE, resA, JZ, S_mem, lookR_cons, lookR_nil, QR, QP, JD, QQ, Qd, Qc, JP, QI, QJ, QH, QL, QK, List.take_zero, F_ag89, F_sz89, F_ok89]
  rw [wide_pos h1 hb]
set_option maxRecDepth 100000 in
set_option maxHeartbeats 4000000 in
theorem WSum_ (l : List Int) (hl : l.length ≤ 1000000) (hall : ∀ x ∈ l, -170141183460469231731687303715884105728 ≤ x ∧ x < 170141183460469231731687303715884105728) : ACalls Try.prog 43 [wides l] [] (.tp [wideA (bif fitsW l.sum then l.sum else 0), bv (fitsW l.sum)]) := by
 refine acalls_S (rs := [.cell 2 89, .tmp 3]) Try.func43 rfl rfl 75 [(0, .d (wides l))] rfl (by simp) rfl ?_
 refine JA fun K0 hK0 => ?_
 refine Qz F_mixed [some 2, some 3] rfl ?_
 simp only [zzK, QR, QP, QQ, zz32, JS, F_zero89, zzC, QA, yyE, Qe, zzD, QS, QN, zzH, zz10, JB, zz6, QO, ↓Qb]
 refine hK0 _ ?_; try clear hK0 K0
 refine kpA [0, 2] ?_
 refine JA fun K0 hK0 => ?_
 refine Qz F_mixed [some 4] rfl ?_
 simp only [zzK, QR, QP, QQ, JB, zz6, QO, ↓Qb]
 refine hK0 _ ?_; try clear hK0 K0
 refine kpA [0, 2, 4] ?_
 refine JA fun K0 hK0 => ?_
 refine Qz F_mixed [some 5, some 6] rfl ?_
 simp only [zzK, QR, QP, QQ, JB, zz6, QO, ↓Qb]
 refine hK0 _ ?_; try clear hK0 K0
 refine kpA [0, 2, 4, 5, 6] ?_
 refine JA fun K0 hK0 => ?_
 refine JA fun K1 hK1 => ?_
 refine Qz F_mixed [some 7] rfl ?_
 simp only [zzK, QR, QP, QQ, JB, zz6, QO, ↓Qb]
 refine hK1 _ ?_; try clear hK1 K1
 refine kpA [0, 2, 4, 5, 6, 7] ?_
 refine JH ?_
 refine JL (fun m s => ∃ pre post : List Int, l = pre ++ post ∧ m = post.length ∧ s = S 75 [(0, .d (wides l)), (2, .ptr 2 0 0), (4, .d (iv (topN pre.sum))), (5, .d (.v (.int .u64 (hiN pre.sum)))), (6, .d (.v (.int .u64 (loN pre.sum)))), (7, .d (iv pre.length))] [(2, (⟨True, 89, 2, true, false, 2, [[.d (.v (.int .i64 0)), .d (.v (.int .u64 0))]]⟩ : ARow))]) l.length _ (le_SK id [] rfl (l' := [(0, .d (wides l)), (2, .ptr 2 0 0), (4, .d (iv (topN ([] : List Int).sum))), (5, .d (.v (.int .u64 (hiN ([] : List Int).sum)))), (6, .d (.v (.int .u64 (loN ([] : List Int).sum)))), (7, .d (iv ([] : List Int).length))]) (m' := [(2, (⟨True, 89, 2, true, false, 2, [[.d (.v (.int .i64 0)), .d (.v (.int .u64 0))]]⟩ : ARow))]) ?_ ?_ ?_ ?_) ⟨[], l, rfl, rfl, rfl⟩ ?_
 ·simp only [leV, JD, QQ, Qd, Qc, List.sum_nil]; exact ⟨Qn _, Qn _, Qn _, Qn _, Qn _, Qn _, trivial⟩
 ·exact ⟨fun _ => ⟨_, rfl, ⟨id, rfl, rfl, fun _ => rfl, id, .inl, VLess.refl _⟩⟩, fun h => by simp at h, trivial⟩
 ·simp [wfV, QY, lookR]
 ·simp [wfR, QX, QY]
 rintro m s ⟨pre, post, rfl, rfl, rfl⟩
 refine JA fun K2 hK2 => ?_
 refine JA fun K3 hK3 => ?_
 refine Qz F_mixed [some 13, some 14, some 15, some 16] rfl ?_
 simp only [zzK, QR, QP, QQ, JC, JE, zz12, F_sl86, Option.isSome_some, zz21, JM, zz22, wides, JN, zz6, QO, ↓Qb]
 refine hK3 _ ?_; try clear hK3 K3
 refine kpA [0, 2, 4, 5, 6, 7, 16] ?_
 refine cnA ?_ ?_
 ·intro hb
  obtain ⟨x, post, rfl⟩ := more_of hb; clear hb
  have hx := hall x (by simp)
  have hs := wsum_bound (l := pre) (fun y hy => hall y (by simp [hy])) (by simp at hl; omega)
  refine JI ?_
  simp only [zz6, QO, ↓Qb]
  refine hK2 _ ?_; try clear hK2 K2
  refine kpA [0, 2, 4, 5, 6, 7] ?_
  refine JA fun K2 hK2 => ?_
  refine JH ?_
  refine JA fun K3 hK3 => ?_
  refine Qz F_mixed [some 20, some 21, some 22, some 23, some 24, some 25, some 26, some 19, some 27, some 28, some 8, some 9] rfl ?_
  simp only [zzK, QR, QP, QQ, JC, JW, zz23, zz24, F_sl86, F_sz89, QA, zzC, yyE, Qe, zz19, F_off89_1, zzH, QN, QS, F_ok87, F_ag87, F_sz87, zz8, zzD, JE, JF, zz14, JB, wides, wideC, getD_mid, JN, lt_mid, ge_mid, zz6, QO, ↓Qb]
  refine call_ext _ _ (add64 (loN pre.sum) (x % 18446744073709551616) 0 (lo_nn _) (by omega) (by decide) (by decide)) ?_
  simp only [zzK, QR, QP, QQ, JC, JW, zz23, zz24, F_sl86, F_sz89, QA, zzC, yyE, Qe, zz19, F_off89_1, zzH, QN, QS, F_ok87, F_ag87, F_sz87, zz8, zzD, JE, JF, zz14, JB, wides, wideC, getD_mid, JN, lt_mid, ge_mid, zz6, QO, ↓Qb, grsL, JM, QB, QA, oksL, ofV_pair, ofV_int, ofV_bool]
  refine hK3 _ ?_; try clear hK3 K3
  refine kpA [0, 2, 4, 5, 7, 8, 9] ?_
  refine JA fun K3 hK3 => ?_
  refine Qz F_mixed [some 30, some 31, some 32, some 33, some 34, some 35, some 36, some 37, some 38, some 29, some 39, some 40, some 10, some 11] rfl ?_
  simp only [zzK, QR, QP, QQ, JC, JW, zz23, zz24, F_sl86, F_sz89, QA, zzC, yyE, Qe, zz19, F_off89_0, zzH, QN, QS, F_ok3, F_ag3, F_sz3, zz8, zzD, zz27, JM, F_cv3_87, F_cvV87, JE, JF, zz14, JB, wides, wideC, getD_mid, JN, lt_mid, ge_mid, zz6, QO, ↓Qb]
  refine call_ext _ _ (add64 (hiN pre.sum) (Ql .u64 (x / 18446744073709551616)) ((loN pre.sum + x % 18446744073709551616 + 0) / 18446744073709551616) (hi_nn _) (wu_nn _) (wcarry0 _ _) (wcarry1 _ _)) ?_
  simp only [zzK, QR, QP, QQ, JC, JW, zz23, zz24, F_sl86, F_sz89, QA, zzC, yyE, Qe, zz19, F_off89_0, zzH, QN, QS, F_ok3, F_ag3, F_sz3, zz8, zzD, zz27, JM, F_cv3_87, F_cvV87, JE, JF, zz14, JB, wides, wideC, getD_mid, JN, lt_mid, ge_mid, zz6, QO, ↓Qb, grsL, JM, QB, QA, oksL, ofV_pair, ofV_int, ofV_bool]
  refine hK3 _ ?_; try clear hK3 K3
  refine kpA [0, 2, 4, 7, 8, 10, 11] ?_
  refine JA fun K3 hK3 => ?_
  refine Qz F_mixed [some 41, some 42, some 6, some 5] rfl ?_
  simp only [zzK, QR, QP, QQ, JC, JB, zz6, QO, ↓Qb]
  refine hK3 _ ?_; try clear hK3 K3
  refine kpA [0, 2, 4, 5, 6, 7, 11] ?_
  refine JA fun K3 hK3 => ?_
  refine Qz F_mixed [some 43, some 44, some 45, some 46, some 4] rfl ?_
  simp only [zzK, QR, QP, QQ, JC, zz27, JM, F_cv87_3, F_cvV3, zz21, zz26, JB, zz6, QO, ↓Qb]
  refine hK3 _ ?_; try clear hK3 K3
  refine kpA [0, 2, 4, 5, 6, 7] ?_
  refine JA fun K3 hK3 => ?_
  refine Qz F_mixed [some 47, some 48, some 49, some 50, some 51, some 52] rfl ?_
  simp only [zzK, QR, QP, QQ, JC, JW, zz23, zz24, F_sl86, F_sz89, QA, zzC, yyE, Qe, zz19, F_off89_0, zzH, QN, QS, F_ok3, F_ag3, F_sz3, zz8, zzD, zz21, JM, zz22, wides, wideC, getD_mid, JN, lt_mid, ge_mid, zz6, QO, ↓Qb]
  refine hK3 _ ?_; try clear hK3 K3
  refine kpA [0, 2, 4, 5, 6, 7, 52] ?_
  refine cnA ?_ ?_
  ·intro hb
   refine Qz F_mixed [some 53, some 54, some 4] rfl ?_
   simp only [zzK, QR, QP, QQ, JC, zz21, JM, zz33, JB, zz6, QO, ↓Qb]
   refine hK2 _ ?_; try clear hK2 K2
   refine kpA [0, 2, 4, 5, 6, 7] ?_
   refine Qz F_mixed [some 17, some 18, some 7] rfl ?_
   simp only [zzK, QR, QP, QQ, JC, zz21, JM, zz26, JB, zz6, QO, ↓Qb]
   refine ⟨post.length, _, by simp, le_SK id [] rfl (l' := [(0, .d (wides (pre ++ x :: post))), (2, .ptr 2 0 0), (4, .d (iv (topN (pre ++ [x]).sum))), (5, .d (.v (.int .u64 (hiN (pre ++ [x]).sum)))), (6, .d (.v (.int .u64 (loN (pre ++ [x]).sum)))), (7, .d (iv (pre ++ [x]).length))]) (m' := [(2, (⟨True, 89, 2, true, false, 2, [[.d (.v (.int .i64 0)), .d (.v (.int .u64 0))]]⟩ : ARow))]) ?_ ?_ ?_ ?_, pre ++ [x], post, by simp, rfl, rfl⟩
   ·simp only [leV, JD, QQ, Qd, Qc, wides, wrap_len pre x (by simp at hl; omega), sum_snoc]
    refine ⟨Qn _, Qn _, ?_, ?_, ?_, Qn _, trivial⟩
    ·(first | rw [wsum_topA hs.1 hs.2 hx.1 hx.2 hb] | rw [wsum_topB hs.1 hs.2 hx.1 hx.2 hb]); exact Qn _
    ·rw [wsum_hi]; exact Qn _
    ·rw [wsum_lo]; exact Qn _
   ·exact ⟨fun _ => ⟨_, rfl, ⟨id, rfl, rfl, fun _ => rfl, id, .inl, VLess.refl _⟩⟩, fun h => by simp at h, trivial⟩
   ·simp [wfV, QY, lookR]
   ·simp [wfR, QX, QY]
  ·intro hb
   refine JI ?_
   simp only [zz6, QO, ↓Qb]
   refine hK2 _ ?_; try clear hK2 K2
   refine kpA [0, 2, 4, 5, 6, 7] ?_
   refine Qz F_mixed [some 17, some 18, some 7] rfl ?_
   simp only [zzK, QR, QP, QQ, JC, zz21, JM, zz26, JB, zz6, QO, ↓Qb]
   refine ⟨post.length, _, by simp, le_SK id [] rfl (l' := [(0, .d (wides (pre ++ x :: post))), (2, .ptr 2 0 0), (4, .d (iv (topN (pre ++ [x]).sum))), (5, .d (.v (.int .u64 (hiN (pre ++ [x]).sum)))), (6, .d (.v (.int .u64 (loN (pre ++ [x]).sum)))), (7, .d (iv (pre ++ [x]).length))]) (m' := [(2, (⟨True, 89, 2, true, false, 2, [[.d (.v (.int .i64 0)), .d (.v (.int .u64 0))]]⟩ : ARow))]) ?_ ?_ ?_ ?_, pre ++ [x], post, by simp, rfl, rfl⟩
   ·simp only [leV, JD, QQ, Qd, Qc, wides, wrap_len pre x (by simp at hl; omega), sum_snoc]
    refine ⟨Qn _, Qn _, ?_, ?_, ?_, Qn _, trivial⟩
    ·(first | rw [wsum_topA hs.1 hs.2 hx.1 hx.2 hb] | rw [wsum_topB hs.1 hs.2 hx.1 hx.2 hb]); exact Qn _
    ·rw [wsum_hi]; exact Qn _
    ·rw [wsum_lo]; exact Qn _
   ·exact ⟨fun _ => ⟨_, rfl, ⟨id, rfl, rfl, fun _ => rfl, id, .inl, VLess.refl _⟩⟩, fun h => by simp at h, trivial⟩
   ·simp [wfV, QY, lookR]
   ·simp [wfR, QX, QY]
 ·intro hb
  obtain rfl := none_of hb; clear hb
  simp only [QG] at hl hall ⊢
  refine JK ?_
  simp only [zz6, QO, ↓Qb]
  refine hK0 _ ?_; try clear hK0 K0
  refine kpA [2, 4, 5, 6] ?_
  refine JA fun K0 hK0 => ?_
  refine Qz F_mixed [some 55, some 56, some 12] rfl ?_
  simp only [zzK, QR, QP, QQ, JC, zz27, JM, F_cv87_3, F_cvV3, JB, zz6, QO, ↓Qb]
  refine hK0 _ ?_; try clear hK0 K0
  refine kpA [2, 4, 6, 12] ?_
  refine JA fun K0 hK0 => ?_
  refine JA fun K1 hK1 => ?_
  refine Qz F_mixed [some 57, some 58, some 59, some 60, some 61, some 62, some 63, some 64, some 65, some 66, some 67, some 68, some 69, some 70] rfl ?_
  simp only [zzK, QR, QP, QQ, QU, JZ, zz5, Qj, Qi, Qh, and_self, JC, zz21, JM, zz34, zz31, zz13, JQ, JR, zz22, zz6, QO, ↓Qb]
  refine hK1 _ ?_; try clear hK1 K1
  refine kpA [2, 6, 12, 70] ?_
  refine cnA ?_ ?_
  ·intro hb
   rw [fits_law] at hb
   refine JA fun K2 hK2 => ?_
   refine Qz F_mixed [some 71, some 72, some 73, none, some 3] rfl ?_
   simp only [zzK, QR, QP, QQ, JC, F_zero89, F_bld89, zz7, splice, Option.getD_some, QG, zz1, zzG, zzD, zzC, QA, yyE, Qe, QS, QN, zzH, zz10, F_fld89_0, F_fld89_1, zz18, F_ok89, F_sz89, JB, zz6, QO, ↓Qb]
   refine hK2 _ ?_; try clear hK2 K2
   refine kpA [2, 3] ?_
   refine JJ ?_
   simp only [zz6, QO, ↓Qb]
   refine done0 (by simp [resCs, resC, S, List.getD, JD, lookR, F_ag89, F_sz89, F_ok89]) ?_ (by simp [Ja, Jb, Jc, wideA]) (by simp [QY, QX, wideA])
   simp only [QD, QE, resA, JZ, S_mem, lookR_cons, lookR_nil, QR, QP, JD, QQ, Qd, Qc, JP, QI, QJ, QH, QL, QK, List.take_zero, F_ag89, F_sz89, F_ok89]
   simp only [QG, hb, wide_fit hb, Qd]
  ·intro hb
   rw [fits_law] at hb
   refine JI ?_
   simp only [zz6, QO, ↓Qb]
   refine hK0 _ ?_; try clear hK0 K0
   refine kpA [2] ?_
   refine JA fun K0 hK0 => ?_
   refine Qz F_mixed [some 74, none, some 3] rfl ?_
   simp only [zzK, QR, QP, QQ, F_zero89, F_bld89, zz7, splice, Option.getD_some, QG, zz1, zzG, zzD, zzC, QA, yyE, Qe, QS, QN, zzH, zz10, zz18, F_ok89, F_sz89, JB, zz6, QO, ↓Qb]
   refine hK0 _ ?_; try clear hK0 K0
   refine kpA [2, 3] ?_
   refine JJ ?_
   simp only [zz6, QO, ↓Qb]
   refine done0 (by simp [resCs, resC, S, List.getD, JD, lookR, F_ag89, F_sz89, F_ok89]) ?_ (by simp [Ja, Jb, Jc, wideA]) (by simp [QY, QX, wideA])
   simp only [QD, QE, resA, JZ, S_mem, lookR_cons, lookR_nil, QR, QP, JD, QQ, Qd, Qc, JP, QI, QJ, QH, QL, QK, List.take_zero, F_ag89, F_sz89, F_ok89]
   simp only [QG, hb, Qc]; rfl
theorem Int_ (t : Int) : ACalls Try.prog 44 [.agg (wideC t)] [] (.tp [.d (iv (bif rightN t then t else 0)), bv (rightN t)]) := by
 refine acalls_S (rs := [.tmp 2, .tmp 3]) Try.func44 rfl rfl 18 [(0, .d (.agg (wideC t)))] rfl (by simp) rfl ?_
 refine JA fun K0 hK0 => ?_
 refine Qz F_mixed [some 1, some 2, some 3] rfl ?_
 simp only [zzK, QR, QP, QQ, zz35, JS, zz1, zzG, zzD, zzC, QA, yyE, Qe, QS, QN, zzH, JB, wideC, zz6, QO, ↓Qb]
 refine hK0 _ ?_; try clear hK0 K0
 refine kpA [1] ?_
 refine JA fun K0 hK0 => ?_
 refine Qz F_mixed [some 5, some 6, some 7, some 4] rfl ?_
 simp only [zzK, QR, QP, QQ, zz19, zz23, F_off89_1, zzH, QN, QS, F_ok87, F_ag87, F_sz87, zz8, zzD, zzC, QA, yyE, Qe, zz27, JM, F_cv87_3, F_cvV3, JB, zz6, QO, ↓Qb]
 refine hK0 _ ?_; try clear hK0 K0
 refine kpA [1, 4] ?_
 refine JA fun K0 hK0 => ?_
 refine JA fun K1 hK1 => ?_
 refine awp_draw F_mixed [some 8, some 9, some 10, some 11, some 12, some 13, some 14, some 15, some 16] rfl (by kernel_rfl) ?_
 simp only [zzK, QR, QP, QQ, QU, JZ, zz5, Qj, Qi, Qh, JC, JE, JF, F_ok89, F_ag89, F_sz89, zz8, zz23, zzD, QS, QN, zzH, zzC, QA, yyE, Qe, zz21, JM, gr_ag, gr_agg, grL_cons, grL_nil, grD_cons, grD_nil, b_eqla, b_neqa, F_neq89, zz29, zz30, zz13, JQ, JR, wideA, wideC, zz6, QO, ↓Qb]
 refine JT F_go42 (fun hG => Of_ (Ql .i64 (t % 18446744073709551616)) (wI0 _) (wI1 _)) (by simp [QY, QX, wideA, wideC]) (by simp) ?_
 simp only [zzK, QR, QP, QQ, QU, JZ, zz5, Qj, Qi, Qh, JC, JE, JF, F_ok89, F_ag89, F_sz89, zz8, zz23, zzD, QS, QN, zzH, zzC, QA, yyE, Qe, zz21, JM, gr_ag, gr_agg, grL_cons, grL_nil, grD_cons, grD_nil, b_eqla, b_neqa, F_neq89, zz29, zz30, zz13, JQ, JR, wideA, wideC, zz6, QO, ↓Qb, atsL, oksG, JV, QZ, Qa, JO, Qm, QT, QS, zz9, QB, QA, S_mem, yyF, QF, zz2]
 refine JT F_go39 (fun hG => rRight_ (Ql .i64 (t % 18446744073709551616))) (by simp [QY, QX, wideA, wideC]) (by simp) ?_
 simp only [zzK, QR, QP, QQ, QU, JZ, zz5, Qj, Qi, Qh, JC, JE, JF, F_ok89, F_ag89, F_sz89, zz8, zz23, zzD, QS, QN, zzH, zzC, QA, yyE, Qe, zz21, JM, gr_ag, gr_agg, grL_cons, grL_nil, grD_cons, grD_nil, b_eqla, b_neqa, F_neq89, zz29, zz30, zz13, JQ, JR, wideA, wideC, zz6, QO, ↓Qb, atsL, oksG, JV, QZ, Qa, JO, Qm, QT, QS, zz9, QB, QA, S_mem, yyF, QF, zz2]
 refine hK1 _ ?_; try clear hK1 K1
 refine kpA [4, 16] ?_
 refine cnA ?_ ?_
 ·intro hb
  rw [int_law] at hb
  simp only [Bool.not_eq_true'] at hb
  refine JA fun K2 hK2 => ?_
  refine Qz F_mixed [some 2, some 3] rfl ?_
  simp only [zzK, QR, QP, QQ, JB, zz6, QO, ↓Qb]
  refine hK2 _ ?_; try clear hK2 K2
  refine kpA [2, 3] ?_
  refine JJ ?_
  simp only [zz6, QO, ↓Qb]
  refine dnA ?_
  simp only [QD, QE, resA, JZ, QR, QP, JD, QQ, Qd, Qc, JP]
  simp only [hb, Qc]
 ·intro hb
  rw [int_law] at hb
  simp only [Bool.not_eq_false'] at hb
  refine JI ?_
  simp only [zz6, QO, ↓Qb]
  refine hK0 _ ?_; try clear hK0 K0
  refine kpA [4] ?_
  refine JA fun K0 hK0 => ?_
  refine Qz F_mixed [some 17, some 2, some 3] rfl ?_
  simp only [zzK, QR, QP, QQ, JC, JB, zz6, QO, ↓Qb]
  refine hK0 _ ?_; try clear hK0 K0
  refine kpA [2, 3] ?_
  refine JJ ?_
  simp only [zz6, QO, ↓Qb]
  refine dnA ?_
  simp only [QD, QE, resA, JZ, QR, QP, JD, QQ, Qd, Qc, JP]
  simp only [hb, Qd, int_val hb]
theorem Add_ (l : List Int) (hl : l.length ≤ 1000000) (hall : ∀ x ∈ l, -9223372036854775808 ≤ x ∧ x < 9223372036854775808) : ACalls Try.prog 23 [ints l] [] (.tp [.d (iv (bif rightN l.sum then l.sum else 0)), bv (rightN l.sum)]) := by
 refine acalls_S (rs := [.tmp 2, .tmp 3]) Try.func23 rfl rfl 33 [(0, .d (ints l))] rfl (by simp) rfl ?_
 refine JA fun K0 hK0 => ?_
 refine Qz F_mixed [some 2, some 3] rfl ?_
 simp only [zzK, QR, QP, QQ, JB, zz6, QO, ↓Qb]
 refine hK0 _ ?_; try clear hK0 K0
 refine kpA [0] ?_
 refine JA fun K0 hK0 => ?_
 refine Qz F_mixed [some 4] rfl ?_
 simp only [zzK, QR, QP, QQ, JB, zz6, QO, ↓Qb]
 refine hK0 _ ?_; try clear hK0 K0
 refine kpA [0, 4] ?_
 refine JA fun K0 hK0 => ?_
 refine JA fun K1 hK1 => ?_
 refine Qz F_mixed [some 5] rfl ?_
 simp only [zzK, QR, QP, QQ, JB, zz6, QO, ↓Qb]
 refine hK1 _ ?_; try clear hK1 K1
 refine kpA [0, 4, 5] ?_
 refine JH ?_
 refine JL (fun m s => ∃ pre post : List Int, l = pre ++ post ∧ m = post.length ∧ s = S 33 [(0, .d (ints l)), (4, .ref 4 pre.length), (5, .d (iv pre.length))] [(4, grow 89 2 4 (pre.map wideC))]) l.length _ (le_SK id [4] rfl (l' := [(0, .d (ints l)), (4, .ref 4 ([] : List Int).length), (5, .d (iv ([] : List Int).length))]) (m' := [(4, grow 89 2 4 (([] : List Int).map wideC))]) ?_ ?_ ?_ ?_) ⟨[], l, rfl, rfl, rfl⟩ ?_
 ·simp only [leV, JD, QQ, Qd, Qc]; exact ⟨VLe.data_ _, Qq (by decide), VLe.data_ _, trivial⟩
 ·simp [leR, grow]
 ·simp [wfV, QY, lookR]
 ·simp [wfR, grow]
 rintro m s ⟨pre, post, rfl, rfl, rfl⟩
 refine JA fun K2 hK2 => ?_
 refine JA fun K3 hK3 => ?_
 refine Qz F_mixed [some 8, some 9, some 10, some 11] rfl ?_
 simp only [zzK, QR, QP, QQ, JC, JE, zz12, F_sl25, Option.isSome_some, zz21, JM, zz22, ints, JN, zz6, QO, ↓Qb]
 refine hK3 _ ?_; try clear hK3 K3
 refine kpA [0, 4, 5, 11] ?_
 refine cnA ?_ ?_
 ·intro hb
  obtain ⟨x, post, rfl⟩ := more_of hb; clear hb
  have hx := hall x (by simp)
  refine JI ?_
  simp only [zz6, QO, ↓Qb]
  refine hK2 _ ?_; try clear hK2 K2
  refine kpA [0, 4, 5] ?_
  refine JA fun K2 hK2 => ?_
  refine JH ?_
  refine Qz F_mixed [some 14, some 15, some 16, some 17, some 18, some 19, some 20, some 21, some 4] rfl ?_
  simp only [zzK, QR, QP, QQ, JC, JW, zz23, zz24, F_sl25, F_sz3, QA, zzC, yyE, Qe, F_ok3, F_ag3, zz8, zzD, QS, QN, zzH, JE, JF, F_sl86, F_zero89, F_sz89, zz3, JS, zz1, zzG, maxLen_le, QT, F_by89, zz4, zz9, QB, JB, ints, grow, wideA, wideC, getD_mid, JN, lt_mid, ge_mid, zz6, QO, ↓Qb]
  refine JT F_go42 (fun hG => Of_ x hx.1 hx.2) (by simp [QY, QX, wideA, wideC]) (by simp) ?_
  simp only [zzK, QR, QP, QQ, JC, JW, zz23, zz24, F_sl25, F_sz3, QA, zzC, yyE, Qe, F_ok3, F_ag3, zz8, zzD, QS, QN, zzH, JE, JF, F_sl86, F_zero89, F_sz89, zz3, JS, zz1, zzG, maxLen_le, QT, F_by89, zz4, zz9, QB, JB, ints, grow, wideA, wideC, getD_mid, JN, lt_mid, ge_mid, zz6, QO, ↓Qb, atsL, oksG, JV, QZ, Qa, JO, Qm, QT, QS, unDs_cons, QB, QA, S_mem, yyF, QF, zz2]
  have hm : pre.length + 1 ≤ 1000000 := by simp at hl; omega
  refine ⟨by rw [maxLen_le _ hm]; trivial, by omega, ?_⟩
  clear hm
  refine hK2 _ ?_; try clear hK2 K2
  refine kpA [0, 4, 5] ?_
  refine Qz F_mixed [some 12, some 13, some 5] rfl ?_
  simp only [zzK, QR, QP, QQ, JC, zz21, JM, zz26, JB, zz6, QO, ↓Qb]
  refine ⟨post.length, _, by simp, le_SK (fun _ => 21) [] rfl (l' := [(0, .d (ints (pre ++ x :: post))), (4, .ref 4 (pre ++ [x]).length), (5, .d (iv (pre ++ [x]).length))]) (m' := [(4, grow 89 2 4 ((pre ++ [x]).map wideC))]) ?_ ?_ ?_ ?_, pre ++ [x], post, by simp, rfl, rfl⟩
  ·simp only [leV, JD, QQ, Qd, Qc, ints, wrap_len pre x (by simp at hl; omega)]
   refine ⟨VLe.data_ _, ?_, VLe.data_ _, trivial⟩
   rw [show pre.length + 1 = (pre ++ [x]).length from by simp]; exact VLe.ref_ (f := fun _ => 21) (r := 4) (by simp)
  ·refine ⟨fun _ => ⟨_, rfl, Qw (by simp [wideC])⟩, fun h => by simp at h, trivial⟩
  ·simp [wfV, QY, lookR, grow]
  ·exact ⟨wf_data _ _, trivial⟩
 ·intro hb
  obtain rfl := none_of hb; clear hb
  simp only [QG] at hl hall ⊢
  have hfit := fits_small hall hl
  refine JK ?_
  simp only [zz6, QO, ↓Qb]
  refine hK0 _ ?_; try clear hK0 K0
  refine kpA [4] ?_
  refine JA fun K0 hK0 => ?_
  refine Qz F_mixed [some 23, some 24, some 22, some 25, some 26, some 6, none, some 7] rfl ?_
  simp only [zzK, QR, QP, QQ, JC, JE, JF, zz14, zzD, QS, QN, zz32, JS, F_zero89, zzC, QA, yyE, Qe, zzH, zz10, zz18, F_ok89, F_sz89, splice, QG, zz1, zzG, JB, wides, wideA, JN, grow, zz6, QO, ↓Qb]
  refine JT F_go43 (fun hG => WSum_ pre hl (fun x hx => ⟨by have := (hall x hx).1; omega, by have := (hall x hx).2; omega⟩)) (by simp [QY, QX, wideA]) (by simp) ?_
  simp only [zzK, QR, QP, QQ, JC, JE, JF, zz14, zzD, QS, QN, zz32, JS, F_zero89, zzC, QA, yyE, Qe, zzH, zz10, zz18, F_ok89, F_sz89, splice, QG, zz1, zzG, JB, wides, wideA, JN, grow, zz6, QO, ↓Qb, atsL, oksG, JV, QZ, Qa, JO, Qm, QT, QS, zz9, QB, QA, S_mem, yyF, QF, zz2]
  refine hK0 _ ?_; try clear hK0 K0
  refine kpA [6, 7] ?_
  refine JA fun K0 hK0 => ?_
  refine JA fun K1 hK1 => ?_
  refine Qz F_mixed [some 27, some 28] rfl ?_
  simp only [zzK, QR, QP, QQ, JC, zz29, JM, zz30, zz6, QO, ↓Qb]
  refine hK1 _ ?_; try clear hK1 K1
  refine kpA [6, 28] ?_
  refine cnA ?_ ?_
  ·intro hb
   simp [hfit] at hb
  ·intro hb
   clear hb
   refine JI ?_
   simp only [zz6, QO, ↓Qb]
   refine hK0 _ ?_; try clear hK0 K0
   refine kpA [6] ?_
   refine JA fun K0 hK0 => ?_
   refine Qz F_mixed [some 29, some 30, some 31, some 32, some 2, some 3] rfl ?_
   simp only [zzK, QR, QP, QQ, F_ok89, F_ag89, F_sz89, zz8, zz23, zzD, QS, QN, zzH, zzC, QA, yyE, Qe, JE, JF, zz14, JB, hfit, wideC, wideA, QW, zz6, QO, ↓Qb]
   refine JT F_go44 (fun hG => Int_ pre.sum) (by simp [QY, QX, wideC, wideA]) (by simp) ?_
   simp only [zzK, QR, QP, QQ, F_ok89, F_ag89, F_sz89, zz8, zz23, zzD, QS, QN, zzH, zzC, QA, yyE, Qe, JE, JF, zz14, JB, hfit, wideC, wideA, QW, zz6, QO, ↓Qb, atsL, oksG, JV, QZ, Qa, JO, Qm, QT, QS, zz9, QB, QA, S_mem, yyF, QF, zz2]
   refine hK0 _ ?_; try clear hK0 K0
   refine kpA [2, 3] ?_
   refine JJ ?_
   simp only [zz6, QO, ↓Qb]
   refine dnA ?_
   simp only [QD, QE, resA, JZ, QR, QP, JD, QQ, Qd, Qc, JP]
   simp only [QG]
theorem rMay_ (l : List LegV) (hl : l.length ≤ 1000000) : ACalls Try.prog 35 [legs l] [] (bv (l.all legOk)) := by
 refine acalls_S (rs := [.tmp 2]) Try.func35 rfl rfl 26 [(0, .d (legs l))] rfl (by simp) rfl ?_
 refine JA fun K0 hK0 => ?_
 refine Qz F_mixed [some 2] rfl ?_
 simp only [zzK, QR, QP, QQ, JB, zz6, QO, ↓Qb]
 refine hK0 _ ?_; try clear hK0 K0
 refine kpA [0] ?_
 refine JA fun K0 hK0 => ?_
 refine JA fun K1 hK1 => ?_
 refine Qz F_mixed [some 3] rfl ?_
 simp only [zzK, QR, QP, QQ, JB, zz6, QO, ↓Qb]
 refine hK1 _ ?_; try clear hK1 K1
 refine kpA [0, 3] ?_
 refine JH ?_
 refine JL (fun m s => ∃ pre post : List LegV, l = pre ++ post ∧ pre.all legOk = true ∧ m = post.length ∧ s = S 26 [(0, .d (legs l)), (3, .d (iv pre.length))] []) l.length _ (le_SK id [] rfl (l' := [(0, .d (legs l)), (3, .d (iv ([] : List LegV).length))]) (m' := []) ?_ ?_ ?_ ?_) ⟨[], l, rfl, rfl, rfl, rfl⟩ ?_
 ·simp only [leV, JD, QQ, Qd, Qc, legs, JN]; exact ⟨Qn _, Qn _, trivial⟩
 ·exact trivial
 ·simp [wfV, QY, QX, lookR]
 ·simp [wfR, QX, QY]
 rintro m s ⟨pre, post, rfl, hp, rfl, rfl⟩
 refine JA fun K2 hK2 => ?_
 refine JA fun K3 hK3 => ?_
 refine Qz F_mixed [some 4, some 5, some 6, some 7] rfl ?_
 simp only [zzK, QR, QP, QQ, JC, JE, zz12, F_sl26, Option.isSome_some, zz21, JM, zz22, legs, JN, zz6, QO, ↓Qb]
 refine hK3 _ ?_; try clear hK3 K3
 refine kpA [0, 3, 7] ?_
 refine cnA ?_ ?_
 ·intro hb
  obtain ⟨x, post, rfl⟩ := more_of hb; clear hb
  refine JI ?_
  simp only [zz6, QO, ↓Qb]
  refine hK2 _ ?_; try clear hK2 K2
  refine kpA [0, 3] ?_
  refine JA fun K2 hK2 => ?_
  refine JH ?_
  refine JA fun K3 hK3 => ?_
  refine Qz F_mixed [some 10, some 11, some 12, some 13, some 14, some 15, some 16, some 17, some 18, some 19, some 20, some 21, some 22, some 23, some 24, some 25] rfl ?_
  simp only [zzK, QR, QP, QQ, QU, JZ, zz5, Qj, Qi, Qh, JC, JW, zz23, zz24, F_sl26, F_sz34, QA, zzC, yyE, Qe, zz19, F_off34_0, zzH, QN, QS, F_ok32, F_ag32, F_sz32, zz8, zzD, JE, JF, zz29, JM, zz30, F_off34_1, F_ok3, F_ag3, F_sz3, zz13, JQ, JR, legs, legC, acC, getD_mid, JN, lt_mid, ge_mid, QW, zz6, QO, ↓Qb]
  refine JT F_go38 (fun hG => rAcRight_ x.ac) (by simp [QY, QX]) (by simp) ?_
  simp only [zzK, QR, QP, QQ, QU, JZ, zz5, Qj, Qi, Qh, JC, JW, zz23, zz24, F_sl26, F_sz34, QA, zzC, yyE, Qe, zz19, F_off34_0, zzH, QN, QS, F_ok32, F_ag32, F_sz32, zz8, zzD, JE, JF, zz29, JM, zz30, F_off34_1, F_ok3, F_ag3, F_sz3, zz13, JQ, JR, legs, legC, acC, getD_mid, JN, lt_mid, ge_mid, QW, zz6, QO, ↓Qb, atsL, oksG, JV, QZ, Qa, JO, Qm, QT, QS, zz9, QB, QA, S_mem, yyF, QF, zz2]
  refine JT F_go39 (fun hG => rRight_ x.amt) (by simp [QY, QX]) (by simp) ?_
  simp only [zzK, QR, QP, QQ, QU, JZ, zz5, Qj, Qi, Qh, JC, JW, zz23, zz24, F_sl26, F_sz34, QA, zzC, yyE, Qe, zz19, F_off34_0, zzH, QN, QS, F_ok32, F_ag32, F_sz32, zz8, zzD, JE, JF, zz29, JM, zz30, F_off34_1, F_ok3, F_ag3, F_sz3, zz13, JQ, JR, legs, legC, acC, getD_mid, JN, lt_mid, ge_mid, QW, zz6, QO, ↓Qb, atsL, oksG, JV, QZ, Qa, JO, Qm, QT, QS, zz9, QB, QA, S_mem, yyF, QF, zz2]
  refine hK3 _ ?_; try clear hK3 K3
  refine kpA [0, 3, 25] ?_
  refine cnA ?_ ?_
  ·intro hb
   have hq : legOk x = false := by
    simp only [legOk]
    cases h1 : acOk x.ac <;> cases h2 : rightN x.amt <;> simp [h1, h2] at hb ⊢
   try clear hb
   refine JA fun K4 hK4 => ?_
   refine Qz F_mixed [some 2] rfl ?_
   simp only [zzK, QR, QP, QQ, JB, zz6, QO, ↓Qb]
   refine hK4 _ ?_; try clear hK4 K4
   refine kpA [2] ?_
   refine JJ ?_
   simp only [zz6, QO, ↓Qb]
   refine dnA ?_
   simp only [QD, QE, resA, JZ, QR, QP, JD, QQ, Qd, Qc, JP]
   simp [hq]
  ·intro hb
   have hq : legOk x = true := by
    simp only [legOk]
    cases h1 : acOk x.ac <;> cases h2 : rightN x.amt <;> simp [h1, h2] at hb ⊢
   clear hb
   refine JI ?_
   simp only [zz6, QO, ↓Qb]
   refine hK2 _ ?_; try clear hK2 K2
   refine kpA [0, 3] ?_
   refine Qz F_mixed [some 8, some 9, some 3] rfl ?_
   simp only [zzK, QR, QP, QQ, JC, zz21, JM, zz26, JB, zz6, QO, ↓Qb]
   refine ⟨post.length, _, by simp, le_SK id [] rfl (l' := [(0, .d (legs (pre ++ x :: post))), (3, .d (iv (pre ++ [x]).length))]) (m' := []) ?_ ?_ ?_ ?_, pre ++ [x], post, by simp, by simp [hp, hq], rfl, rfl⟩
   ·simp only [leV, JD, QQ, Qd, Qc, legs, JN, wrap_len pre x (by simp at hl; omega)]; exact ⟨Qn _, Qn _, trivial⟩
   ·exact trivial
   ·simp [wfV, QY, QX, lookR]
   ·simp [wfR, QX, QY]
 ·intro hb
  obtain rfl := none_of hb; clear hb
  refine JK ?_
  simp only [zz6, QO, ↓Qb]
  refine hK0 _ ?_; try clear hK0 K0
  refine kpA [] ?_
  refine JA fun K0 hK0 => ?_
  refine Qz F_mixed [some 2] rfl ?_
  simp only [zzK, QR, QP, QQ, JB, zz6, QO, ↓Qb]
  refine hK0 _ ?_; try clear hK0 K0
  refine kpA [2] ?_
  refine JJ ?_
  simp only [zz6, QO, ↓Qb]
  refine dnA ?_
  simp only [QD, QE, resA, JZ, QR, QP, JD, QQ, Qd, Qc, JP]
  simp [hp]
theorem rCheck_ (l : List LegV) (hl : l.length ≤ 1000000) : ACalls Try.prog 17 [legs l] [] (.d (iv (chkE l))) := by
 refine acalls_S (rs := [.tmp 2]) Try.func17 rfl rfl 54 [(0, .d (legs l))] rfl (by simp) rfl ?_
 refine JA fun K0 hK0 => ?_
 refine Qz F_mixed [some 2] rfl ?_
 simp only [zzK, QR, QP, QQ, JB, zz6, QO, ↓Qb]
 refine hK0 _ ?_; try clear hK0 K0
 refine kpA [0] ?_
 refine JA fun K0 hK0 => ?_
 refine JA fun K1 hK1 => ?_
 refine Qz F_mixed [some 8, some 9, some 10] rfl ?_
 simp only [zzK, QR, QP, QQ, JC, JE, zz12, F_sl26, Option.isSome_some, zz21, JM, zz34, legs, JN, zz6, QO, ↓Qb]
 refine hK1 _ ?_; try clear hK1 K1
 refine kpA [0, 10] ?_
 refine cnA ?_ ?_
 ·intro hb
  have e : chkE l = 2 := by rw [chkE, hb]; try rfl
  refine JA fun K2 hK2 => ?_
  refine Qz F_mixed [some 2] rfl ?_
  simp only [zzK, QR, QP, QQ, JB, zz6, QO, ↓Qb]
  refine hK2 _ ?_; try clear hK2 K2
  refine kpA [2] ?_
  refine JJ ?_
  simp only [zz6, QO, ↓Qb]
  refine dnA ?_
  simp only [QD, QE, resA, JZ, QR, QP, JD, QQ, Qd, Qc, JP]
  rw [e]
 ·intro hb
  have h1 : ((l.length : Int) == 0) = false := hb
  clear hb
  refine JI ?_
  simp only [zz6, QO, ↓Qb]
  refine hK0 _ ?_; try clear hK0 K0
  refine kpA [0] ?_
  refine JA fun K0 hK0 => ?_
  refine JA fun K1 hK1 => ?_
  refine Qz F_mixed [some 11, some 12, some 13] rfl ?_
  simp only [zzK, QR, QP, QQ, JC, JE, zz12, F_sl26, Option.isSome_some, zz21, JM, zz25, legs, JN, zz6, QO, ↓Qb]
  refine hK1 _ ?_; try clear hK1 K1
  refine kpA [0, 13] ?_
  refine cnA ?_ ?_
  ·intro hb
   have e : chkE l = 5 := by rw [chkE, h1, hb]; rfl
   refine JA fun K2 hK2 => ?_
   refine Qz F_mixed [some 2] rfl ?_
   simp only [zzK, QR, QP, QQ, JB, zz6, QO, ↓Qb]
   refine hK2 _ ?_; try clear hK2 K2
   refine kpA [2] ?_
   refine JJ ?_
   simp only [zz6, QO, ↓Qb]
   refine dnA ?_
   simp only [QD, QE, resA, JZ, QR, QP, JD, QQ, Qd, Qc, JP]
   rw [e]
  ·intro hb
   have h2 : decide ((l.length : Int) > 64) = false := hb
   clear hb
   refine JI ?_
   simp only [zz6, QO, ↓Qb]
   refine hK0 _ ?_; try clear hK0 K0
   refine kpA [0] ?_
   refine JA fun K0 hK0 => ?_
   refine JA fun K1 hK1 => ?_
   refine Qz F_mixed [some 14, some 15, some 16] rfl ?_
   simp only [zzK, QR, QP, QQ, JC, JE, JF, zz29, JM, zz30, legs, zz6, QO, ↓Qb]
   refine JT F_go35 (fun hG => rMay_ l hl) (by simp [QY, QX]) (by simp) ?_
   simp only [zzK, QR, QP, QQ, JC, JE, JF, zz29, JM, zz30, legs, zz6, QO, ↓Qb, atsL, oksG, JV, QZ, Qa, JO, Qm, QT, QS, zz9, QB, QA, zzC, yyF, zzD, zz2]
   refine hK1 _ ?_; try clear hK1 K1
   refine kpA [0, 16] ?_
   refine cnA ?_ ?_
   ·intro hb
    have h3 : l.all legOk = false := by simpa using hb
    have e : chkE l = 3 := by rw [chkE, h1, h2, h3]; rfl
    refine JA fun K2 hK2 => ?_
    refine Qz F_mixed [some 2] rfl ?_
    simp only [zzK, QR, QP, QQ, JB, zz6, QO, ↓Qb]
    refine hK2 _ ?_; try clear hK2 K2
    refine kpA [2] ?_
    refine JJ ?_
    simp only [zz6, QO, ↓Qb]
    refine dnA ?_
    simp only [QD, QE, resA, JZ, QR, QP, JD, QQ, Qd, Qc, JP]
    rw [e]
   ·intro hb
    have h3 : l.all legOk = true := by simpa using hb
    clear hb
    refine JI ?_
    simp only [zz6, QO, ↓Qb]
    refine hK0 _ ?_; try clear hK0 K0
    refine kpA [0] ?_
    refine JA fun K0 hK0 => ?_
    refine JA fun K1 hK1 => ?_
    refine Qz F_mixed [some 3] rfl ?_
    simp only [zzK, QR, QP, QQ, JB, zz6, QO, ↓Qb]
    refine hK1 _ ?_; try clear hK1 K1
    refine kpA [0, 3] ?_
    refine JH ?_
    refine JL (fun m s => ∃ c : Nat, c ≤ 3 ∧ (∀ k : Nat, k < c → chkC (k : Int) l = false) ∧ m = 3 - c ∧ s = S 54 [(0, .d (legs l)), (3, .d (iv c))] []) 3 _ (le_SK id [] rfl (l' := [(0, .d (legs l)), (3, .d (iv ((0 : Nat) : Int)))]) (m' := []) ?_ ?_ ?_ ?_) ⟨0, by omega, fun k hk => by omega, rfl, rfl⟩ ?_
    ·simp only [leV, JD, QQ, Qd, Qc, legs]; exact ⟨Qn _, Qn _, trivial⟩
    ·trivial
    ·simp [wfV, QY, lookR]
    ·trivial
    rintro m s ⟨c, hc3, hck, rfl, rfl⟩
    refine JA fun K2 hK2 => ?_
    refine JA fun K3 hK3 => ?_
    refine Qz F_mixed [some 17, some 18] rfl ?_
    simp only [zzK, QR, QP, QQ, JC, zz21, JM, zz22, zz6, QO, ↓Qb]
    refine hK3 _ ?_; try clear hK3 K3
    refine kpA [0, 3, 18] ?_
    refine cnA ?_ ?_
    ·intro hb
     have hlt : c < 3 := by have := Qg hb; omega
     clear hb
     have hwc : Ql .i64 ((c : Int) + 1) = ((c + 1 : Nat) : Int) := by rw [wrapI (by omega) (by omega)]; try omega
     refine JI ?_
     simp only [zz6, QO, ↓Qb]
     refine hK2 _ ?_; try clear hK2 K2
     refine kpA [0, 3] ?_
     refine JA fun K2 hK2 => ?_
     refine JH ?_
     refine JA fun K3 hK3 => ?_
     refine Qz F_mixed [some 4] rfl ?_
     simp only [zzK, QR, QP, QQ, JB, zz6, QO, ↓Qb]
     refine hK3 _ ?_; try clear hK3 K3
     refine kpA [0, 3, 4] ?_
     refine JA fun K3 hK3 => ?_
     refine JA fun K4 hK4 => ?_
     refine Qz F_mixed [some 5] rfl ?_
     simp only [zzK, QR, QP, QQ, JB, zz6, QO, ↓Qb]
     refine hK4 _ ?_; try clear hK4 K4
     refine kpA [0, 3, 4, 5] ?_
     refine JH ?_
     refine JL (fun m s => ∃ pre post : List LegV, l = pre ++ post ∧ m = post.length ∧ s = S 54 [(0, .d (legs l)), (3, .d (iv c)), (4, .ref 4 (amts (curL (c : Int) pre)).length), (5, .d (iv (pre).length))] [(4, grow 3 1 4 ((amts (curL (c : Int) pre)).map fun n => [iv n]))]) l.length _ (le_SK id [4] rfl (l' := [(0, .d (legs l)), (3, .d (iv c)), (4, .ref 4 (amts (curL (c : Int) ([] : List LegV))).length), (5, .d (iv (([] : List LegV)).length))]) (m' := [(4, grow 3 1 4 ((amts (curL (c : Int) ([] : List LegV))).map fun n => [iv n]))]) ?_ ?_ ?_ ?_) ⟨[], l, rfl, rfl, rfl⟩ ?_
     ·simp only [leV, JD, QQ, Qd, Qc, legs, JN]; exact ⟨Qo rfl, Qo rfl, Qq (by decide), Qo rfl, trivial⟩
     ·exact ⟨fun h => by simp at h, fun _ => rfl, trivial⟩
     ·simp [wfV, QY, lookR]
     ·simp [wfR, grow, amts, curL, QX, QY]
     rintro m s ⟨pre, post, hsp, rfl, rfl⟩
     have hspl := congrArg List.length hsp
     simp only [QC] at hspl
     refine JA fun K5 hK5 => ?_
     refine JA fun K6 hK6 => ?_
     refine Qz F_mixed [some 21, some 22, some 23, some 24] rfl ?_
     simp only [zzK, QR, QP, QQ, JC, JE, zz12, F_sl26, Option.isSome_some, zz21, JM, zz22, legs, JN, zz6, QO, ↓Qb]
     refine hK6 _ ?_; try clear hK6 K6
     refine kpA [0, 3, 4, 5, 24] ?_
     refine cnA ?_ ?_
     ·intro hb
      obtain ⟨x, post, rfl⟩ : ∃ x t, post = x :: t := by
       cases post with
       | nil => have := Qg hb; simp at hspl; omega
       | cons x t => exact ⟨x, t, rfl⟩
      clear hb
      simp only [QF] at hspl
      have gx : (l.map legC).getD pre.length [] = [iv x.ac.kind, iv x.ac.who, iv x.ac.cur, iv x.amt] := by
       rw [hsp, List.map_append]; exact gd_mid' (A := pre.map legC) _ _ (by simp)
      have b1 := ltI (show pre.length < l.length by omega)
      have hwi : Ql .i64 ((pre.length : Int) + 1) = ((pre.length + 1 : Nat) : Int) := by rw [wrapI (by omega) (by omega)]; try omega
      have hcf : (curL (c : Int) pre).length ≤ pre.length := List.length_filter_le _ _
      have hca : (amts (curL (c : Int) pre)).length = (curL (c : Int) pre).length := by simp [amts]
      refine JI ?_
      simp only [zz6, QO, ↓Qb]
      refine hK5 _ ?_; try clear hK5 K5
      refine kpA [0, 3, 4, 5] ?_
      refine JA fun K5 hK5 => ?_
      refine JH ?_
      refine JA fun K6 hK6 => ?_
      refine Qz F_mixed [some 27, some 28, some 29, some 30, some 31, some 32, some 33, some 34] rfl ?_
      simp only [zzK, QR, QP, QQ, JC, JW, zz23, zz24, F_sl26, F_sz34, QA, zzC, yyE, Qe, zz19, F_off34_0, zzH, QN, QS, F_off32_2, F_ok3, F_ag3, F_sz3, zz8, zzD, zz21, JM, zz34, legs, legC, JN, gx, b1, ge0, QV, QW, zz6, QO, ↓Qb]
      refine hK6 _ ?_; try clear hK6 K6
      refine kpA [0, 3, 4, 5, 34] ?_
      refine cnA ?_ ?_
      ·intro hb
       have hcq : (x.ac.cur == (c : Int)) = true := hb
       clear hb
       have hcx : curL (c : Int) (pre ++ [x]) = curL (c : Int) pre ++ [x] := by simp only [curL, List.filter_append, List.filter_cons, hcq, List.filter_nil, if_true]
       have hcl : (amts (curL (c : Int) pre ++ [x])).length = (amts (curL (c : Int) pre)).length + 1 := by simp [amts]
       refine Qz F_mixed [some 35, some 36, some 37, some 38, some 39, some 40, some 41, some 42, some 4] rfl ?_
       simp only [zzK, QR, QP, QQ, JC, JW, zz23, zz24, F_sl26, F_sz34, QA, zzC, yyE, Qe, zz19, F_off34_1, zzH, QN, QS, F_ok3, F_ag3, F_sz3, zz8, zzD, F_sl25, F_zero3, zz3, JS, zz1, zzG, maxLen_le, QT, JE, F_by3, zz4, zz9, QB, JB, legs, JN, gx, b1, ge0, QV, QW, grow, unDs_map, zz6, QO, ↓Qb]
       have hm : (amts (curL (c : Int) pre)).length + 1 ≤ 1000000 := by omega
       first | refine ⟨le_maxLen hm, by omega, ?_⟩ | refine ⟨by simp [amts], le_maxLen hm, by omega, ?_⟩
       clear hm
       refine hK5 _ ?_; try clear hK5 K5
       refine kpA [0, 3, 4, 5] ?_
       refine Qz F_mixed [some 25, some 26, some 5] rfl ?_
       simp only [zzK, QR, QP, QQ, JC, zz21, JM, zz26, JB, zz6, QO, ↓Qb]
       refine ⟨post.length, _, by simp, le_SK (fun r => bif r == 4 then 42 else r) [] rfl (l' := [(0, .d (legs l)), (3, .d (iv c)), (4, .ref 4 (amts (curL (c : Int) (pre ++ [x]))).length), (5, .d (iv ((pre ++ [x])).length))]) (m' := [(4, grow 3 1 4 ((amts (curL (c : Int) (pre ++ [x]))).map fun n => [iv n]))]) ?_ ?_ ?_ ?_, pre ++ [x], post, by rw [hsp]; simp, rfl, rfl⟩
       ·simp only [leV, JD, QQ, Qd, Qc, hwi, hcx, QC, QM]
        refine ⟨Qo rfl, Qo rfl, ?_, Qo rfl, trivial⟩
        rw [hcl]; exact VLe.ref_ (f := (fun r => bif r == 4 then 42 else r)) (r := 4) (by simp)
       ·exact ⟨fun _ => ⟨_, rfl, Qw (by rw [hcx] <;> simp [amts])⟩, fun h => by simp at h, trivial⟩
       ·simp [wfV, QY, lookR, grow]
       ·exact ⟨wf_data _ _, trivial⟩
      ·intro hb
       have hcq : (x.ac.cur == (c : Int)) = false := hb
       clear hb
       have hcx : curL (c : Int) (pre ++ [x]) = curL (c : Int) pre := by simp only [curL, List.filter_append, List.filter_cons, hcq, List.filter_nil, QG, Bool.false_eq_true, if_false]
       have hcl : (amts (curL (c : Int) pre)).length = (amts (curL (c : Int) pre)).length := rfl
       refine JI ?_
       simp only [zz6, QO, ↓Qb]
       refine hK5 _ ?_; try clear hK5 K5
       refine kpA [0, 3, 4, 5] ?_
       refine Qz F_mixed [some 25, some 26, some 5] rfl ?_
       simp only [zzK, QR, QP, QQ, JC, zz21, JM, zz26, JB, zz6, QO, ↓Qb]
       refine ⟨post.length, _, by simp, le_SK (fun r => bif r == 4 then 4 else r) [] rfl (l' := [(0, .d (legs l)), (3, .d (iv c)), (4, .ref 4 (amts (curL (c : Int) (pre ++ [x]))).length), (5, .d (iv ((pre ++ [x])).length))]) (m' := [(4, grow 3 1 4 ((amts (curL (c : Int) (pre ++ [x]))).map fun n => [iv n]))]) ?_ ?_ ?_ ?_, pre ++ [x], post, by rw [hsp]; simp, rfl, rfl⟩
       ·simp only [leV, JD, QQ, Qd, Qc, hwi, hcx, QC, QM]
        refine ⟨Qo rfl, Qo rfl, ?_, Qo rfl, trivial⟩
        rw [hcl]; exact VLe.ref_ (f := (fun r => bif r == 4 then 4 else r)) (r := 4) (by simp)
       ·exact ⟨fun _ => ⟨_, rfl, Qw (by rw [hcx] <;> simp [amts])⟩, fun h => by simp at h, trivial⟩
       ·simp [wfV, QY, lookR, grow]
       ·exact ⟨wf_data _ _, trivial⟩
     ·intro hb
      obtain rfl : post = [] := by
       cases post with
       | nil => rfl
       | cons x t => have := Qf hb; simp at hspl; omega
      clear hb
      simp only [QG] at hsp
      obtain rfl : l = pre := hsp
      have hcf : (curL (c : Int) l).length ≤ l.length := List.length_filter_le _ _
      have hca : (amts (curL (c : Int) l)).length = (curL (c : Int) l).length := by simp [amts]
      refine JK ?_
      simp only [zz6, QO, ↓Qb]
      refine hK3 _ ?_; try clear hK3 K3
      refine kpA [0, 3, 4] ?_
      refine JA fun K3 hK3 => ?_
      refine Qz F_mixed [some 44, some 45, some 43, some 46, some 47, some 6, some 7] rfl ?_
      simp only [zzK, QR, QP, QQ, JC, JE, JF, zz14, zzD, QS, QN, zzF, JB, ints, grow, D.sl.injEq, JN, zz6, QO, ↓Qb]
      refine JT F_go23 (fun hG => Add_ (amts (curL (c : Int) l)) (by omega) (rt_bound (amts_rt fun y hy => ok_rt h3 y (List.mem_filter.1 hy).1))) (by simp [QY, QX]) (by simp) ?_
      simp only [zzK, QR, QP, QQ, JC, JE, JF, zz14, zzD, QS, QN, zzF, JB, ints, grow, JN, zz6, QO, ↓Qb, atsL, oksG, JV, QZ, Qa, JO, Qm, QT, QS, zz9, QB, QA, zzC, yyF, QF, zz2]
      first | refine ⟨by simp [amts], ?_⟩ | skip
      refine hK3 _ ?_; try clear hK3 K3
      refine kpA [0, 3, 6, 7] ?_
      refine JA fun K3 hK3 => ?_
      refine Qz F_mixed [some 48, some 49, some 50, some 51, some 52, some 53] rfl ?_
      simp only [zzK, QR, QP, QQ, QU, JZ, zz5, Qj, Qi, Qh, and_self, JC, zz29, JM, zz30, zz21, zz28, zz13, JQ, JR, zz6, QO, ↓Qb]
      refine hK3 _ ?_; try clear hK3 K3
      refine kpA [0, 3, 53] ?_
      refine cnA ?_ ?_
      ·intro hb
       have hcc : chkC (c : Int) l = true := by
        rw [chkC_ref h3]
        revert hb
        cases rightN (amts (curL (c : Int) l)).sum <;> simp
       clear hb
       have e : chkE l = 12 := by
        rw [chkE, h1, h2, h3]
        have : c = 0 ∨ c = 1 ∨ c = 2 := by omega
        rcases this with rfl | rfl | rfl
        ·rw [show chkC 0 l = true from hcc]; rfl
        ·rw [show chkC 1 l = true from hcc]; cases chkC 0 l <;> rfl
        ·rw [show chkC 2 l = true from hcc]; cases chkC 0 l <;> cases chkC 1 l <;> rfl
       refine JA fun K4 hK4 => ?_
       refine Qz F_mixed [some 2] rfl ?_
       simp only [zzK, QR, QP, QQ, JB, zz6, QO, ↓Qb]
       refine hK4 _ ?_; try clear hK4 K4
       refine kpA [2] ?_
       refine JJ ?_
       simp only [zz6, QO, ↓Qb]
       refine dnA ?_
       simp only [QD, QE, resA, JZ, QR, QP, JD, QQ, Qd, Qc, JP]
       rw [e]
      ·intro hb
       have hcc : chkC (c : Int) l = false := by
        rw [chkC_ref h3]
        revert hb
        cases rightN (amts (curL (c : Int) l)).sum <;> simp
       clear hb
       refine JI ?_
       simp only [zz6, QO, ↓Qb]
       refine hK2 _ ?_; try clear hK2 K2
       refine kpA [0, 3] ?_
       refine Qz F_mixed [some 19, some 20, some 3] rfl ?_
       simp only [zzK, QR, QP, QQ, JC, zz21, JM, zz26, JB, hwc, zz6, QO, ↓Qb]
       refine ⟨3 - (c + 1), _, by omega, le_SK id [] rfl (l' := [(0, .d (legs l)), (3, .d (iv ((c + 1 : Nat) : Int)))]) (m' := []) ?_ ?_ ?_ ?_, c + 1, by omega, fun k hk => by
        rcases Nat.lt_succ_iff_lt_or_eq.1 hk with hk | rfl
        ·exact hck k hk
        ·exact hcc, rfl, rfl⟩
       ·simp only [leV, JD, QQ, Qd, Qc, hwc, legs]; exact ⟨Qn _, Qn _, trivial⟩
       ·trivial
       ·simp [wfV, QY, lookR]
       ·trivial
    ·intro hb
     obtain rfl : c = 3 := by have := Qf hb; omega
     clear hb
     have e : chkE l = 0 := by
      rw [chkE, h1, h2, h3, show chkC 0 l = false from hck 0 (by omega), show chkC 1 l = false from hck 1 (by omega), show chkC 2 l = false from hck 2 (by omega)]; rfl
     refine JK ?_
     simp only [zz6, QO, ↓Qb]
     refine hK0 _ ?_; try clear hK0 K0
     refine kpA [] ?_
     refine JA fun K0 hK0 => ?_
     refine Qz F_mixed [some 2] rfl ?_
     simp only [zzK, QR, QP, QQ, JB, zz6, QO, ↓Qb]
     refine hK0 _ ?_; try clear hK0 K0
     refine kpA [2] ?_
     refine JJ ?_
     simp only [zz6, QO, ↓Qb]
     refine dnA ?_
     simp only [QD, QE, resA, JZ, QR, QP, JD, QQ, Qd, Qc, JP]
     rw [e]
theorem rFlo_ (a : AcV) : ACalls Try.prog 24 [.agg (acC a)] [] (.d (iv (flo a))) := by
 refine acalls_S (rs := [.tmp 2]) Try.func24 rfl rfl 15 [(0, .d (.agg (acC a)))] rfl (by simp) rfl ?_
 refine JA fun K0 hK0 => ?_
 refine Qz F_mixed [some 1, some 2] rfl ?_
 simp only [zzK, QR, QP, QQ, zz35, JS, zz1, zzG, zzD, zzC, QA, yyE, Qe, QS, QN, zzH, JB, acC, zz6, QO, ↓Qb]
 refine hK0 _ ?_; try clear hK0 K0
 refine kpA [1] ?_
 refine JA fun K0 hK0 => ?_
 refine JA fun K1 hK1 => ?_
 refine Qz F_mixed [some 3, some 4, some 5, some 6, some 7, some 8, some 9, some 10, some 11, some 12, some 13, some 14] rfl ?_
 simp only [zzK, QR, QP, QQ, QU, JZ, zz5, Qj, Qi, Qh, F_ok32, F_ag32, F_sz32, zz8, zz23, zzD, QS, QN, zzH, zzC, QA, yyE, Qe, JE, JF, JC, zz19, F_off32_0, F_ok3, F_ag3, F_sz3, zz21, JM, zz34, zz13, JQ, JR, acC, QW, zz6, QO, ↓Qb]
 refine JT F_go38 (fun hG => rAcRight_ a) (by simp [QY, QX]) (by simp) ?_
 simp only [zzK, QR, QP, QQ, QU, JZ, zz5, Qj, Qi, Qh, F_ok32, F_ag32, F_sz32, zz8, zz23, zzD, QS, QN, zzH, zzC, QA, yyE, Qe, JE, JF, JC, zz19, F_off32_0, F_ok3, F_ag3, F_sz3, zz21, JM, zz34, zz13, JQ, JR, acC, QW, zz6, QO, ↓Qb, atsL, oksG, JV, QZ, Qa, JO, Qm, QT, QS, zz9, QB, QA, S_mem, yyF, QF, zz2]
 refine hK1 _ ?_; try clear hK1 K1
 refine kpA [14] ?_
 refine cnA ?_ ?_
 ·intro hb
  have e : (acOk a && (a.kind == 3 || a.kind == 4)) = true := hb
  clear hb
  refine JA fun K2 hK2 => ?_
  refine Qz F_mixed [some 2] rfl ?_
  simp only [zzK, QR, QP, QQ, JB, zz6, QO, ↓Qb]
  refine hK2 _ ?_; try clear hK2 K2
  refine kpA [2] ?_
  refine JJ ?_
  simp only [zz6, QO, ↓Qb]
  refine dnA ?_
  simp only [QD, QE, resA, JZ, QR, QP, JD, QQ, Qd, Qc, JP]
  simp only [flo, e, Qd]
 ·intro hb
  have e : (acOk a && (a.kind == 3 || a.kind == 4)) = false := hb
  clear hb
  refine JI ?_
  simp only [zz6, QO, ↓Qb]
  refine hK0 _ ?_; try clear hK0 K0
  refine kpA [] ?_
  refine JA fun K0 hK0 => ?_
  refine Qz F_mixed [some 2] rfl ?_
  simp only [zzK, QR, QP, QQ, JB, zz6, QO, ↓Qb]
  refine hK0 _ ?_; try clear hK0 K0
  refine kpA [2] ?_
  refine JJ ?_
  simp only [zz6, QO, ↓Qb]
  refine dnA ?_
  simp only [QD, QE, resA, JZ, QR, QP, JD, QQ, Qd, Qc, JP]
  simp only [flo, e, Qc]
theorem rLess_ (a b : AcV) : ACalls Try.prog 40 [.agg (acC a), .agg (acC b)] [] (bv (acLt a b)) := by
 refine acalls_S (rs := [.tmp 4]) Try.func40 rfl rfl 30 [(0, .d (.agg (acC a))), (1, .d (.agg (acC b)))] rfl (by simp) rfl ?_
 refine JA fun K0 hK0 => ?_
 refine Qz F_mixed [some 2, some 3, some 4] rfl ?_
 simp only [zzK, QR, QP, QQ, zz35, JS, zz1, zzG, zzD, zzC, QA, yyE, Qe, QS, QN, zzH, JB, acC, zz6, QO, ↓Qb]
 refine hK0 _ ?_; try clear hK0 K0
 refine kpA [2, 3] ?_
 refine JA fun K0 hK0 => ?_
 refine JA fun K1 hK1 => ?_
 refine Qz F_mixed [some 5, some 6, some 7, some 8, some 9] rfl ?_
 simp only [zzK, QR, QP, QQ, zz19, zz23, F_off32_0, zzH, QN, QS, F_ok3, F_ag3, F_sz3, zz8, zzD, zzC, QA, yyE, Qe, zz21, JM, zz28, zz6, QO, ↓Qb]
 refine hK1 _ ?_; try clear hK1 K1
 refine kpA [2, 3, 9] ?_
 refine cnA ?_ ?_
 ·intro hb
  have e : acLt a b = decide (a.kind < b.kind) := by simp only [acLt, hb, Qd]
  refine JA fun K2 hK2 => ?_
  refine Qz F_mixed [some 10, some 11, some 12, some 13, some 14, some 4] rfl ?_
  simp only [zzK, QR, QP, QQ, zz19, zz23, F_off32_0, zzH, QN, QS, F_ok3, F_ag3, F_sz3, zz8, zzD, zzC, QA, yyE, Qe, zz21, JM, zz22, JB, zz6, QO, ↓Qb]
  refine hK2 _ ?_; try clear hK2 K2
  refine kpA [4] ?_
  refine JJ ?_
  simp only [zz6, QO, ↓Qb]
  refine dnA ?_
  simp only [QD, QE, resA, JZ, QR, QP, JD, QQ, Qd, Qc, JP]
  rw [e]
 ·intro hb
  skip
  refine JI ?_
  simp only [zz6, QO, ↓Qb]
  refine hK0 _ ?_; try clear hK0 K0
  refine kpA [2, 3] ?_
  refine JA fun K0 hK0 => ?_
  refine JA fun K1 hK1 => ?_
  refine Qz F_mixed [some 15, some 16, some 17, some 18, some 19] rfl ?_
  simp only [zzK, QR, QP, QQ, zz19, zz23, F_off32_1, zzH, QN, QS, F_ok3, F_ag3, F_sz3, zz8, zzD, zzC, QA, yyE, Qe, zz21, JM, zz28, zz6, QO, ↓Qb]
  refine hK1 _ ?_; try clear hK1 K1
  refine kpA [2, 3, 19] ?_
  refine cnA ?_ ?_
  ·intro hb
   rename_i hb0
   have e : acLt a b = decide (a.who < b.who) := by simp only [acLt, hb0, hb, Qd, Qc]
   refine JA fun K2 hK2 => ?_
   refine Qz F_mixed [some 20, some 21, some 22, some 23, some 24, some 4] rfl ?_
   simp only [zzK, QR, QP, QQ, zz19, zz23, F_off32_1, zzH, QN, QS, F_ok3, F_ag3, F_sz3, zz8, zzD, zzC, QA, yyE, Qe, zz21, JM, zz22, JB, zz6, QO, ↓Qb]
   refine hK2 _ ?_; try clear hK2 K2
   refine kpA [4] ?_
   refine JJ ?_
   simp only [zz6, QO, ↓Qb]
   refine dnA ?_
   simp only [QD, QE, resA, JZ, QR, QP, JD, QQ, Qd, Qc, JP]
   rw [e]
  ·intro hb
   rename_i hb0
   have e : acLt a b = decide (a.cur < b.cur) := by simp only [acLt, hb0, hb, Qc]
   refine JI ?_
   simp only [zz6, QO, ↓Qb]
   refine hK0 _ ?_; try clear hK0 K0
   refine kpA [2, 3] ?_
   refine JA fun K0 hK0 => ?_
   refine Qz F_mixed [some 25, some 26, some 27, some 28, some 29, some 4] rfl ?_
   simp only [zzK, QR, QP, QQ, zz19, zz23, F_off32_2, zzH, QN, QS, F_ok3, F_ag3, F_sz3, zz8, zzD, zzC, QA, yyE, Qe, zz21, JM, zz22, JB, zz6, QO, ↓Qb]
   refine hK0 _ ?_; try clear hK0 K0
   refine kpA [4] ?_
   refine JJ ?_
   simp only [zz6, QO, ↓Qb]
   refine dnA ?_
   simp only [QD, QE, resA, JZ, QR, QP, JD, QQ, Qd, Qc, JP]
   rw [e]
set_option maxRecDepth 100000 in
set_option maxHeartbeats 4000000 in
theorem rTot_ (nx : Int) (l : List LegV) (c : Int) (ks : List Int) (hr : ∀ x ∈ l, rightN x.amt = true) (hl : l.length ≤ 500000) (hk : ks.length ≤ 1000000) : ACalls Try.prog 41 [.agg (ledC ⟨nx, l⟩), iv c, ints ks] [] (.tp [.d (iv (bif rightN (kSum c (fun k => ks.contains k) l) then kSum c (fun k => ks.contains k) l else 0)), bv (rightN (kSum c (fun k => ks.contains k) l))]) := by
 refine acalls_S (rs := [.tmp 6, .tmp 7]) Try.func41 rfl rfl 65 [(0, .d (.agg (ledC ⟨nx, l⟩))), (1, .d (iv c)), (2, .d (ints ks))] rfl (by simp) rfl ?_
 refine JA fun K0 hK0 => ?_
 refine Qz F_mixed [some 3, some 6, some 7] rfl ?_
 simp only [zzK, QR, QP, QQ, zz35, JS, zz1, zzG, zzD, zzC, QA, yyE, Qe, QS, QN, zzH, JB, ledC, legs, zz6, QO, ↓Qb]
 refine hK0 _ ?_; try clear hK0 K0
 refine kpA [1, 2, 3] ?_
 refine JA fun K0 hK0 => ?_
 refine Qz F_mixed [some 8] rfl ?_
 simp only [zzK, QR, QP, QQ, JB, zz6, QO, ↓Qb]
 refine hK0 _ ?_; try clear hK0 K0
 refine kpA [1, 2, 3, 8] ?_
 refine JA fun K0 hK0 => ?_
 refine JA fun K1 hK1 => ?_
 refine Qz F_mixed [some 9] rfl ?_
 simp only [zzK, QR, QP, QQ, JB, zz6, QO, ↓Qb]
 refine hK1 _ ?_; try clear hK1 K1
 refine kpA [1, 2, 3, 8, 9] ?_
 refine JH ?_
 refine JL (fun m s => ∃ (pre : List LegV) (post : List LegV), (l = pre ++ post) ∧ m = post.length ∧ s = S 65 [(1, .d (iv c)), (2, .d (ints ks)), (3, .ptr 3 0 0), (8, .ref 8 (sumsL c (fun k => ks.contains k) pre).length), (9, .d (iv pre.length))] [(3, (⟨True, 24, 2, true, false, 3, [[.d (iv nx), .d (.sl 4 (l.map legC))]]⟩ : ARow)), (8, grow 3 1 8 ((sumsL c (fun k => ks.contains k) pre).map fun n => [iv n]))]) (l.length) _ (le_SK id [8] rfl (l' := [(1, .d (iv c)), (2, .d (ints ks)), (3, .ptr 3 0 0), (8, .ref 8 (sumsL c (fun k => ks.contains k) []).length), (9, .d (iv [].length))]) (m' := [(3, (⟨True, 24, 2, true, false, 3, [[.d (iv nx), .d (.sl 4 (l.map legC))]]⟩ : ARow)), (8, grow 3 1 8 ((sumsL c (fun k => ks.contains k) []).map fun n => [iv n]))]) ?_ ?_ ?_ ?_) ⟨[], l, rfl, rfl, rfl⟩ ?_
 ·simp only [leV, JD, QQ, Qd, Qc]; exact ⟨(by first | exact Qo rfl | exact Qq (by decide) | exact Qp | exact Qn _ | exact Qs (by simp) (by rfl) | exact Qr (by simp) (by rfl) (by first | rfl | (simp; done) | (simp; omega)) | exact Qt (by first | rfl | simp)), (by first | exact Qo rfl | exact Qq (by decide) | exact Qp | exact Qn _ | exact Qs (by simp) (by rfl) | exact Qr (by simp) (by rfl) (by first | rfl | (simp; done) | (simp; omega)) | exact Qt (by first | rfl | simp)), (by first | exact Qo rfl | exact Qq (by decide) | exact Qp | exact Qn _ | exact Qs (by simp) (by rfl) | exact Qr (by simp) (by rfl) (by first | rfl | (simp; done) | (simp; omega)) | exact Qt (by first | rfl | simp)), (by first | exact Qo rfl | exact Qq (by decide) | exact Qp | exact Qn _ | exact Qs (by simp) (by rfl) | exact Qr (by simp) (by rfl) (by first | rfl | (simp; done) | (simp; omega)) | exact Qt (by first | rfl | simp)), (by first | exact Qo rfl | exact Qq (by decide) | exact Qp | exact Qn _ | exact Qs (by simp) (by rfl) | exact Qr (by simp) (by rfl) (by first | rfl | (simp; done) | (simp; omega)) | exact Qt (by first | rfl | simp)), trivial⟩
 ·exact ⟨fun _ => ⟨_, rfl, (by first | exact Qw (by first | rfl | simp) | exact Qx (by first | rfl | simp) (by simp) ids_data | exact Qv (by simp [QX, QY]) | exact Qu (by simp) (by simp [QX, QY]))⟩, fun h => by simp at h, fun h => by simp at h, fun _ => rfl, trivial⟩
 ·simp [wfV, QY, QX, lookR, grow]
 ·exact ⟨by simp [QX, QY, lookR], wf_data _ _, trivial⟩
 rintro m s ⟨pre, post, hsp, rfl, rfl⟩
 have hspl := congrArg List.length hsp
 simp only [QC] at hspl
 have hql := sumsL_len c (fun k => ks.contains k) pre
 refine JA fun K2 hK2 => ?_
 refine JA fun K3 hK3 => ?_
 refine Qz F_mixed [some 12, some 13, some 14, some 15, some 16] rfl ?_
 simp only [zzK, QR, QP, QQ, JC, zz19, zz23, F_off24_1, zzH, QN, QS, F_ok22, F_ag22, F_sz22, zz8, zzD, zzC, QA, yyE, Qe, JE, zz12, F_sl22, Option.isSome_some, zz21, JM, zz22, JN, zz6, QO, ↓Qb]
 refine hK3 _ ?_; try clear hK3 K3
 refine kpA [1, 2, 3, 8, 9, 16] ?_
 refine cnA ?_ ?_
 ·intro hb
  obtain ⟨x, post2, rfl⟩ : ∃ x t, post = x :: t := by
   cases post with
   | nil => have := Qg hb; simp at hspl; omega
   | cons x t => exact ⟨x, t, rfl⟩
  clear hb
  simp only [QF] at hspl
  have gx : (l.map legC).getD pre.length [] = [iv x.ac.kind, iv x.ac.who, iv x.ac.cur, iv x.amt] := by
   rw [hsp, List.map_append]; exact gd_mid' (A := pre.map legC) _ _ (by simp)
  have bx := ltI (show pre.length < l.length by omega)
  have hwx : Ql .i64 ((pre.length : Int) + 1) = ((pre ++ [x]).length : Int) := by rw [wrapI (by omega) (by omega)]; simp
  refine JI ?_
  simp only [zz6, QO, ↓Qb]
  refine hK2 _ ?_; try clear hK2 K2
  refine kpA [1, 2, 3, 8, 9] ?_
  refine JA fun K2 hK2 => ?_
  refine JH ?_
  refine JA fun K3 hK3 => ?_
  refine Qz F_mixed [some 10] rfl ?_
  simp only [zzK, QR, QP, QQ, JB, zz6, QO, ↓Qb]
  refine hK3 _ ?_; try clear hK3 K3
  refine kpA [1, 2, 3, 8, 9, 10] ?_
  refine JA fun K3 hK3 => ?_
  refine JA fun K4 hK4 => ?_
  refine Qz F_mixed [some 11] rfl ?_
  simp only [zzK, QR, QP, QQ, JB, zz6, QO, ↓Qb]
  refine hK4 _ ?_; try clear hK4 K4
  refine kpA [1, 2, 3, 8, 9, 10, 11] ?_
  refine JH ?_
  refine JL (fun m s => ∃ (kp : List Int) (kq : List Int), (ks = kp ++ kq) ∧ m = kq.length ∧ s = S 65 [(1, .d (iv c)), (2, .d (ints ks)), (3, .ptr 3 0 0), (8, .ref 8 (sumsL c (fun k => ks.contains k) pre).length), (9, .d (iv pre.length)), (10, .d (.v (.bool (kp.contains x.ac.kind)))), (11, .d (iv kp.length))] [(3, (⟨True, 24, 2, true, false, 3, [[.d (iv nx), .d (.sl 4 (l.map legC))]]⟩ : ARow)), (8, grow 3 1 8 ((sumsL c (fun k => ks.contains k) pre).map fun n => [iv n]))]) (ks.length) _ (le_SK id [] rfl (l' := [(1, .d (iv c)), (2, .d (ints ks)), (3, .ptr 3 0 0), (8, .ref 8 (sumsL c (fun k => ks.contains k) pre).length), (9, .d (iv pre.length)), (10, .d (.v (.bool ([].contains x.ac.kind)))), (11, .d (iv [].length))]) (m' := [(3, (⟨True, 24, 2, true, false, 3, [[.d (iv nx), .d (.sl 4 (l.map legC))]]⟩ : ARow)), (8, grow 3 1 8 ((sumsL c (fun k => ks.contains k) pre).map fun n => [iv n]))]) ?_ ?_ ?_ ?_) ⟨[], ks, rfl, rfl, rfl⟩ ?_
  ·simp only [leV, JD, QQ, Qd, Qc]; exact ⟨(by first | exact Qo rfl | exact Qq (by decide) | exact Qp | exact Qn _ | exact Qs (by simp) (by rfl) | exact Qr (by simp) (by rfl) (by first | rfl | (simp; done) | (simp; omega)) | exact Qt (by first | rfl | simp)), (by first | exact Qo rfl | exact Qq (by decide) | exact Qp | exact Qn _ | exact Qs (by simp) (by rfl) | exact Qr (by simp) (by rfl) (by first | rfl | (simp; done) | (simp; omega)) | exact Qt (by first | rfl | simp)), (by first | exact Qo rfl | exact Qq (by decide) | exact Qp | exact Qn _ | exact Qs (by simp) (by rfl) | exact Qr (by simp) (by rfl) (by first | rfl | (simp; done) | (simp; omega)) | exact Qt (by first | rfl | simp)), (by first | exact Qo rfl | exact Qq (by decide) | exact Qp | exact Qn _ | exact Qs (by simp) (by rfl) | exact Qr (by simp) (by rfl) (by first | rfl | (simp; done) | (simp; omega)) | exact Qt (by first | rfl | simp)), (by first | exact Qo rfl | exact Qq (by decide) | exact Qp | exact Qn _ | exact Qs (by simp) (by rfl) | exact Qr (by simp) (by rfl) (by first | rfl | (simp; done) | (simp; omega)) | exact Qt (by first | rfl | simp)), Qt rfl, (by first | exact Qo rfl | exact Qq (by decide) | exact Qp | exact Qn _ | exact Qs (by simp) (by rfl) | exact Qr (by simp) (by rfl) (by first | rfl | (simp; done) | (simp; omega)) | exact Qt (by first | rfl | simp)), trivial⟩
  ·exact ⟨fun _ => ⟨_, rfl, (by first | exact Qw (by first | rfl | simp) | exact Qx (by first | rfl | simp) (by simp) ids_data | exact Qv (by simp [QX, QY]) | exact Qu (by simp) (by simp [QX, QY]))⟩, fun h => by simp at h, fun _ => ⟨_, rfl, (by first | exact Qw (by first | rfl | simp) | exact Qx (by first | rfl | simp) (by simp) ids_data | exact Qv (by simp [QX, QY]) | exact Qu (by simp) (by simp [QX, QY]))⟩, fun h => by simp at h, trivial⟩
  ·simp [wfV, QY, QX, lookR, grow]
  ·exact ⟨by simp [QX, QY, lookR], wf_data _ _, trivial⟩
  rintro m s ⟨kp, kq, hks, rfl, rfl⟩
  have hksl := congrArg List.length hks
  simp only [QC] at hksl
  refine JA fun K5 hK5 => ?_
  refine JA fun K6 hK6 => ?_
  refine Qz F_mixed [some 19, some 20, some 21, some 22] rfl ?_
  simp only [zzK, QR, QP, QQ, JC, JE, zz12, F_sl25, Option.isSome_some, zz21, JM, zz22, ints, JN, zz6, QO, ↓Qb]
  refine hK6 _ ?_; try clear hK6 K6
  refine kpA [1, 2, 3, 8, 9, 10, 11, 22] ?_
  refine cnA ?_ ?_
  ·intro hb
   obtain ⟨y, kq2, rfl⟩ : ∃ x t, kq = x :: t := by
    cases kq with
    | nil => have := Qg hb; simp at hksl; omega
    | cons x t => exact ⟨x, t, rfl⟩
   clear hb
   simp only [QF] at hksl
   have gy : (ks.map (fun n => [iv n])).getD kp.length [] = [iv y] := by
    rw [hks, List.map_append]; exact gd_mid' (A := kp.map (fun n => [iv n])) _ _ (by simp)
   have by_ := ltI (show kp.length < ks.length by omega)
   have hwy : Ql .i64 ((kp.length : Int) + 1) = ((kp ++ [y]).length : Int) := by rw [wrapI (by omega) (by omega)]; simp
   have hcn : (kp.contains x.ac.kind || (y == x.ac.kind)) = (kp ++ [y]).contains x.ac.kind := by
    simp only [List.contains_append, List.contains_cons, List.contains_nil, Bool.or_false]
    rw [show (y == x.ac.kind) = (x.ac.kind == y) from Bool.beq_comm]
   refine JI ?_
   simp only [zz6, QO, ↓Qb]
   refine hK5 _ ?_; try clear hK5 K5
   refine kpA [1, 2, 3, 8, 9, 10, 11] ?_
   refine JA fun K5 hK5 => ?_
   refine JH ?_
   refine awp_draw F_mixed [some 25, some 26, some 27, some 28, some 29, some 30, some 31, some 32, some 33, some 34, some 35, some 36, some 37, some 38, some 39, some 10] rfl (by kernel_rfl) ?_
   simp only [zzK, QR, QP, QQ, QU, JZ, zz5, Qj, Qi, Qh, JC, JW, zz23, zz24, F_sl25, F_sz3, QA, zzC, yyE, Qe, F_ok3, F_ag3, zz8, zzD, QS, QN, zzH, zz19, F_off24_1, F_ok22, F_ag22, F_sz22, F_sl22, F_sz63, F_off63_0, F_off32_0, zz21, JM, zz34, zz13, JQ, JR, JB, ints, gy, by_, hwy, gx, bx, hwx, JN, ge0, QV, QW, legC, acC, hcn, zz6, QO, ↓Qb]
   refine hK5 _ ?_; try clear hK5 K5
   refine kpA [1, 2, 3, 8, 9, 10, 11] ?_
   refine Qz F_mixed [some 23, some 24, some 11] rfl ?_
   simp only [zzK, QR, QP, QQ, JC, zz21, JM, zz26, JB, hwy, zz6, QO, ↓Qb]
   refine ⟨kq2.length, _, by simp, le_SK id [] rfl (l' := [(1, .d (iv c)), (2, .d (ints ks)), (3, .ptr 3 0 0), (8, .ref 8 (sumsL c (fun k => ks.contains k) pre).length), (9, .d (iv pre.length)), (10, .d (.v (.bool ((kp ++ [y]).contains x.ac.kind)))), (11, .d (iv (kp ++ [y]).length))]) (m' := [(3, (⟨True, 24, 2, true, false, 3, [[.d (iv nx), .d (.sl 4 (l.map legC))]]⟩ : ARow)), (8, grow 3 1 8 ((sumsL c (fun k => ks.contains k) pre).map fun n => [iv n]))]) ?_ ?_ ?_ ?_, (kp ++ [y]), kq2, by simp [hks], rfl, rfl⟩
   ·simp only [leV, JD, QQ, Qd, Qc, hwy, hcn]; exact ⟨(by first | exact Qo rfl | exact Qq (by decide) | exact Qp | exact Qn _ | exact Qs (by simp) (by rfl) | exact Qr (by simp) (by rfl) (by first | rfl | (simp; done) | (simp; omega)) | exact Qt (by first | rfl | simp)), (by first | exact Qo rfl | exact Qq (by decide) | exact Qp | exact Qn _ | exact Qs (by simp) (by rfl) | exact Qr (by simp) (by rfl) (by first | rfl | (simp; done) | (simp; omega)) | exact Qt (by first | rfl | simp)), (by first | exact Qo rfl | exact Qq (by decide) | exact Qp | exact Qn _ | exact Qs (by simp) (by rfl) | exact Qr (by simp) (by rfl) (by first | rfl | (simp; done) | (simp; omega)) | exact Qt (by first | rfl | simp)), (by first | exact Qo rfl | exact Qq (by decide) | exact Qp | exact Qn _ | exact Qs (by simp) (by rfl) | exact Qr (by simp) (by rfl) (by first | rfl | (simp; done) | (simp; omega)) | exact Qt (by first | rfl | simp)), (by first | exact Qo rfl | exact Qq (by decide) | exact Qp | exact Qn _ | exact Qs (by simp) (by rfl) | exact Qr (by simp) (by rfl) (by first | rfl | (simp; done) | (simp; omega)) | exact Qt (by first | rfl | simp)), (by first | exact Qo rfl | exact Qq (by decide) | exact Qp | exact Qn _ | exact Qs (by simp) (by rfl) | exact Qr (by simp) (by rfl) (by first | rfl | (simp; done) | (simp; omega)) | exact Qt (by first | rfl | simp)), (by first | exact Qo rfl | exact Qq (by decide) | exact Qp | exact Qn _ | exact Qs (by simp) (by rfl) | exact Qr (by simp) (by rfl) (by first | rfl | (simp; done) | (simp; omega)) | exact Qt (by first | rfl | simp)), trivial⟩
   ·exact ⟨fun _ => ⟨_, rfl, (by first | exact Qw (by first | rfl | simp) | exact Qx (by first | rfl | simp) (by simp) ids_data | exact Qv (by simp [QX, QY]) | exact Qu (by simp) (by simp [QX, QY]))⟩, fun h => by simp at h, fun _ => ⟨_, rfl, (by first | exact Qw (by first | rfl | simp) | exact Qx (by first | rfl | simp) (by simp) ids_data | exact Qv (by simp [QX, QY]) | exact Qu (by simp) (by simp [QX, QY]))⟩, fun h => by simp at h, trivial⟩
   ·simp [wfV, QY, QX, lookR, grow]
   ·exact ⟨by simp [QX, QY, lookR], wf_data _ _, trivial⟩
  ·intro hb
   obtain rfl : kq = [] := by
    cases kq with
    | nil => rfl
    | cons x t => have := Qf hb; simp at hksl; omega
   clear hb
   simp only [QG] at hks
   obtain rfl : ks = kp := hks
   refine JK ?_
   simp only [zz6, QO, ↓Qb]
   refine hK3 _ ?_; try clear hK3 K3
   refine kpA [1, 2, 3, 8, 9, 10] ?_
   refine JA fun K3 hK3 => ?_
   refine Qz F_mixed [some 40, some 41, some 42, some 43, some 44, some 45, some 46, some 47, some 48, some 49, some 50, some 51] rfl ?_
   simp only [zzK, QR, QP, QQ, QU, JZ, zz5, Qj, Qi, Qh, JC, zz19, zz23, F_off24_1, zzH, QN, QS, F_ok22, F_ag22, F_sz22, zz8, zzD, zzC, QA, yyE, Qe, JW, zz24, F_sl22, F_sz63, F_off63_0, F_off32_2, F_ok3, F_ag3, F_sz3, zz21, JM, zz34, zz13, JQ, JR, gx, bx, hwx, JN, ge0, QV, QW, legC, acC, zz6, QO, ↓Qb]
   refine hK3 _ ?_; try clear hK3 K3
   refine kpA [1, 2, 3, 8, 9, 51] ?_
   refine cnA ?_ ?_
   ·intro hb
    have hs : (x.ac.cur == c && ks.contains x.ac.kind) = true := by rw [Bool.and_comm]; exact hb
    clear hb
    have hsl := sumsL_yes (g := (fun k => ks.contains k)) hs pre
    refine Qz F_mixed [some 52, some 53, some 54, some 55, some 56, some 57, some 58, some 59, some 60, some 8] rfl ?_
    simp only [zzK, QR, QP, QQ, JC, zz19, zz23, F_off24_1, zzH, QN, QS, F_ok22, F_ag22, F_sz22, zz8, zzD, zzC, QA, yyE, Qe, JW, zz24, F_sl22, F_sz63, F_off63_1, F_ok3, F_ag3, F_sz3, F_sl25, F_zero3, zz3, JS, zz1, zzG, maxLen_le, QT, JE, F_by3, zz4, zz9, QB, JB, gx, bx, hwx, JN, ge0, QV, QW, legC, grow, unDs_map, zz6, QO, ↓Qb]
    have hm : (sumsL c (fun k => ks.contains k) pre).length + 1 ≤ 1000000 := by first | omega | (simp; omega)
    first | refine ⟨le_maxLen hm, by omega, ?_⟩ | refine ⟨by simp, le_maxLen hm, by omega, ?_⟩
    clear hm
    refine hK2 _ ?_; try clear hK2 K2
    refine kpA [1, 2, 3, 8, 9] ?_
    refine Qz F_mixed [some 17, some 18, some 9] rfl ?_
    simp only [zzK, QR, QP, QQ, JC, zz21, JM, zz26, JB, hwx, zz6, QO, ↓Qb]
    refine ⟨post2.length, _, by simp, le_SK (fun r => bif r == 8 then 60 else r) [] rfl (l' := [(1, .d (iv c)), (2, .d (ints ks)), (3, .ptr 3 0 0), (8, .ref 8 (sumsL c (fun k => ks.contains k) (pre ++ [x])).length), (9, .d (iv (pre ++ [x]).length))]) (m' := [(3, (⟨True, 24, 2, true, false, 3, [[.d (iv nx), .d (.sl 4 (l.map legC))]]⟩ : ARow)), (8, grow 3 1 8 ((sumsL c (fun k => ks.contains k) (pre ++ [x])).map fun n => [iv n]))]) ?_ ?_ ?_ ?_, (pre ++ [x]), post2, by simp [hsp], rfl, rfl⟩
    ·simp only [leV, JD, QQ, Qd, Qc, hwx, hsl]; exact ⟨(by first | exact Qo rfl | exact Qq (by decide) | exact Qp | exact Qn _ | exact Qs (by simp) (by rfl) | exact Qr (by simp) (by rfl) (by first | rfl | (simp; done) | (simp; omega)) | exact Qt (by first | rfl | simp)), (by first | exact Qo rfl | exact Qq (by decide) | exact Qp | exact Qn _ | exact Qs (by simp) (by rfl) | exact Qr (by simp) (by rfl) (by first | rfl | (simp; done) | (simp; omega)) | exact Qt (by first | rfl | simp)), (by first | exact Qo rfl | exact Qq (by decide) | exact Qp | exact Qn _ | exact Qs (by simp) (by rfl) | exact Qr (by simp) (by rfl) (by first | rfl | (simp; done) | (simp; omega)) | exact Qt (by first | rfl | simp)), (by first | exact Qo rfl | exact Qq (by decide) | exact Qp | exact Qn _ | exact Qs (by simp) (by rfl) | exact Qr (by simp) (by rfl) (by first | rfl | (simp; done) | (simp; omega)) | exact Qt (by first | rfl | simp)), (by first | exact Qo rfl | exact Qq (by decide) | exact Qp | exact Qn _ | exact Qs (by simp) (by rfl) | exact Qr (by simp) (by rfl) (by first | rfl | (simp; done) | (simp; omega)) | exact Qt (by first | rfl | simp)), trivial⟩
    ·exact ⟨fun _ => ⟨_, rfl, (by first | exact Qw (by first | rfl | simp) | exact Qx (by first | rfl | simp) (by simp) ids_data | exact Qv (by simp [QX, QY]) | exact Qu (by simp) (by simp [QX, QY]))⟩, fun h => by simp at h, fun _ => ⟨_, rfl, Qw (by rw [hsl]; simp)⟩, fun h => by simp at h, trivial⟩
    ·simp [wfV, QY, QX, lookR, grow]
    ·exact ⟨by simp [QX, QY, lookR], wf_data _ _, trivial⟩
   ·intro hb
    have hs : (x.ac.cur == c && ks.contains x.ac.kind) = false := by rw [Bool.and_comm]; exact hb
    clear hb
    have hsl := sumsL_no (g := (fun k => ks.contains k)) hs pre
    refine JI ?_
    simp only [zz6, QO, ↓Qb]
    refine hK2 _ ?_; try clear hK2 K2
    refine kpA [1, 2, 3, 8, 9] ?_
    refine Qz F_mixed [some 17, some 18, some 9] rfl ?_
    simp only [zzK, QR, QP, QQ, JC, zz21, JM, zz26, JB, hwx, zz6, QO, ↓Qb]
    refine ⟨post2.length, _, by simp, le_SK id [] rfl (l' := [(1, .d (iv c)), (2, .d (ints ks)), (3, .ptr 3 0 0), (8, .ref 8 (sumsL c (fun k => ks.contains k) (pre ++ [x])).length), (9, .d (iv (pre ++ [x]).length))]) (m' := [(3, (⟨True, 24, 2, true, false, 3, [[.d (iv nx), .d (.sl 4 (l.map legC))]]⟩ : ARow)), (8, grow 3 1 8 ((sumsL c (fun k => ks.contains k) (pre ++ [x])).map fun n => [iv n]))]) ?_ ?_ ?_ ?_, (pre ++ [x]), post2, by simp [hsp], rfl, rfl⟩
    ·simp only [leV, JD, QQ, Qd, Qc, hwx, hsl]; exact ⟨(by first | exact Qo rfl | exact Qq (by decide) | exact Qp | exact Qn _ | exact Qs (by simp) (by rfl) | exact Qr (by simp) (by rfl) (by first | rfl | (simp; done) | (simp; omega)) | exact Qt (by first | rfl | simp)), (by first | exact Qo rfl | exact Qq (by decide) | exact Qp | exact Qn _ | exact Qs (by simp) (by rfl) | exact Qr (by simp) (by rfl) (by first | rfl | (simp; done) | (simp; omega)) | exact Qt (by first | rfl | simp)), (by first | exact Qo rfl | exact Qq (by decide) | exact Qp | exact Qn _ | exact Qs (by simp) (by rfl) | exact Qr (by simp) (by rfl) (by first | rfl | (simp; done) | (simp; omega)) | exact Qt (by first | rfl | simp)), (by first | exact Qo rfl | exact Qq (by decide) | exact Qp | exact Qn _ | exact Qs (by simp) (by rfl) | exact Qr (by simp) (by rfl) (by first | rfl | (simp; done) | (simp; omega)) | exact Qt (by first | rfl | simp)), (by first | exact Qo rfl | exact Qq (by decide) | exact Qp | exact Qn _ | exact Qs (by simp) (by rfl) | exact Qr (by simp) (by rfl) (by first | rfl | (simp; done) | (simp; omega)) | exact Qt (by first | rfl | simp)), trivial⟩
    ·exact ⟨fun _ => ⟨_, rfl, (by first | exact Qw (by first | rfl | simp) | exact Qx (by first | rfl | simp) (by simp) ids_data | exact Qv (by simp [QX, QY]) | exact Qu (by simp) (by simp [QX, QY]))⟩, fun h => by simp at h, fun _ => ⟨_, rfl, Qw (by rw [hsl])⟩, fun h => by simp at h, trivial⟩
    ·simp [wfV, QY, QX, lookR, grow]
    ·exact ⟨by simp [QX, QY, lookR], wf_data _ _, trivial⟩
 ·intro hb
  obtain rfl : post = [] := by
   cases post with
   | nil => rfl
   | cons x t => have := Qf hb; simp at hspl; omega
  clear hb
  simp only [QG] at hsp
  obtain rfl : l = pre := hsp
  have hrt := rt_amts hr c (fun k => ks.contains k)
  refine JK ?_
  simp only [zz6, QO, ↓Qb]
  refine hK0 _ ?_; try clear hK0 K0
  refine kpA [8] ?_
  refine JA fun K0 hK0 => ?_
  refine Qz F_mixed [some 61, some 62, some 63, some 64, some 6, some 7] rfl ?_
  simp only [zzK, QR, QP, QQ, JC, JE, JF, zz14, zzD, QS, QN, zzF, JB, ints, grow, D.sl.injEq, JN, zz6, QO, ↓Qb]
  refine JT F_go23 (fun hG => Add_ (sumsL c (fun k => ks.contains k) l) (by omega) (rt_bound hrt)) (by simp [QY, QX]) (by simp) ?_
  simp only [zzK, QR, QP, QQ, JC, JE, JF, zz14, zzD, QS, QN, zzF, JB, ints, grow, JN, zz6, QO, ↓Qb, atsL, oksG, JV, QZ, Qa, JO, Qm, QT, QS, zz9, QB, QA, zzC, yyF, QF, zz2]
  first | refine ⟨by simp, ?_⟩ | skip
  refine hK0 _ ?_; try clear hK0 K0
  refine kpA [6, 7] ?_
  refine JJ ?_
  simp only [zz6, QO, ↓Qb]
  refine dnA ?_
  simp only [QD, QE, resA, JZ, QR, QP, JD, QQ, Qd, Qc, JP]
  rfl
set_option maxRecDepth 100000 in
set_option maxHeartbeats 4000000 in
theorem rLed0_ (nx : Int) (l : List LegV) (hl : l.length ≤ 500000) : ACalls Try.prog 21 [.agg (ledC ⟨nx, l⟩)] [] (bv (ledOk ⟨nx, l⟩)) := by
 refine acalls_S (rs := [.tmp 2]) Try.func21 rfl rfl 80 [(0, .d (.agg (ledC ⟨nx, l⟩)))] rfl (by simp) rfl ?_
 refine JA fun K0 hK0 => ?_
 refine Qz F_mixed [some 1, some 2] rfl ?_
 simp only [zzK, QR, QP, QQ, zz35, JS, zz1, zzG, zzD, zzC, QA, yyE, Qe, QS, QN, zzH, JB, ledC, legs, zz6, QO, ↓Qb]
 refine hK0 _ ?_; try clear hK0 K0
 refine kpA [1] ?_
 refine JA fun K0 hK0 => ?_
 refine JA fun K1 hK1 => ?_
 refine Qz F_mixed [some 8, some 9, some 10] rfl ?_
 simp only [zzK, QR, QP, QQ, zz19, zz23, F_off24_0, zzH, QN, QS, F_ok3, F_ag3, F_sz3, zz8, zzD, zzC, QA, yyE, Qe, zz21, JM, zz22, zz6, QO, ↓Qb]
 refine hK1 _ ?_; try clear hK1 K1
 refine kpA [1, 10] ?_
 refine cnA ?_ ?_
 ·intro hb
  have hn : decide (nx < 0) = true := hb
  clear hb
  refine JA fun K2 hK2 => ?_
  refine Qz F_mixed [some 2] rfl ?_
  simp only [zzK, QR, QP, QQ, JB, zz6, QO, ↓Qb]
  refine hK2 _ ?_; try clear hK2 K2
  refine kpA [2] ?_
  refine JJ ?_
  simp only [zz6, QO, ↓Qb]
  refine dnA ?_
  simp only [QD, QE, resA, JZ, QR, QP, JD, QQ, Qd, Qc, JP]
  have e : ledOk ⟨nx, l⟩ = false := by simp only [ledOk, hn]; rfl
  rw [e]
 ·intro hb
  have hn : decide (nx < 0) = false := hb
  clear hb
  refine JI ?_
  simp only [zz6, QO, ↓Qb]
  refine hK0 _ ?_; try clear hK0 K0
  refine kpA [1] ?_
  refine JA fun K0 hK0 => ?_
  refine JA fun K1 hK1 => ?_
  refine Qz F_mixed [some 3] rfl ?_
  simp only [zzK, QR, QP, QQ, JB, zz6, QO, ↓Qb]
  refine hK1 _ ?_; try clear hK1 K1
  refine kpA [1, 3] ?_
  refine JH ?_
  refine JL (fun m s => ∃ pre post : List LegV, l = pre ++ post ∧ chkR balOk lxLt none l = chkR balOk lxLt pre.getLast? post ∧ m = post.length ∧ s = S 80 [(1, .ptr 1 0 0), (3, .d (iv pre.length))] [(1, (⟨True, 24, 2, true, false, 1, [[.d (iv nx), .d (.sl 4 (l.map legC))]]⟩ : ARow))]) l.length _ (le_SK id [] rfl (l' := [(1, .ptr 1 0 0), (3, .d (iv ([] : List LegV).length))]) (m' := [(1, (⟨True, 24, 2, true, false, 1, [[.d (iv nx), .d (.sl 4 (l.map legC))]]⟩ : ARow))]) ?_ ?_ ?_ ?_) ⟨[], l, rfl, rfl, rfl, rfl⟩ ?_
  ·simp only [leV, JD, QQ, Qd, Qc, JN]; exact ⟨Qn _, Qn _, trivial⟩
  ·exact ⟨fun _ => ⟨_, rfl, ⟨id, rfl, rfl, fun _ => rfl, id, .inl, VLess.refl _⟩⟩, fun h => by simp at h, trivial⟩
  ·simp [wfV, QY, QX, lookR]
  ·simp [wfR, QX, QY]
  rintro m s ⟨pre, post, rfl, hck, rfl, rfl⟩
  refine JA fun K2 hK2 => ?_
  refine JA fun K3 hK3 => ?_
  refine Qz F_mixed [some 11, some 12, some 13, some 14, some 15] rfl ?_
  simp only [zzK, QR, QP, QQ, JC, zz19, zz23, F_off24_1, zzH, QN, QS, F_ok22, F_ag22, F_sz22, zz8, zzD, zzC, QA, yyE, Qe, JE, zz12, F_sl22, Option.isSome_some, zz21, JM, zz22, JN, zz6, QO, ↓Qb]
  refine hK3 _ ?_; try clear hK3 K3
  refine kpA [1, 3, 15] ?_
  refine cnA ?_ ?_
  ·intro hb
   obtain ⟨x, post, rfl⟩ := more_of hb; clear hb
   have hpp : pre.length < 4611686018427387904 := by simp at hl; omega
   have hpg := prev_get legC pre post x [] hpp
   refine JI ?_
   simp only [zz6, QO, ↓Qb]
   refine hK2 _ ?_; try clear hK2 K2
   refine kpA [1, 3] ?_
   refine JA fun K2 hK2 => ?_
   refine JH ?_
   refine JA fun K3 hK3 => ?_
   refine Qz F_mixed [some 18, some 19, some 20, some 21, some 22, some 4, none] rfl ?_
   simp only [zzK, QR, QP, QQ, zz19, zz23, F_off24_1, zzH, QN, QS, F_ok22, F_ag22, F_sz22, zz8, zzD, zzC, QA, yyE, Qe, JC, JW, zz24, F_sl22, F_sz63, F_ok63, F_ag63, zz32, JS, F_zero63, zz10, zz18, splice, QG, zz1, zzG, legC, getD_mid, JN, lt_mid, ge_mid, zz6, QO, ↓Qb]
   refine hK3 _ ?_; try clear hK3 K3
   refine kpA [1, 3, 4] ?_
   refine JA fun K3 hK3 => ?_
   refine awp_draw F_mixed [some 23, some 24, some 25, some 26, some 27, some 28, some 29, some 30, some 31, some 32, some 33, some 34, some 35, some 36, some 37, some 38, some 39, some 40, some 41, some 42, some 43, some 44, some 45, some 46, some 47, some 48, some 49, some 50, some 51, some 52, some 53, some 54, some 55, some 56, some 57, some 58, some 59, some 60, some 61, some 62] rfl (by kernel_rfl) ?_
   simp only [zzK, QR, QP, QQ, QU, JZ, zz5, Qj, Qi, Qh, zz19, zz23, F_off63_0, zzH, QN, QS, F_ok32, F_ag32, F_sz32, zz8, zzD, zzC, QA, yyE, Qe, JE, JF, zz29, JM, zz30, JC, F_off63_1, F_ok3, F_ag3, F_sz3, zz21, zz34, zz13, JQ, JR, zz22, zz25, F_off24_1, F_ok22, F_ag22, F_sz22, zz33, JW, zz24, F_sl22, F_sz63, QW, legC, acC, hpg, getD_mid, JN, lt_mid, ge_mid, zz6, QO, ↓Qb]
   refine JT F_go38 (fun hG => rAcRight_ x.ac) (by simp [QY, QX]) (by simp) ?_
   simp only [zzK, QR, QP, QQ, QU, JZ, zz5, Qj, Qi, Qh, zz19, zz23, F_off63_0, zzH, QN, QS, F_ok32, F_ag32, F_sz32, zz8, zzD, zzC, QA, yyE, Qe, JE, JF, zz29, JM, zz30, JC, F_off63_1, F_ok3, F_ag3, F_sz3, zz21, zz34, zz13, JQ, JR, zz22, zz25, F_off24_1, F_ok22, F_ag22, F_sz22, zz33, JW, zz24, F_sl22, F_sz63, QW, legC, acC, hpg, getD_mid, JN, lt_mid, ge_mid, zz6, QO, ↓Qb, atsL, oksG, JV, QZ, Qa, JO, Qm, QT, QS, zz9, QB, QA, S_mem, yyF, QF, zz2]
   refine JT F_go39 (fun hG => rRight_ x.amt) (by simp [QY, QX]) (by simp) ?_
   simp only [zzK, QR, QP, QQ, QU, JZ, zz5, Qj, Qi, Qh, zz19, zz23, F_off63_0, zzH, QN, QS, F_ok32, F_ag32, F_sz32, zz8, zzD, zzC, QA, yyE, Qe, JE, JF, zz29, JM, zz30, JC, F_off63_1, F_ok3, F_ag3, F_sz3, zz21, zz34, zz13, JQ, JR, zz22, zz25, F_off24_1, F_ok22, F_ag22, F_sz22, zz33, JW, zz24, F_sl22, F_sz63, QW, legC, acC, hpg, getD_mid, JN, lt_mid, ge_mid, zz6, QO, ↓Qb, atsL, oksG, JV, QZ, Qa, JO, Qm, QT, QS, zz9, QB, QA, S_mem, yyF, QF, zz2]
   refine JT F_go24 (fun hG => rFlo_ x.ac) (by simp [QY, QX]) (by simp) ?_
   simp only [zzK, QR, QP, QQ, QU, JZ, zz5, Qj, Qi, Qh, zz19, zz23, F_off63_0, zzH, QN, QS, F_ok32, F_ag32, F_sz32, zz8, zzD, zzC, QA, yyE, Qe, JE, JF, zz29, JM, zz30, JC, F_off63_1, F_ok3, F_ag3, F_sz3, zz21, zz34, zz13, JQ, JR, zz22, zz25, F_off24_1, F_ok22, F_ag22, F_sz22, zz33, JW, zz24, F_sl22, F_sz63, QW, legC, acC, hpg, getD_mid, JN, lt_mid, ge_mid, zz6, QO, ↓Qb, atsL, oksG, JV, QZ, Qa, JO, Qm, QT, QS, zz9, QB, QA, S_mem, yyF, QF, zz2]
   refine ⟨⟨fun _ hp2 => prev_ok pre hpp hp2, fun _ _ => prev_lt pre post x hpp⟩, ?_⟩
   refine JT F_go40 (fun hG => rLess_ (lastOr x pre).ac x.ac) (by simp [QY, QX]) (by simp) ?_
   simp only [zzK, QR, QP, QQ, QU, JZ, zz5, Qj, Qi, Qh, zz19, zz23, F_off63_0, zzH, QN, QS, F_ok32, F_ag32, F_sz32, zz8, zzD, zzC, QA, yyE, Qe, JE, JF, zz29, JM, zz30, JC, F_off63_1, F_ok3, F_ag3, F_sz3, zz21, zz34, zz13, JQ, JR, zz22, zz25, F_off24_1, F_ok22, F_ag22, F_sz22, zz33, JW, zz24, F_sl22, F_sz63, QW, legC, acC, hpg, getD_mid, JN, lt_mid, ge_mid, zz6, QO, ↓Qb, atsL, oksG, JV, QZ, Qa, JO, Qm, QT, QS, zz9, QB, QA, S_mem, yyF, QF, zz2]
   refine hK3 _ ?_; try clear hK3 K3
   refine kpA [1, 3, 62] ?_
   refine cnA ?_ ?_
   ·intro hb
    have hs : (!balOk x || (decide ((pre.length : Int) > 0) && !lxLt (lastOr x pre) x)) = true := by
     rw [← hb]; simp only [balOk, balBad, lxLt, Bool.not_not, List.all_cons, List.all_nil, Bool.and_true]; cases acOk x.ac <;> cases rightN x.amt <;> cases (x.amt == 0) <;> simp
    clear hb
    refine JA fun K4 hK4 => ?_
    refine Qz F_mixed [some 2] rfl ?_
    simp only [zzK, QR, QP, QQ, JB, zz6, QO, ↓Qb]
    refine hK4 _ ?_; try clear hK4 K4
    refine kpA [2] ?_
    refine JJ ?_
    simp only [zz6, QO, ↓Qb]
    refine dnA ?_
    simp only [QD, QE, resA, JZ, QR, QP, JD, QQ, Qd, Qc, JP]
    have e : ledOk ⟨nx, pre ++ x :: post⟩ = false := by simp only [ledOk]; rw [hck, chkR_step, hs]; simp
    rw [e]
   ·intro hb
    have hs : (!balOk x || (decide ((pre.length : Int) > 0) && !lxLt (lastOr x pre) x)) = false := by
     rw [← hb]; simp only [balOk, balBad, lxLt, Bool.not_not, List.all_cons, List.all_nil, Bool.and_true]; cases acOk x.ac <;> cases rightN x.amt <;> cases (x.amt == 0) <;> simp
    clear hb
    refine JI ?_
    simp only [zz6, QO, ↓Qb]
    refine hK2 _ ?_; try clear hK2 K2
    refine kpA [1, 3] ?_
    refine Qz F_mixed [some 16, some 17, some 3] rfl ?_
    simp only [zzK, QR, QP, QQ, JC, zz21, JM, zz26, JB, zz6, QO, ↓Qb]
    refine ⟨post.length, _, by simp, le_SK id [] rfl (l' := [(1, .ptr 1 0 0), (3, .d (iv (pre ++ [x]).length))]) (m' := [(1, (⟨True, 24, 2, true, false, 1, [[.d (iv nx), .d (.sl 4 ((pre ++ x :: post).map legC))]]⟩ : ARow))]) ?_ ?_ ?_ ?_, pre ++ [x], post, by simp, by rw [hck, chkR_step, hs]; simp, rfl, rfl⟩
    ·simp only [leV, JD, QQ, Qd, Qc, JN, wrap_len pre x (by simp at hl; omega)]; exact ⟨Qn _, Qn _, trivial⟩
    ·exact ⟨fun _ => ⟨_, rfl, ⟨id, rfl, rfl, fun _ => rfl, id, .inl, VLess.refl _⟩⟩, fun h => by simp at h, trivial⟩
    ·simp [wfV, QY, QX, lookR]
    ·simp [wfR, QX, QY]
  ·intro hb
   obtain rfl := none_of hb; clear hb
   simp only [QG] at hck hl ⊢
   have hk0 := hck; clear hck
   obtain ⟨l, eps⟩ : ∃ x, x = pre := ⟨_, rfl⟩
   subst eps
   obtain ⟨hall, hr⟩ := chk_all hk0
   refine JK ?_
   simp only [zz6, QO, ↓Qb]
   refine hK0 _ ?_; try clear hK0 K0
   refine kpA [1] ?_
   refine JA fun K0 hK0 => ?_
   refine JA fun K1 hK1 => ?_
   refine Qz F_mixed [some 5] rfl ?_
   simp only [zzK, QR, QP, QQ, JB, zz6, QO, ↓Qb]
   refine hK1 _ ?_; try clear hK1 K1
   refine kpA [1, 5] ?_
   refine JH ?_
   refine JL (fun m s => ∃ (c : Nat), (c ≤ 3) ∧ (∀ k : Nat, k < c → curBad (k : Int) l = false) ∧ m = 3 - c ∧ s = S 80 [(1, .ptr 1 0 0), (5, .d (iv ((c : Nat) : Int)))] [(1, (⟨True, 24, 2, true, false, 1, [[.d (iv nx), .d (.sl 4 (l.map legC))]]⟩ : ARow))]) (3) _ (le_SK id [] rfl (l' := [(1, .ptr 1 0 0), (5, .d (iv ((0 : Nat) : Int)))]) (m' := [(1, (⟨True, 24, 2, true, false, 1, [[.d (iv nx), .d (.sl 4 (l.map legC))]]⟩ : ARow))]) ?_ ?_ ?_ ?_) ⟨0, by omega, fun k hk => by omega, rfl, rfl⟩ ?_
   ·simp only [leV, JD, QQ, Qd, Qc]; exact ⟨(by first | exact Qo rfl | exact Qq (by decide) | exact Qp | exact Qn _ | exact Qs (by simp) (by rfl) | exact Qr (by simp) (by rfl) (by first | rfl | (simp; done) | (simp; omega)) | exact Qt (by first | rfl | simp)), (by first | exact Qo rfl | exact Qq (by decide) | exact Qp | exact Qn _ | exact Qs (by simp) (by rfl) | exact Qr (by simp) (by rfl) (by first | rfl | (simp; done) | (simp; omega)) | exact Qt (by first | rfl | simp)), trivial⟩
   ·exact ⟨fun _ => ⟨_, rfl, (by first | exact Qw (by first | rfl | simp) | exact Qx (by first | rfl | simp) (by simp) ids_data | exact Qv (by simp [QX, QY]) | exact Qu (by simp) (by simp [QX, QY]))⟩, fun h => by simp at h, trivial⟩
   ·simp [wfV, QY, QX, lookR, grow]
   ·exact ⟨by simp [QX, QY, lookR], trivial⟩
   rintro m s ⟨c, hc3, hck, rfl, rfl⟩
   refine JA fun K2 hK2 => ?_
   refine JA fun K3 hK3 => ?_
   refine Qz F_mixed [some 63, some 64] rfl ?_
   simp only [zzK, QR, QP, QQ, JC, zz21, JM, zz22, zz6, QO, ↓Qb]
   refine hK3 _ ?_; try clear hK3 K3
   refine kpA [1, 5, 64] ?_
   refine cnA ?_ ?_
   ·intro hb
    have hlt : c < 3 := by have := Qg hb; omega
    clear hb
    have hwc : Ql .i64 ((c : Int) + 1) = ((c + 1 : Nat) : Int) := by rw [wrapI (by omega) (by omega)]; omega
    have htc := tot_cur hall (c : Int)
    refine JI ?_
    simp only [zz6, QO, ↓Qb]
    refine hK2 _ ?_; try clear hK2 K2
    refine kpA [1, 5] ?_
    refine JA fun K2 hK2 => ?_
    refine JH ?_
    refine JA fun K3 hK3 => ?_
    refine Qz F_mixed [some 68, some 69, some 70, some 71, some 67, some 72, some 73, some 6, some 7] rfl ?_
    simp only [zzK, QR, QP, QQ, F_ok24, F_ag24, F_sz24, zz8, zz23, zzD, QS, QN, zzH, zzC, QA, yyE, Qe, JC, F_sl25, F_zero3, F_sz3, zz3, JS, zz1, zzG, maxLen_le, QT, JE, JF, zz14, JB, ledC, legs, ints, QW, QD, D.sl.injEq, zz6, QO, ↓Qb]
    refine JT F_go41 (fun hG => rTot_ nx l (c : Int) [1, 2, 3, 4, 5, 6] hr hl (by simp)) (by simp [QY, QX]) (by simp) ?_
    simp only [zzK, QR, QP, QQ, F_ok24, F_ag24, F_sz24, zz8, zz23, zzD, QS, QN, zzH, zzC, QA, yyE, Qe, JC, F_sl25, F_zero3, F_sz3, zz3, JS, zz1, zzG, maxLen_le, QT, JE, JF, zz14, JB, ledC, legs, ints, QW, QD, zz6, QO, ↓Qb, atsL, oksG, JV, QZ, Qa, JO, Qm, QT, QS, zz9, QB, QA, S_mem, yyF, QF, zz2]
    refine hK3 _ ?_; try clear hK3 K3
    refine kpA [1, 5, 6, 7] ?_
    refine JA fun K3 hK3 => ?_
    refine Qz F_mixed [some 74, some 75, some 76, some 77, some 78, some 79] rfl ?_
    simp only [zzK, QR, QP, QQ, QU, JZ, zz5, Qj, Qi, Qh, and_self, JC, zz29, JM, zz30, zz21, zz28, zz13, JQ, JR, htc, zz6, QO, ↓Qb]
    refine hK3 _ ?_; try clear hK3 K3
    refine kpA [1, 5, 79] ?_
    refine cnA ?_ ?_
    ·intro hb
     have hcc : curBad (c : Int) l = true := hb
     clear hb
     have e : ledOk ⟨nx, l⟩ = false := by
      have e2 : (curBad 0 l || curBad 1 l || curBad 2 l) = true := by
       have : c = 0 ∨ c = 1 ∨ c = 2 := by omega
       rcases this with rfl | rfl | rfl
       ·rw [show curBad 0 l = true from hcc]; rfl
       ·rw [show curBad 1 l = true from hcc]; cases curBad 0 l <;> rfl
       ·rw [show curBad 2 l = true from hcc]; cases curBad 0 l <;> cases curBad 1 l <;> rfl
      simp only [ledOk, e2, Bool.not_true, Bool.and_false]
     refine JA fun K4 hK4 => ?_
     refine Qz F_mixed [some 2] rfl ?_
     simp only [zzK, QR, QP, QQ, JB, zz6, QO, ↓Qb]
     refine hK4 _ ?_; try clear hK4 K4
     refine kpA [2] ?_
     refine JJ ?_
     simp only [zz6, QO, ↓Qb]
     simp only [QG]
     refine dnA ?_
     simp only [QD, QE, resA, JZ, QR, QP, JD, QQ, Qd, Qc, JP]
     rw [e]
    ·intro hb
     have hcc : curBad (c : Int) l = false := hb
     clear hb
     refine JI ?_
     simp only [zz6, QO, ↓Qb]
     refine hK2 _ ?_; try clear hK2 K2
     refine kpA [1, 5] ?_
     refine Qz F_mixed [some 65, some 66, some 5] rfl ?_
     simp only [zzK, QR, QP, QQ, JC, zz21, JM, zz26, JB, hwc, zz6, QO, ↓Qb]
     refine ⟨3 - (c + 1), _, by omega, le_SK id [] rfl (l' := [(1, .ptr 1 0 0), (5, .d (iv (((c + 1) : Nat) : Int)))]) (m' := [(1, (⟨True, 24, 2, true, false, 1, [[.d (iv nx), .d (.sl 4 (l.map legC))]]⟩ : ARow))]) ?_ ?_ ?_ ?_, (c + 1), by omega, fun k hk => by
      rcases Nat.lt_succ_iff_lt_or_eq.1 hk with hk | rfl
      ·exact hck k hk
      ·exact hcc, rfl, rfl⟩
     ·simp only [leV, JD, QQ, Qd, Qc, hwc]; exact ⟨(by first | exact Qo rfl | exact Qq (by decide) | exact Qp | exact Qn _ | exact Qs (by simp) (by rfl) | exact Qr (by simp) (by rfl) (by first | rfl | (simp; done) | (simp; omega)) | exact Qt (by first | rfl | simp)), (by first | exact Qo rfl | exact Qq (by decide) | exact Qp | exact Qn _ | exact Qs (by simp) (by rfl) | exact Qr (by simp) (by rfl) (by first | rfl | (simp; done) | (simp; omega)) | exact Qt (by first | rfl | simp)), trivial⟩
     ·exact ⟨fun _ => ⟨_, rfl, (by first | exact Qw (by first | rfl | simp) | exact Qx (by first | rfl | simp) (by simp) ids_data | exact Qv (by simp [QX, QY]) | exact Qu (by simp) (by simp [QX, QY]))⟩, fun h => by simp at h, trivial⟩
     ·simp [wfV, QY, QX, lookR, grow]
     ·exact ⟨by simp [QX, QY, lookR], trivial⟩
   ·intro hb
    obtain rfl : c = 3 := by have := Qf hb; omega
    clear hb
    have e : ledOk ⟨nx, l⟩ = true := by
     simp only [ledOk, hn, hk0, show curBad 0 l = false from hck 0 (by omega), show curBad 1 l = false from hck 1 (by omega), show curBad 2 l = false from hck 2 (by omega)]; rfl
    refine JK ?_
    simp only [zz6, QO, ↓Qb]
    refine hK0 _ ?_; try clear hK0 K0
    refine kpA [] ?_
    refine JA fun K0 hK0 => ?_
    refine Qz F_mixed [some 2] rfl ?_
    simp only [zzK, QR, QP, QQ, JB, zz6, QO, ↓Qb]
    refine hK0 _ ?_; try clear hK0 K0
    refine kpA [2] ?_
    refine JJ ?_
    simp only [zz6, QO, ↓Qb]
    simp only [QG]
    refine dnA ?_
    simp only [QD, QE, resA, JZ, QR, QP, JD, QQ, Qd, Qc, JP]
    rw [e]
theorem rLed_ (s : LedV) (hl : s.bal.length ≤ 500000) : ACalls Try.prog 21 [.agg (ledC s)] [] (bv (ledOk s)) := by
 obtain ⟨nx, l⟩ := s
 exact rLed0_ nx l hl
theorem postE_def (nx : Int) (l : List LegV) (id_ : Int) (g : List LegV) : postE ⟨nx, l⟩ id_ g = bif !ledOk ⟨nx, l⟩ then 14 else bif idBad id_ then 3 else bif decide (id_ ≤ nx) then 18 else
 bif chkE g != 0 then chkE g else bif joinR (g ++ l) != 0 then joinR (g ++ l) else bif low (joinV (g ++ l)) then 13 else 0 := rfl
theorem rAll_ : ACalls Try.prog 22 [ints [1, 2, 3, 4, 5, 6]] [⟨32, 3, allAc.map acC⟩] (.ref 0 allAc.length) := by
 refine acalls_S (rs := [.tmp 2]) Try.func22 rfl rfl 51 [(0, .d (ints [1, 2, 3, 4, 5, 6]))] rfl (by simp) rfl ?_
 refine JA fun K0 hK0 => ?_
 refine Qz F_mixed [some 2] rfl ?_
 simp only [zzK, QR, QP, QQ, JB, zz6, QO, ↓Qb]
 refine hK0 _ ?_; try clear hK0 K0
 refine kpA [0] ?_
 refine JA fun K0 hK0 => ?_
 refine Qz F_mixed [some 3] rfl ?_
 simp only [zzK, QR, QP, QQ, JB, zz6, QO, ↓Qb]
 refine hK0 _ ?_; try clear hK0 K0
 refine kpA [0, 3] ?_
 refine JA fun K0 hK0 => ?_
 refine JA fun K1 hK1 => ?_
 refine Qz F_mixed [some 4] rfl ?_
 simp only [zzK, QR, QP, QQ, JB, zz6, QO, ↓Qb]
 refine hK1 _ ?_; try clear hK1 K1
 refine kpA [0, 3, 4] ?_
 refine JH ?_
 refine JL (fun m s => ∃ k : Nat, k ≤ 6 ∧ m = 6 - k ∧ s = S 51 [(0, .d (ints [1, 2, 3, 4, 5, 6])), (3, .ref 3 (kL k).length), (4, .d (iv (k + 1 : Nat)))] [(3, grow 32 3 3 ((kL k).map acC))]) 6 _ (le_SK id [3] rfl (l' := [(0, .d (ints [1, 2, 3, 4, 5, 6])), (3, .ref 3 (kL 0).length), (4, .d (iv (0 + 1 : Nat)))]) (m' := [(3, grow 32 3 3 ((kL 0).map acC))]) ?_ ?_ ?_ ?_) ⟨0, by omega, rfl, rfl⟩ ?_
 ·simp only [leV, JD, QQ, Qd, Qc]; exact ⟨Qo rfl, Qq (by decide), Qo rfl, trivial⟩
 ·exact ⟨fun h => by simp at h, fun _ => rfl, trivial⟩
 ·simp [wfV, QY, lookR]
 ·simp [wfR, grow, kL, QX, QY]
 rintro m s ⟨k, hk6, rfl, rfl⟩
 refine JA fun K2 hK2 => ?_
 refine JA fun K3 hK3 => ?_
 refine Qz F_mixed [some 10, some 11] rfl ?_
 simp only [zzK, QR, QP, QQ, JC, zz21, JM, b_leq, pure_leq, zz6, QO, ↓Qb]
 refine hK3 _ ?_; try clear hK3 K3
 refine kpA [0, 3, 4, 11] ?_
 refine cnA ?_ ?_
 ·intro hb
  have hk : k < 6 := by have := Qg hb; omega
  clear hb
  have hwk : Ql .i64 (((k + 1 : Nat) : Int) + 1) = ((k + 1 + 1 : Nat) : Int) := by rw [wrapI (by omega) (by omega)]; omega
  refine JI ?_
  simp only [zz6, QO, ↓Qb]
  refine hK2 _ ?_; try clear hK2 K2
  refine kpA [0, 3, 4] ?_
  refine JA fun K2 hK2 => ?_
  refine JH ?_
  refine JA fun K3 hK3 => ?_
  refine Qz F_mixed [some 5] rfl ?_
  simp only [zzK, QR, QP, QQ, JB, zz6, QO, ↓Qb]
  refine hK3 _ ?_; try clear hK3 K3
  refine kpA [0, 3, 4, 5] ?_
  refine JA fun K3 hK3 => ?_
  refine JA fun K4 hK4 => ?_
  refine Qz F_mixed [some 6] rfl ?_
  simp only [zzK, QR, QP, QQ, JB, zz6, QO, ↓Qb]
  refine hK4 _ ?_; try clear hK4 K4
  refine kpA [0, 3, 4, 5, 6] ?_
  refine JH ?_
  refine JL (fun m s => ∃ j : Nat, j ≤ 6 ∧ m = 6 - j ∧ s = S 51 [(0, .d (ints [1, 2, 3, 4, 5, 6])), (3, .ref 3 (kL k).length), (4, .d (iv (k + 1 : Nat))), (5, bv (decide (k + 1 ≤ j))), (6, .d (iv j))] [(3, grow 32 3 3 ((kL k).map acC))]) 6 _ (le_SK id [] rfl (l' := [(0, .d (ints [1, 2, 3, 4, 5, 6])), (3, .ref 3 (kL k).length), (4, .d (iv (k + 1 : Nat))), (5, bv (decide (k + 1 ≤ 0))), (6, .d (iv 0))]) (m' := [(3, grow 32 3 3 ((kL k).map acC))]) ?_ ?_ ?_ ?_) ⟨0, by omega, rfl, rfl⟩ ?_
  ·simp only [leV, JD, QQ, Qd, Qc, show decide (k + 1 ≤ 0) = false from decide_eq_false (by omega)]; exact ⟨Qn _, Qn _, Qn _, Qn _, Qn _, trivial⟩
  ·exact ⟨fun _ => ⟨_, rfl, Qw rfl⟩, fun h => by simp at h, trivial⟩
  ·simp [wfV, QY, lookR, grow]
  ·exact ⟨wf_data _ _, trivial⟩
  rintro m s ⟨j, hj6, rfl, rfl⟩
  refine JA fun K5 hK5 => ?_
  refine JA fun K6 hK6 => ?_
  refine Qz F_mixed [some 14, some 15, some 16, some 17] rfl ?_
  simp only [zzK, QR, QP, QQ, JC, JE, zz12, F_sl25, Option.isSome_some, zz21, JM, zz22, ints, JN, zz6, QO, ↓Qb]
  refine hK6 _ ?_; try clear hK6 K6
  refine kpA [0, 3, 4, 5, 6, 17] ?_
  refine cnA ?_ ?_
  ·intro hb
   have hj : j < 6 := by
    have := Qg hb
    simp at this; omega
   clear hb
   have hwj : Ql .i64 ((j : Int) + 1) = ((j + 1 : Nat) : Int) := by rw [wrapI (by omega) (by omega)]; omega
   have hdj : (decide (k + 1 ≤ j) || ((j + 1 : Nat) : Int) == ((k + 1 : Nat) : Int)) = decide (k + 1 ≤ j + 1) := by
    rw [Bool.eq_iff_iff]; simp; omega
   have gj : (([1, 2, 3, 4, 5, 6] : List Int).map fun n => [iv n]).getD j [] = [iv ((j + 1 : Nat) : Int)] := by
    have : j = 0 ∨ j = 1 ∨ j = 2 ∨ j = 3 ∨ j = 4 ∨ j = 5 := by omega
    rcases this with rfl | rfl | rfl | rfl | rfl | rfl <;> rfl
   have bj : ((j : Int) < ((([1, 2, 3, 4, 5, 6] : List Int).map fun n => [iv n]).length : Int)) = True := by simp; omega
   refine JI ?_
   simp only [zz6, QO, ↓Qb]
   refine hK5 _ ?_; try clear hK5 K5
   refine kpA [0, 3, 4, 5, 6] ?_
   refine JA fun K5 hK5 => ?_
   refine JH ?_
   refine Qz F_mixed [some 20, some 21, some 22, some 23, some 24, some 25, some 26, some 27, some 28, some 5] rfl ?_
   simp only [zzK, QR, QP, QQ, QU, JZ, zz5, Qj, Qi, Qh, JC, JW, zz23, zz24, F_sl25, F_sz3, QA, zzC, yyE, Qe, F_ok3, F_ag3, zz8, zzD, QS, QN, zzH, zz21, JM, zz34, zz13, JQ, JR, JB, ints, gj, bj, ge0, QV, hdj, zz6, QO, ↓Qb]
   refine hK5 _ ?_; try clear hK5 K5
   refine kpA [0, 3, 4, 5, 6] ?_
   refine Qz F_mixed [some 18, some 19, some 6] rfl ?_
   simp only [zzK, QR, QP, QQ, JC, zz21, JM, zz26, JB, hwj, zz6, QO, ↓Qb]
   refine ⟨6 - (j + 1), _, by omega, le_SK id [] rfl (l' := [(0, .d (ints [1, 2, 3, 4, 5, 6])), (3, .ref 3 (kL k).length), (4, .d (iv (k + 1 : Nat))), (5, bv (decide (k + 1 ≤ (j + 1)))), (6, .d (iv (j + 1)))]) (m' := [(3, grow 32 3 3 ((kL k).map acC))]) ?_ ?_ ?_ ?_, j + 1, by omega, rfl, rfl⟩
   ·simp only [leV, JD, QQ, Qd, Qc, hwj, QP]; exact ⟨Qn _, Qn _, Qn _, Qn _, Qn _, trivial⟩
   ·exact ⟨fun _ => ⟨_, rfl, Qw rfl⟩, fun h => by simp at h, trivial⟩
   ·simp [wfV, QY, lookR, grow]
   ·exact ⟨wf_data _ _, trivial⟩
  ·intro hb
   obtain rfl : j = 6 := by
    have := Qf hb
    simp at this; omega
   clear hb
   have hd6 : decide (k + 1 ≤ 6) = true := decide_eq_true (by omega)
   refine JK ?_
   simp only [zz6, QO, ↓Qb]
   refine hK3 _ ?_; try clear hK3 K3
   refine kpA [0, 3, 4, 5] ?_
   refine JA fun K3 hK3 => ?_
   simp only [hd6]
   refine Qz F_mixed [some 7] rfl ?_
   simp only [zzK, QR, QP, QQ, JB, zz6, QO, ↓Qb]
   refine hK3 _ ?_; try clear hK3 K3
   refine kpA [0, 3, 4, 5, 7] ?_
   refine JH ?_
   refine JL (fun m s => ∃ w : Nat, w ≤ 17 ∧ m = 17 - w ∧ s = S 51 [(0, .d (ints [1, 2, 3, 4, 5, 6])), (3, .ref 3 ((kL k ++ wL (k + 1) w)).length), (4, .d (iv (k + 1 : Nat))), (5, bv true), (7, .d (iv w))] [(3, grow 32 3 3 (((kL k ++ wL (k + 1) w)).map acC))]) 17 _ (le_SK id [] rfl (l' := [(0, .d (ints [1, 2, 3, 4, 5, 6])), (3, .ref 3 (kL k ++ wL (k + 1) 0).length), (4, .d (iv (k + 1 : Nat))), (5, bv true), (7, .d (iv ((0 : Nat) : Int)))]) (m' := [(3, grow 32 3 3 ((kL k ++ wL (k + 1) 0).map acC))]) ?_ ?_ ?_ ?_) ⟨0, by omega, rfl, rfl⟩ ?_
   ·simp only [leV, JD, QQ, Qd, Qc, show kL k ++ wL (k + 1) 0 = kL k by simp [wL]]; exact ⟨Qn _, Qn _, Qn _, Qn _, Qn _, trivial⟩
   ·exact ⟨fun _ => ⟨_, rfl, Qw (by simp [wL])⟩, fun h => by simp at h, trivial⟩
   ·simp [wfV, QY, lookR, grow]
   ·exact ⟨wf_data _ _, trivial⟩
   rintro m s ⟨w, hw17, rfl, rfl⟩
   refine JA fun K4 hK4 => ?_
   refine JA fun K5 hK5 => ?_
   refine Qz F_mixed [some 29, some 30, some 31, some 32, some 33] rfl ?_
   simp only [zzK, QR, QP, QQ, QU, JZ, zz5, Qj, Qi, Qh, and_self, JC, zz21, JM, b_leq, pure_leq, zz13, JQ, JR, zz6, QO, ↓Qb]
   refine hK5 _ ?_; try clear hK5 K5
   refine kpA [0, 3, 4, 5, 7, 33] ?_
   refine cnA ?_ ?_
   ·intro hb
    have hw : w < 17 := by
     have : decide ((w : Int) ≤ 16) = true := by simpa using hb
     have := Qg this; omega
    clear hb
    have hww : Ql .i64 ((w : Int) + 1) = ((w + 1 : Nat) : Int) := by rw [wrapI (by omega) (by omega)]; omega
    refine JI ?_
    simp only [zz6, QO, ↓Qb]
    refine hK4 _ ?_; try clear hK4 K4
    refine kpA [0, 3, 4, 5, 7] ?_
    refine JA fun K4 hK4 => ?_
    refine JH ?_
    refine JA fun K5 hK5 => ?_
    refine Qz F_mixed [some 8] rfl ?_
    simp only [zzK, QR, QP, QQ, JB, zz6, QO, ↓Qb]
    refine hK5 _ ?_; try clear hK5 K5
    refine kpA [0, 3, 4, 5, 7, 8] ?_
    refine JH ?_
    refine JL (fun m s => ∃ c : Nat, c ≤ 3 ∧ m = 3 - c ∧ s = S 51 [(0, .d (ints [1, 2, 3, 4, 5, 6])), (3, .ref 3 ((kL k ++ wL (k + 1) w ++ cL (k + 1) w c)).length), (4, .d (iv (k + 1 : Nat))), (5, bv true), (7, .d (iv w)), (8, .d (iv c))] [(3, grow 32 3 3 (((kL k ++ wL (k + 1) w ++ cL (k + 1) w c)).map acC))]) 3 _ (le_SK id [] rfl (l' := [(0, .d (ints [1, 2, 3, 4, 5, 6])), (3, .ref 3 (kL k ++ wL (k + 1) w ++ cL (k + 1) w 0).length), (4, .d (iv (k + 1 : Nat))), (5, bv true), (7, .d (iv w)), (8, .d (iv ((0 : Nat) : Int)))]) (m' := [(3, grow 32 3 3 ((kL k ++ wL (k + 1) w ++ cL (k + 1) w 0).map acC))]) ?_ ?_ ?_ ?_) ⟨0, by omega, rfl, rfl⟩ ?_
    ·simp only [leV, JD, QQ, Qd, Qc, show kL k ++ wL (k + 1) w ++ cL (k + 1) w 0 = kL k ++ wL (k + 1) w by simp [cL]]; exact ⟨Qn _, Qn _, Qn _, Qn _, Qn _, Qn _, trivial⟩
    ·exact ⟨fun _ => ⟨_, rfl, Qw (by simp [cL])⟩, fun h => by simp at h, trivial⟩
    ·simp [wfV, QY, lookR, grow]
    ·exact ⟨wf_data _ _, trivial⟩
    rintro m s ⟨c, hc3, rfl, rfl⟩
    have n1 := kL_len k
    have n2 := wL_len (k + 1) w
    have n3 := cL_len (k + 1) w c
    refine JA fun K6 hK6 => ?_
    refine JA fun K7 hK7 => ?_
    refine Qz F_mixed [some 36, some 37] rfl ?_
    simp only [zzK, QR, QP, QQ, JC, zz21, JM, zz22, zz6, QO, ↓Qb]
    refine hK7 _ ?_; try clear hK7 K7
    refine kpA [0, 3, 4, 5, 7, 8, 37] ?_
    refine cnA ?_ ?_
    ·intro hb
     have hc : c < 3 := by have := Qg hb; omega
     clear hb
     have hwc : Ql .i64 ((c : Int) + 1) = ((c + 1 : Nat) : Int) := by rw [wrapI (by omega) (by omega)]; omega
     refine JI ?_
     simp only [zz6, QO, ↓Qb]
     refine hK6 _ ?_; try clear hK6 K6
     refine kpA [0, 3, 4, 5, 7, 8] ?_
     refine JA fun K6 hK6 => ?_
     refine JH ?_
     refine JA fun K7 hK7 => ?_
     refine Qz F_mixed [some 40, some 41, some 42, some 43, some 9, none] rfl ?_
     simp only [zzK, QR, QP, QQ, JC, F_zero32, F_bld32, zz7, splice, Option.getD_some, QG, zz1, zzG, zzD, zzC, QA, yyE, Qe, QS, QN, zzH, zz10, F_fld32_0, F_fld32_1, F_fld32_2, zz32, JS, zz18, F_ok32, F_sz32, zz6, QO, ↓Qb]
     refine hK7 _ ?_; try clear hK7 K7
     refine kpA [0, 3, 4, 5, 7, 8, 9] ?_
     refine JA fun K7 hK7 => ?_
     refine Qz F_mixed [some 44, some 45] rfl ?_
     simp only [zzK, QR, QP, QQ, F_ok32, F_ag32, F_sz32, zz8, zz23, zzD, QS, QN, zzH, zzC, QA, yyE, Qe, JE, JF, acC, QW, zz6, QO, ↓Qb]
     refine JT F_go38 (fun hG => rAcRight_ ⟨((k + 1 : Nat) : Int), (w : Int), (c : Int)⟩) (by simp [QY, QX]) (by simp) ?_
     simp only [zzK, QR, QP, QQ, F_ok32, F_ag32, F_sz32, zz8, zz23, zzD, QS, QN, zzH, zzC, QA, yyE, Qe, JE, JF, acC, QW, zz6, QO, ↓Qb, atsL, oksG, JV, QZ, Qa, JO, Qm, QT, QS, zz9, QB, QA, S_mem, yyF, QF, zz2]
     refine hK7 _ ?_; try clear hK7 K7
     refine kpA [0, 3, 4, 5, 7, 8, 9, 45] ?_
     refine cnA ?_ ?_
     ·intro hb
      have hok : acOk ⟨((k + 1 : Nat) : Int), (w : Int), (c : Int)⟩ = true := hb
      clear hb
      have hcx : kL k ++ wL (k + 1) w ++ cL (k + 1) w (c + 1) = (kL k ++ wL (k + 1) w ++ cL (k + 1) w c) ++ [(⟨((k + 1 : Nat) : Int), (w : Int), (c : Int)⟩ : AcV)] := by rw [cL_succ, oneA, hok]; simp
      have hcl : (kL k ++ wL (k + 1) w ++ cL (k + 1) w (c + 1)).length = (kL k ++ wL (k + 1) w ++ cL (k + 1) w c).length + 1 := by rw [hcx]; simp only [QC, QM]
      have hm : (kL k ++ wL (k + 1) w ++ cL (k + 1) w c).length + 1 ≤ 1000000 := by simp only [QC]; omega
      refine Qz F_mixed [some 46, some 47, some 48, some 49, some 3] rfl ?_
      simp only [zzK, QR, QP, QQ, JC, F_ok32, F_ag32, F_sz32, zz8, zz23, zzD, QS, QN, zzH, zzC, QA, yyE, Qe, F_sl66, F_zero32, zz3, JS, zz1, zzG, maxLen_le, QT, JE, F_by32, zz4, zz9, QB, JB, grow, QW, unDs_map, zz6, QO, ↓Qb]
      first | refine ⟨le_maxLen hm, by omega, ?_⟩ | refine ⟨by simp, le_maxLen hm, by omega, ?_⟩
      clear hm
      refine hK6 _ ?_; try clear hK6 K6
      refine kpA [0, 3, 4, 5, 7, 8] ?_
      refine Qz F_mixed [some 38, some 39, some 8] rfl ?_
      simp only [zzK, QR, QP, QQ, JC, zz21, JM, zz26, JB, hwc, zz6, QO, ↓Qb]
      refine ⟨3 - (c + 1), _, by omega, le_SK (fun r => bif r == 3 then 49 else r) [] rfl (l' := [(0, .d (ints [1, 2, 3, 4, 5, 6])), (3, .ref 3 (kL k ++ wL (k + 1) w ++ cL (k + 1) w (c + 1)).length), (4, .d (iv (k + 1 : Nat))), (5, bv true), (7, .d (iv w)), (8, .d (iv ((c + 1 : Nat) : Int)))]) (m' := [(3, grow 32 3 3 ((kL k ++ wL (k + 1) w ++ cL (k + 1) w (c + 1)).map acC))]) ?_ ?_ ?_ ?_, c + 1, by omega, rfl, rfl⟩
      ·simp only [leV, JD, QQ, Qd, Qc, hwc]
       refine ⟨Qo rfl, ?_, Qo rfl, Qo rfl, Qo rfl, Qo rfl, trivial⟩
       rw [hcl]; exact VLe.ref_ (f := (fun r => bif r == 3 then 49 else r)) (r := 3) (by simp)
      ·exact ⟨fun _ => ⟨_, rfl, Qw (by rw [hcx] <;> simp [acC])⟩, fun h => by simp at h, trivial⟩
      ·simp [wfV, QY, lookR, grow]
      ·exact ⟨wf_data _ _, trivial⟩
     ·intro hb
      have hok : acOk ⟨((k + 1 : Nat) : Int), (w : Int), (c : Int)⟩ = false := hb
      clear hb
      have hcx : kL k ++ wL (k + 1) w ++ cL (k + 1) w (c + 1) = kL k ++ wL (k + 1) w ++ cL (k + 1) w c := by rw [cL_succ, oneA, hok]; simp
      have hcl : (kL k ++ wL (k + 1) w ++ cL (k + 1) w (c + 1)).length = (kL k ++ wL (k + 1) w ++ cL (k + 1) w c).length := by rw [hcx]
      refine JI ?_
      simp only [zz6, QO, ↓Qb]
      refine hK6 _ ?_; try clear hK6 K6
      refine kpA [0, 3, 4, 5, 7, 8] ?_
      refine Qz F_mixed [some 38, some 39, some 8] rfl ?_
      simp only [zzK, QR, QP, QQ, JC, zz21, JM, zz26, JB, hwc, zz6, QO, ↓Qb]
      refine ⟨3 - (c + 1), _, by omega, le_SK (fun r => bif r == 3 then 3 else r) [] rfl (l' := [(0, .d (ints [1, 2, 3, 4, 5, 6])), (3, .ref 3 (kL k ++ wL (k + 1) w ++ cL (k + 1) w (c + 1)).length), (4, .d (iv (k + 1 : Nat))), (5, bv true), (7, .d (iv w)), (8, .d (iv ((c + 1 : Nat) : Int)))]) (m' := [(3, grow 32 3 3 ((kL k ++ wL (k + 1) w ++ cL (k + 1) w (c + 1)).map acC))]) ?_ ?_ ?_ ?_, c + 1, by omega, rfl, rfl⟩
      ·simp only [leV, JD, QQ, Qd, Qc, hwc]
       refine ⟨Qo rfl, ?_, Qo rfl, Qo rfl, Qo rfl, Qo rfl, trivial⟩
       rw [hcl]; exact VLe.ref_ (f := (fun r => bif r == 3 then 3 else r)) (r := 3) (by simp)
      ·exact ⟨fun _ => ⟨_, rfl, Qw (by rw [hcx] <;> simp [acC])⟩, fun h => by simp at h, trivial⟩
      ·simp [wfV, QY, lookR, grow]
      ·exact ⟨wf_data _ _, trivial⟩
    ·intro hb
     obtain rfl : c = 3 := by have := Qf hb; omega
     clear hb
     refine JK ?_
     simp only [zz6, QO, ↓Qb]
     refine hK4 _ ?_; try clear hK4 K4
     refine kpA [0, 3, 4, 5, 7] ?_
     refine Qz F_mixed [some 34, some 35, some 7] rfl ?_
     simp only [zzK, QR, QP, QQ, JC, zz21, JM, zz26, JB, hww, zz6, QO, ↓Qb]
     refine ⟨17 - (w + 1), _, by omega, le_SK id [] rfl (l' := [(0, .d (ints [1, 2, 3, 4, 5, 6])), (3, .ref 3 (kL k ++ wL (k + 1) (w + 1)).length), (4, .d (iv (k + 1 : Nat))), (5, bv true), (7, .d (iv ((w + 1 : Nat) : Int)))]) (m' := [(3, grow 32 3 3 ((kL k ++ wL (k + 1) (w + 1)).map acC))]) ?_ ?_ ?_ ?_, w + 1, by omega, rfl, rfl⟩
     ·simp only [leV, JD, QQ, Qd, Qc, hww, wL_succ, List.append_assoc]; exact ⟨Qn _, Qn _, Qn _, Qn _, Qn _, trivial⟩
     ·exact ⟨fun _ => ⟨_, rfl, Qw (by rw [wL_succ, List.append_assoc])⟩, fun h => by simp at h, trivial⟩
     ·simp [wfV, QY, lookR, grow]
     ·exact ⟨wf_data _ _, trivial⟩
   ·intro hb
    obtain rfl : w = 17 := by
     have : decide ((w : Int) ≤ 16) = false := by simpa using hb
     have := Qf this; omega
    clear hb
    refine JK ?_
    simp only [zz6, QO, ↓Qb]
    refine hK2 _ ?_; try clear hK2 K2
    refine kpA [0, 3, 4] ?_
    refine Qz F_mixed [some 12, some 13, some 4] rfl ?_
    simp only [zzK, QR, QP, QQ, JC, zz21, JM, zz26, JB, hwk, zz6, QO, ↓Qb]
    refine ⟨6 - (k + 1), _, by omega, le_SK id [] rfl (l' := [(0, .d (ints [1, 2, 3, 4, 5, 6])), (3, .ref 3 (kL (k + 1)).length), (4, .d (iv ((k + 1) + 1 : Nat)))]) (m' := [(3, grow 32 3 3 ((kL (k + 1)).map acC))]) ?_ ?_ ?_ ?_, k + 1, by omega, rfl, rfl⟩
    ·simp only [leV, JD, QQ, Qd, Qc, hwk, kL_succ]; exact ⟨Qo rfl, Qn _, Qo rfl, trivial⟩
    ·exact ⟨fun _ => ⟨_, rfl, Qw (by rw [kL_succ])⟩, fun h => by simp at h, trivial⟩
    ·simp [wfV, QY, lookR, grow]
    ·exact ⟨wf_data _ _, trivial⟩
 ·intro hb
  obtain rfl : k = 6 := by have := Qf hb; omega
  clear hb
  refine JK ?_
  simp only [zz6, QO, ↓Qb]
  refine hK0 _ ?_; try clear hK0 K0
  refine kpA [3] ?_
  refine JA fun K0 hK0 => ?_
  refine Qz F_mixed [some 50, some 2] rfl ?_
  simp only [zzK, QR, QP, QQ, JC, JB, zz6, QO, ↓Qb]
  refine hK0 _ ?_; try clear hK0 K0
  refine kpA [2] ?_
  refine JJ ?_
  simp only [zz6, QO, ↓Qb]
  refine done1 3 (by simp only [resCs, resC]; trivial) ?_ (by simp [Ja, Jb, Jc, acC]) (by simp [QY, QX, acC]) (by rfl) trivial rfl rfl ?_ (by simp [flatDs, Jc, acC])
  ·simp only [QD, QE, resA, JZ, QR, QP, JD, QQ, Qd, Qc, JP]; rfl
  ·rfl
def acs (l : List AcV) : D := .sl 3 (l.map acC)
theorem rAllF : ACalls Try.prog 22 [ints [1, 2, 3, 4, 5, 6]] [] (.d (acs allAc)) := rAll_.freeze (by simp [frzOk])
set_option maxRecDepth 100000 in
set_option maxHeartbeats 4000000 in
theorem rPost_ (nx id_ : Int) (l g : List LegV) (hl : l.length ≤ 400000) (hg : g.length ≤ 400000) : ACalls Try.prog 11 [.agg (ledC ⟨nx, l⟩), iv id_, legs g] [⟨63, 4, (postV ⟨nx, l⟩ id_ g).bal.map legC⟩] (.tp [.ag [.d (iv (postV ⟨nx, l⟩ id_ g).last), .ref 0 (postV ⟨nx, l⟩ id_ g).bal.length], .d (iv (postE ⟨nx, l⟩ id_ g))]) := by
 refine acalls_S (rs := [.cell 6 24, .tmp 7]) Try.func11 rfl rfl 116 [(0, .d (.agg (ledC ⟨nx, l⟩))), (1, .d (iv id_)), (2, .d (legs g))] rfl (by simp) rfl ?_
 refine JA fun K0 hK0 => ?_
 refine Qz F_mixed [some 3, some 6, some 7] rfl ?_
 simp only [zzK, QR, QP, QQ, zz35, JS, zz1, zzG, zzD, zzC, QA, yyE, Qe, QS, QN, zzH, zz32, F_zero24, zz10, JB, ledC, legs, zz6, QO, ↓Qb]
 refine hK0 _ ?_; try clear hK0 K0
 refine kpA [1, 2, 3, 6] ?_
 refine JA fun K0 hK0 => ?_
 refine Qz F_mixed [some 18, some 8, none] rfl ?_
 simp only [zzK, QR, QP, QQ, F_zero24, F_bld24, zz7, splice, Option.getD_some, QG, zz1, zzG, zzD, zzC, QA, yyE, Qe, QS, QN, zzH, zz10, zz32, JS, zz18, F_ok24, F_sz24, zz6, QO, ↓Qb]
 refine hK0 _ ?_; try clear hK0 K0
 refine kpA [1, 2, 3, 6, 8] ?_
 refine JA fun K0 hK0 => ?_
 refine JA fun K1 hK1 => ?_
 refine Qz F_mixed [some 19, some 20, some 21] rfl ?_
 simp only [zzK, QR, QP, QQ, F_ok24, F_ag24, F_sz24, zz8, zz23, zzD, QS, QN, zzH, zzC, QA, yyE, Qe, JE, JF, zz29, JM, zz30, ledC, legs, QW, zz6, QO, ↓Qb]
 refine JT F_go21 (fun hG => rLed_ ⟨nx, l⟩ (by simp only; omega)) (by simp [QY, QX]) (by simp) ?_
 simp only [zzK, QR, QP, QQ, F_ok24, F_ag24, F_sz24, zz8, zz23, zzD, QS, QN, zzH, zzC, QA, yyE, Qe, JE, JF, zz29, JM, zz30, ledC, legs, QW, zz6, QO, ↓Qb, atsL, oksG, JV, QZ, Qa, JO, Qm, QT, QS, zz9, QB, QA, S_mem, yyF, QF, zz2]
 refine hK1 _ ?_; try clear hK1 K1
 refine kpA [1, 2, 3, 6, 8, 21] ?_
 refine cnA ?_ ?_
 ·intro hb
  have ho : ledOk ⟨nx, l⟩ = false := by simpa using hb
  clear hb
  refine JA fun K2 hK2 => ?_
  refine Qz F_mixed [some 22, none, some 7] rfl ?_
  simp only [zzK, QR, QP, QQ, F_ok24, F_ag24, F_sz24, zz8, zz23, zzD, QS, QN, zzH, zzC, QA, yyE, Qe, zz18, splice, QG, zz1, zzG, JB, zz6, QO, ↓Qb]
  refine hK2 _ ?_; try clear hK2 K2
  refine kpA [6, 7] ?_
  have e : postE ⟨nx, l⟩ id_ g = 14 := by rw [postE_def, ho]; first | done | rfl | assumption
  have ev : postV ⟨nx, l⟩ id_ g = ⟨0, []⟩ := post_no (by rw [e]; first | decide | assumption)
  refine awp_le (le_SK id [0] rfl (l' := [(6, .ptr 6 0 0), (7, .d (iv 14))]) (m' := [(6, (⟨True, 24, 2, true, false, 6, [[.d (.v (.int .i64 0)), .ref 0 0]]⟩ : ARow)), (0, (⟨True, 63, 4, true, true, 0, []⟩ : ARow))]) ?_ ?_ ?_ ?_) ?_
  ·simp only [leV, JD, QQ, Qd, Qc]; exact ⟨VLe.ptr_ (f := id) (by decide), Qo rfl, trivial⟩
  ·exact ⟨fun _ => ⟨_, rfl, RowLe.cells (VLess.one_ (VLes.cons_ (Qo rfl) (VLes.cons_ (Qq (by decide)) VLes.nil_)))⟩, fun h => by simp at h, fun h => by simp at h, fun _ => rfl, trivial⟩
  ·simp [wfV, QY, lookR]
  ·simp [wfR, QX, QY, lookR]
  refine JJ ?_
  simp only [zz6, QO, ↓Qb]
  rw [ev, e]
  refine doneN [0] (by simp [resCs, resC, S, List.getD, JD, lookR, F_ag24, F_sz24, F_ok24]) ?_ (by simp [Ja, Jb, Jc, ]) (by simp [QY, QX, ]) (by decide) ?_
  ·simp only [QD, QE, resA, JZ, S_mem, lookR_cons, lookR_nil, QR, QP, JD, QQ, Qd, Qc, JP, QI, QJ, QH, QL, QK, List.take_zero, F_ag24, F_sz24, F_ok24]; rfl
  ·exact ⟨⟨_, rfl, trivial, rfl, rfl, rfl, rfl⟩, by simp [flatDs, Jc, legC], trivial⟩
 ·intro hb
  have ho : ledOk ⟨nx, l⟩ = true := by simpa using hb
  clear hb
  have hG := (ledOk_iff _).1 ho
  refine JI ?_
  simp only [zz6, QO, ↓Qb]
  refine hK0 _ ?_; try clear hK0 K0
  refine kpA [1, 2, 3, 6, 8] ?_
  refine JA fun K0 hK0 => ?_
  refine JA fun K1 hK1 => ?_
  refine Qz F_mixed [some 23, some 24, some 25, some 26, some 27, some 28] rfl ?_
  simp only [zzK, QR, QP, QQ, QU, JZ, zz5, Qj, Qi, Qh, and_self, JC, zz21, JM, zz22, zz25, zz13, JQ, JR, zz6, QO, ↓Qb]
  refine hK1 _ ?_; try clear hK1 K1
  refine kpA [1, 2, 3, 6, 8, 28] ?_
  refine cnA ?_ ?_
  ·intro hb
   have hid : idBad id_ = true := hb
   clear hb
   refine JA fun K2 hK2 => ?_
   refine Qz F_mixed [some 29, none, some 7] rfl ?_
   simp only [zzK, QR, QP, QQ, F_ok24, F_ag24, F_sz24, zz8, zz23, zzD, QS, QN, zzH, zzC, QA, yyE, Qe, zz18, splice, QG, zz1, zzG, JB, zz6, QO, ↓Qb]
   refine hK2 _ ?_; try clear hK2 K2
   refine kpA [6, 7] ?_
   have e : postE ⟨nx, l⟩ id_ g = 3 := by rw [postE_def, ho, hid]; first | done | rfl | assumption
   have ev : postV ⟨nx, l⟩ id_ g = ⟨0, []⟩ := post_no (by rw [e]; first | decide | assumption)
   refine awp_le (le_SK id [0] rfl (l' := [(6, .ptr 6 0 0), (7, .d (iv 3))]) (m' := [(6, (⟨True, 24, 2, true, false, 6, [[.d (.v (.int .i64 0)), .ref 0 0]]⟩ : ARow)), (0, (⟨True, 63, 4, true, true, 0, []⟩ : ARow))]) ?_ ?_ ?_ ?_) ?_
   ·simp only [leV, JD, QQ, Qd, Qc]; exact ⟨VLe.ptr_ (f := id) (by decide), Qo rfl, trivial⟩
   ·exact ⟨fun _ => ⟨_, rfl, RowLe.cells (VLess.one_ (VLes.cons_ (Qo rfl) (VLes.cons_ (Qq (by decide)) VLes.nil_)))⟩, fun h => by simp at h, fun h => by simp at h, fun _ => rfl, trivial⟩
   ·simp [wfV, QY, lookR]
   ·simp [wfR, QX, QY, lookR]
   refine JJ ?_
   simp only [zz6, QO, ↓Qb]
   rw [ev, e]
   refine doneN [0] (by simp [resCs, resC, S, List.getD, JD, lookR, F_ag24, F_sz24, F_ok24]) ?_ (by simp [Ja, Jb, Jc, ]) (by simp [QY, QX, ]) (by decide) ?_
   ·simp only [QD, QE, resA, JZ, S_mem, lookR_cons, lookR_nil, QR, QP, JD, QQ, Qd, Qc, JP, QI, QJ, QH, QL, QK, List.take_zero, F_ag24, F_sz24, F_ok24]; rfl
   ·exact ⟨⟨_, rfl, trivial, rfl, rfl, rfl, rfl⟩, by simp [flatDs, Jc, legC], trivial⟩
  ·intro hb
   have hid : idBad id_ = false := hb
   clear hb
   refine JI ?_
   simp only [zz6, QO, ↓Qb]
   refine hK0 _ ?_; try clear hK0 K0
   refine kpA [1, 2, 3, 6, 8] ?_
   refine JA fun K0 hK0 => ?_
   refine JA fun K1 hK1 => ?_
   refine Qz F_mixed [some 30, some 31, some 32, some 33] rfl ?_
   simp only [zzK, QR, QP, QQ, JC, zz19, zz23, F_off24_0, zzH, QN, QS, F_ok3, F_ag3, F_sz3, zz8, zzD, zzC, QA, yyE, Qe, zz21, JM, b_leq, pure_leq, zz6, QO, ↓Qb]
   refine hK1 _ ?_; try clear hK1 K1
   refine kpA [1, 2, 3, 6, 8, 33] ?_
   refine cnA ?_ ?_
   ·intro hb
    have hlt : decide (id_ ≤ nx) = true := hb
    clear hb
    refine JA fun K2 hK2 => ?_
    refine Qz F_mixed [some 34, none, some 7] rfl ?_
    simp only [zzK, QR, QP, QQ, F_ok24, F_ag24, F_sz24, zz8, zz23, zzD, QS, QN, zzH, zzC, QA, yyE, Qe, zz18, splice, QG, zz1, zzG, JB, zz6, QO, ↓Qb]
    refine hK2 _ ?_; try clear hK2 K2
    refine kpA [6, 7] ?_
    have e : postE ⟨nx, l⟩ id_ g = 18 := by rw [postE_def, ho, hid, hlt]; first | done | rfl | assumption
    have ev : postV ⟨nx, l⟩ id_ g = ⟨0, []⟩ := post_no (by rw [e]; first | decide | assumption)
    refine awp_le (le_SK id [0] rfl (l' := [(6, .ptr 6 0 0), (7, .d (iv 18))]) (m' := [(6, (⟨True, 24, 2, true, false, 6, [[.d (.v (.int .i64 0)), .ref 0 0]]⟩ : ARow)), (0, (⟨True, 63, 4, true, true, 0, []⟩ : ARow))]) ?_ ?_ ?_ ?_) ?_
    ·simp only [leV, JD, QQ, Qd, Qc]; exact ⟨VLe.ptr_ (f := id) (by decide), Qo rfl, trivial⟩
    ·exact ⟨fun _ => ⟨_, rfl, RowLe.cells (VLess.one_ (VLes.cons_ (Qo rfl) (VLes.cons_ (Qq (by decide)) VLes.nil_)))⟩, fun h => by simp at h, fun h => by simp at h, fun _ => rfl, trivial⟩
    ·simp [wfV, QY, lookR]
    ·simp [wfR, QX, QY, lookR]
    refine JJ ?_
    simp only [zz6, QO, ↓Qb]
    rw [ev, e]
    refine doneN [0] (by simp [resCs, resC, S, List.getD, JD, lookR, F_ag24, F_sz24, F_ok24]) ?_ (by simp [Ja, Jb, Jc, ]) (by simp [QY, QX, ]) (by decide) ?_
    ·simp only [QD, QE, resA, JZ, S_mem, lookR_cons, lookR_nil, QR, QP, JD, QQ, Qd, Qc, JP, QI, QJ, QH, QL, QK, List.take_zero, F_ag24, F_sz24, F_ok24]; rfl
    ·exact ⟨⟨_, rfl, trivial, rfl, rfl, rfl, rfl⟩, by simp [flatDs, Jc, legC], trivial⟩
   ·intro hb
    have hlt : decide (id_ ≤ nx) = false := hb
    clear hb
    refine JI ?_
    simp only [zz6, QO, ↓Qb]
    refine hK0 _ ?_; try clear hK0 K0
    refine kpA [1, 2, 3, 6, 8] ?_
    refine JA fun K0 hK0 => ?_
    refine Qz F_mixed [some 35, some 36, some 9] rfl ?_
    simp only [zzK, QR, QP, QQ, JC, JE, JF, JB, legs, zz6, QO, ↓Qb]
    refine JT F_go17 (fun hG => rCheck_ g (by omega)) (by simp [QY, QX]) (by simp) ?_
    simp only [zzK, QR, QP, QQ, JC, JE, JF, JB, legs, zz6, QO, ↓Qb, atsL, oksG, JV, QZ, Qa, JO, Qm, QT, QS, zz9, QB, QA, zzC, yyF, zzD, zz2]
    refine hK0 _ ?_; try clear hK0 K0
    refine kpA [1, 2, 3, 6, 8, 9] ?_
    refine JA fun K0 hK0 => ?_
    refine JA fun K1 hK1 => ?_
    refine Qz F_mixed [some 37, some 38] rfl ?_
    simp only [zzK, QR, QP, QQ, JC, zz21, JM, zz28, zz6, QO, ↓Qb]
    refine hK1 _ ?_; try clear hK1 K1
    refine kpA [1, 2, 3, 6, 8, 9, 38] ?_
    refine cnA ?_ ?_
    ·intro hb
     have hc : (chkE g != 0) = true := hb
     clear hb
     have hc2 : chkE g ≠ 0 := by simpa using hc
     refine JA fun K2 hK2 => ?_
     refine Qz F_mixed [some 39, some 40, none, some 7] rfl ?_
     simp only [zzK, QR, QP, QQ, F_ok24, F_ag24, F_sz24, zz8, zz23, zzD, QS, QN, zzH, zzC, QA, yyE, Qe, JC, zz18, splice, QG, zz1, zzG, JB, zz6, QO, ↓Qb]
     refine hK2 _ ?_; try clear hK2 K2
     refine kpA [6, 7] ?_
     have e : postE ⟨nx, l⟩ id_ g = chkE g := by rw [postE_def, ho, hid, hlt, hc]; first | done | rfl | assumption
     have ev : postV ⟨nx, l⟩ id_ g = ⟨0, []⟩ := post_no (by rw [e]; first | decide | assumption)
     refine awp_le (le_SK id [0] rfl (l' := [(6, .ptr 6 0 0), (7, .d (iv (chkE g)))]) (m' := [(6, (⟨True, 24, 2, true, false, 6, [[.d (.v (.int .i64 0)), .ref 0 0]]⟩ : ARow)), (0, (⟨True, 63, 4, true, true, 0, []⟩ : ARow))]) ?_ ?_ ?_ ?_) ?_
     ·simp only [leV, JD, QQ, Qd, Qc]; exact ⟨VLe.ptr_ (f := id) (by decide), Qo rfl, trivial⟩
     ·exact ⟨fun _ => ⟨_, rfl, RowLe.cells (VLess.one_ (VLes.cons_ (Qo rfl) (VLes.cons_ (Qq (by decide)) VLes.nil_)))⟩, fun h => by simp at h, fun h => by simp at h, fun _ => rfl, trivial⟩
     ·simp [wfV, QY, lookR]
     ·simp [wfR, QX, QY, lookR]
     refine JJ ?_
     simp only [zz6, QO, ↓Qb]
     rw [ev, e]
     refine doneN [0] (by simp [resCs, resC, S, List.getD, JD, lookR, F_ag24, F_sz24, F_ok24]) ?_ (by simp [Ja, Jb, Jc, ]) (by simp [QY, QX, ]) (by decide) ?_
     ·simp only [QD, QE, resA, JZ, S_mem, lookR_cons, lookR_nil, QR, QP, JD, QQ, Qd, Qc, JP, QI, QJ, QH, QL, QK, List.take_zero, F_ag24, F_sz24, F_ok24]; rfl
     ·exact ⟨⟨_, rfl, trivial, rfl, rfl, rfl, rfl⟩, by simp [flatDs, Jc, legC], trivial⟩
    ·intro hb
     have hc : (chkE g != 0) = false := hb
     clear hb
     have hc2 : chkE g = 0 := by simpa using hc
     have hgk := ((chkE_iff g).1 hc2).2.2.1
     have hmk : (g ++ l).all legOk = true := all_app hgk hG.ok
     have hla : allAc.length ≤ 306 := kL_len 6
     refine JI ?_
     simp only [zz6, QO, ↓Qb]
     refine hK0 _ ?_; try clear hK0 K0
     refine kpA [1, 2, 3, 6, 8] ?_
     refine JA fun K0 hK0 => ?_
     refine Qz F_mixed [some 41, some 42, some 10, none] rfl ?_
     simp only [zzK, QR, QP, QQ, JC, F_zero24, F_bld24, zz7, splice, Option.getD_some, QG, zz1, zzG, zzD, zzC, QA, yyE, Qe, QS, QN, zzH, zz10, F_fld24_0, zz32, JS, zz18, F_ok24, F_sz24, zz6, QO, ↓Qb]
     refine hK0 _ ?_; try clear hK0 K0
     refine kpA [2, 3, 6, 8, 10] ?_
     refine JA fun K0 hK0 => ?_
     refine Qz F_mixed [some 11] rfl ?_
     simp only [zzK, QR, QP, QQ, JB, zz6, QO, ↓Qb]
     refine hK0 _ ?_; try clear hK0 K0
     refine kpA [2, 3, 6, 8, 10, 11] ?_
     refine JA fun K0 hK0 => ?_
     refine Qz F_mixed [some 43, some 44, some 12] rfl ?_
     simp only [zzK, QR, QP, QQ, F_sl25, F_zero3, F_sz3, zz3, JS, zz1, zzG, zzD, zzC, QA, yyE, Qe, QS, QN, zzH, maxLen_le, QT, JE, JF, JB, ints, QD, D.sl.injEq, zz6, QO, ↓Qb]
     refine JT F_go22 (fun hG => rAllF) (by simp [QY, QX]) (by simp) ?_
     simp only [zzK, QR, QP, QQ, F_sl25, F_zero3, F_sz3, zz3, JS, zz1, zzG, zzD, zzC, QA, yyE, Qe, QS, QN, zzH, maxLen_le, QT, JE, JF, JB, ints, QD, zz6, QO, ↓Qb, atsL, oksG, JV, QZ, Qa, JO, Qm, QT, QS, zz9, QB, QA, S_mem, yyF, QF, zz2]
     refine hK0 _ ?_; try clear hK0 K0
     refine kpA [2, 3, 6, 8, 10, 11, 12] ?_
     refine JA fun K0 hK0 => ?_
     refine JA fun K1 hK1 => ?_
     refine Qz F_mixed [some 13] rfl ?_
     simp only [zzK, QR, QP, QQ, JB, zz6, QO, ↓Qb]
     refine hK1 _ ?_; try clear hK1 K1
     refine kpA [2, 3, 6, 8, 10, 11, 12, 13] ?_
     refine JH ?_
     refine JL (fun m s => ∃ (A : List AcV) (B : List AcV), (allAc = A ++ B) ∧ (∀ a ∈ A, rightN (sumA a (g ++ l)) = true) ∧ m = B.length ∧ s = S 116 [(2, .d (legs g)), (3, .ptr 3 0 0), (6, .ptr 6 0 0), (8, .ptr 8 0 0), (10, .ptr 10 0 0), (11, .d (.v (.bool (lowA (g ++ l) A)))), (12, .d (acs allAc)), (13, .d (iv A.length))] [(3, (⟨True, 24, 2, true, false, 3, [[.d (iv nx), .d (.sl 4 (l.map legC))]]⟩ : ARow)), (6, (⟨True, 24, 2, true, false, 6, [[.d (.v (.int .i64 0)), .d (.v (.slice none 0 0))]]⟩ : ARow)), (8, (⟨True, 24, 2, true, false, 8, [[.d (.v (.int .i64 0)), .d (.v (.slice none 0 0))]]⟩ : ARow)), (10, (⟨True, 24, 2, true, false, 10, [[.d (iv id_), .ref 500 (rOut (g ++ l) A).length]]⟩ : ARow)), (500, grow 63 4 500 ((rOut (g ++ l) A).map legC))]) (allAc.length) _ (le_SK id [500] rfl (l' := [(2, .d (legs g)), (3, .ptr 3 0 0), (6, .ptr 6 0 0), (8, .ptr 8 0 0), (10, .ptr 10 0 0), (11, .d (.v (.bool (lowA (g ++ l) [])))), (12, .d (acs allAc)), (13, .d (iv [].length))]) (m' := [(3, (⟨True, 24, 2, true, false, 3, [[.d (iv nx), .d (.sl 4 (l.map legC))]]⟩ : ARow)), (6, (⟨True, 24, 2, true, false, 6, [[.d (.v (.int .i64 0)), .d (.v (.slice none 0 0))]]⟩ : ARow)), (8, (⟨True, 24, 2, true, false, 8, [[.d (.v (.int .i64 0)), .d (.v (.slice none 0 0))]]⟩ : ARow)), (10, (⟨True, 24, 2, true, false, 10, [[.d (iv id_), .ref 500 (rOut (g ++ l) []).length]]⟩ : ARow)), (500, grow 63 4 500 ((rOut (g ++ l) []).map legC))]) ?_ ?_ ?_ ?_) ⟨[], allAc, rfl, by simp, rfl, rfl⟩ ?_
     ·simp only [leV, JD, QQ, Qd, Qc]; exact ⟨(by first | exact Qo rfl | exact Qq (by decide) | exact Qp | exact Qn _ | exact Qs (by simp) (by rfl) | exact Qr (by simp) (by rfl) (by first | rfl | (simp; done) | (simp; omega)) | exact Qt (by first | rfl | simp)), (by first | exact Qo rfl | exact Qq (by decide) | exact Qp | exact Qn _ | exact Qs (by simp) (by rfl) | exact Qr (by simp) (by rfl) (by first | rfl | (simp; done) | (simp; omega)) | exact Qt (by first | rfl | simp)), (by first | exact Qo rfl | exact Qq (by decide) | exact Qp | exact Qn _ | exact Qs (by simp) (by rfl) | exact Qr (by simp) (by rfl) (by first | rfl | (simp; done) | (simp; omega)) | exact Qt (by first | rfl | simp)), (by first | exact Qo rfl | exact Qq (by decide) | exact Qp | exact Qn _ | exact Qs (by simp) (by rfl) | exact Qr (by simp) (by rfl) (by first | rfl | (simp; done) | (simp; omega)) | exact Qt (by first | rfl | simp)), (by first | exact Qo rfl | exact Qq (by decide) | exact Qp | exact Qn _ | exact Qs (by simp) (by rfl) | exact Qr (by simp) (by rfl) (by first | rfl | (simp; done) | (simp; omega)) | exact Qt (by first | rfl | simp)), Qt rfl, (by first | exact Qo rfl | exact Qq (by decide) | exact Qp | exact Qn _ | exact Qs (by simp) (by rfl) | exact Qr (by simp) (by rfl) (by first | rfl | (simp; done) | (simp; omega)) | exact Qt (by first | rfl | simp)), (by first | exact Qo rfl | exact Qq (by decide) | exact Qp | exact Qn _ | exact Qs (by simp) (by rfl) | exact Qr (by simp) (by rfl) (by first | rfl | (simp; done) | (simp; omega)) | exact Qt (by first | rfl | simp)), trivial⟩
     ·exact ⟨fun _ => ⟨_, rfl, (by first | exact Qw (by first | rfl | simp) | exact Qx (by first | rfl | simp) (by simp) ids_data | exact Qv (by simp [QX, QY]) | exact Qu (by simp) (by simp [QX, QY]))⟩, fun h => by simp at h, fun _ => ⟨_, rfl, (by first | exact Qw (by first | rfl | simp) | exact Qx (by first | rfl | simp) (by simp) ids_data | exact Qv (by simp [QX, QY]) | exact Qu (by simp) (by simp [QX, QY]))⟩, fun h => by simp at h, fun _ => ⟨_, rfl, (by first | exact Qw (by first | rfl | simp) | exact Qx (by first | rfl | simp) (by simp) ids_data | exact Qv (by simp [QX, QY]) | exact Qu (by simp) (by simp [QX, QY]))⟩, fun h => by simp at h, fun _ => ⟨_, rfl, RowLe.cells (VLess.one_ (VLes.cons_ (Qt rfl) (VLes.cons_ (Qq (by decide)) VLes.nil_)))⟩, fun h => by simp at h, fun h => by simp at h, fun _ => rfl, trivial⟩
     ·simp [wfV, QY, QX, lookR, grow]
     ·exact ⟨by simp [QX, QY, lookR], by simp [QX, QY, lookR], by simp [QX, QY, lookR], by simp [QX, QY, lookR], wf_data _ _, trivial⟩
     rintro m s ⟨A, B, hAB, hra, rfl, rfl⟩
     have hABl := congrArg List.length hAB
     simp only [QC] at hABl
     have hrl := rOut_len (g ++ l) A
     refine JA fun K2 hK2 => ?_
     refine JA fun K3 hK3 => ?_
     refine Qz F_mixed [some 45, some 46, some 47, some 48] rfl ?_
     simp only [zzK, QR, QP, QQ, JC, JE, zz12, F_sl66, Option.isSome_some, zz21, JM, zz22, acs, JN, zz6, QO, ↓Qb]
     refine hK3 _ ?_; try clear hK3 K3
     refine kpA [2, 3, 6, 8, 10, 11, 12, 13, 48] ?_
     refine cnA ?_ ?_
     ·intro hb
      obtain ⟨a, B2, rfl⟩ : ∃ x t, B = x :: t := by
       cases B with
       | nil => have := Qg hb; simp at hABl; omega
       | cons x t => exact ⟨x, t, rfl⟩
      clear hb
      simp only [QF] at hABl
      have ga : (allAc.map acC).getD A.length [] = [iv a.kind, iv a.who, iv a.cur] := by
       rw [hAB, List.map_append]; exact gd_mid' (A := A.map acC) _ _ (by simp)
      have ba := ltI (show A.length < allAc.length by omega)
      have hwa : Ql .i64 ((A.length : Int) + 1) = ((A ++ [a]).length : Int) := by rw [wrapI (by omega) (by omega)]; simp
      have haA : a ∈ allAc := by rw [hAB]; simp
      have hrtB : ∀ x ∈ amtB a (ofL a l) g, -9223372036854775808 ≤ x ∧ x < 9223372036854775808 := amtB_rt (s := ⟨nx, l⟩) hG hgk a
      have hsumB : (amtB a (ofL a l) g).sum = sumA a (g ++ l) := amtB_sum (l := l) hG.asc a g
      have hal : (amtB a (ofL a l) g).length ≤ g.length + 1 := by have := amtA_len a g; simp only [amtB, QF]; omega
      refine JI ?_
      simp only [zz6, QO, ↓Qb]
      refine hK2 _ ?_; try clear hK2 K2
      refine kpA [2, 3, 6, 8, 10, 11, 12, 13] ?_
      refine JA fun K2 hK2 => ?_
      refine JH ?_
      refine JA fun K3 hK3 => ?_
      refine awp_draw F_mixed [some 51, some 52, some 53, some 54, some 55, some 56, some 57, some 14] rfl (by kernel_rfl) ?_
      simp only [zzK, QR, QP, QQ, F_ok24, F_ag24, F_sz24, zz8, zz23, zzD, QS, QN, zzH, zzC, QA, yyE, Qe, JC, JW, zz24, F_sl66, F_sz32, F_ok32, F_ag32, JE, JF, F_sl25, F_zero3, F_sz3, zz3, JS, zz1, zzG, maxLen_le, QT, JB, acs, acC, ledC, legs, ga, ba, hwa, JN, ge0, QV, QW, zz6, QO, ↓Qb]
      refine JT F_go10 (fun hG => rOf_ nx l a (by omega)) (by simp [QY, QX]) (by simp) ?_
      simp only [zzK, QR, QP, QQ, F_ok24, F_ag24, F_sz24, zz8, zz23, zzD, QS, QN, zzH, zzC, QA, yyE, Qe, JC, JW, zz24, F_sl66, F_sz32, F_ok32, F_ag32, JE, JF, F_sl25, F_zero3, F_sz3, zz3, JS, zz1, zzG, maxLen_le, QT, JB, acs, acC, ledC, legs, ga, ba, hwa, JN, ge0, QV, QW, zz6, QO, ↓Qb, atsL, oksG, JV, QZ, Qa, JO, Qm, QT, QS, zz9, QB, QA, S_mem, yyF, QF, zz2]
      refine hK3 _ ?_; try clear hK3 K3
      refine kpA [2, 3, 6, 8, 10, 11, 12, 13, 14] ?_
      refine JA fun K3 hK3 => ?_
      refine JA fun K4 hK4 => ?_
      refine Qz F_mixed [some 15] rfl ?_
      simp only [zzK, QR, QP, QQ, JB, zz6, QO, ↓Qb]
      refine hK4 _ ?_; try clear hK4 K4
      refine kpA [2, 3, 6, 8, 10, 11, 12, 13, 14, 15] ?_
      refine JH ?_
      refine JL (fun m s => ∃ (gp : List LegV) (gq : List LegV), (g = gp ++ gq) ∧ m = gq.length ∧ s = S 116 [(2, .d (legs g)), (3, .ptr 3 0 0), (6, .ptr 6 0 0), (8, .ptr 8 0 0), (10, .ptr 10 0 0), (11, .d (.v (.bool (lowA (g ++ l) A)))), (12, .d (acs allAc)), (13, .d (iv A.length)), (14, .ref 14 (amtB a (ofL a l) gp).length), (15, .d (iv gp.length))] [(3, (⟨True, 24, 2, true, false, 3, [[.d (iv nx), .d (.sl 4 (l.map legC))]]⟩ : ARow)), (6, (⟨True, 24, 2, true, false, 6, [[.d (.v (.int .i64 0)), .d (.v (.slice none 0 0))]]⟩ : ARow)), (8, (⟨True, 24, 2, true, false, 8, [[.d (.v (.int .i64 0)), .d (.v (.slice none 0 0))]]⟩ : ARow)), (10, (⟨True, 24, 2, true, false, 10, [[.d (iv id_), .ref 500 (rOut (g ++ l) A).length]]⟩ : ARow)), (500, grow 63 4 500 ((rOut (g ++ l) A).map legC)), (14, grow 3 1 14 ((amtB a (ofL a l) gp).map fun n => [iv n]))]) (g.length) _ (le_SK (fun r => bif r == 14 then 57 else r) [] rfl (l' := [(2, .d (legs g)), (3, .ptr 3 0 0), (6, .ptr 6 0 0), (8, .ptr 8 0 0), (10, .ptr 10 0 0), (11, .d (.v (.bool (lowA (g ++ l) A)))), (12, .d (acs allAc)), (13, .d (iv A.length)), (14, .ref 14 (amtB a (ofL a l) []).length), (15, .d (iv [].length))]) (m' := [(3, (⟨True, 24, 2, true, false, 3, [[.d (iv nx), .d (.sl 4 (l.map legC))]]⟩ : ARow)), (6, (⟨True, 24, 2, true, false, 6, [[.d (.v (.int .i64 0)), .d (.v (.slice none 0 0))]]⟩ : ARow)), (8, (⟨True, 24, 2, true, false, 8, [[.d (.v (.int .i64 0)), .d (.v (.slice none 0 0))]]⟩ : ARow)), (10, (⟨True, 24, 2, true, false, 10, [[.d (iv id_), .ref 500 (rOut (g ++ l) A).length]]⟩ : ARow)), (500, grow 63 4 500 ((rOut (g ++ l) A).map legC)), (14, grow 3 1 14 ((amtB a (ofL a l) []).map fun n => [iv n]))]) ?_ ?_ ?_ ?_) ⟨[], g, rfl, rfl, rfl⟩ ?_
      ·simp only [leV, JD, QQ, Qd, Qc]; exact ⟨(by first | exact Qo rfl | exact Qq (by decide) | exact Qp | exact Qn _ | exact Qs (by simp) (by rfl) | exact Qr (by simp) (by rfl) (by first | rfl | (simp; done) | (simp; omega)) | exact Qt (by first | rfl | simp)), (by first | exact Qo rfl | exact Qq (by decide) | exact Qp | exact Qn _ | exact Qs (by simp) (by rfl) | exact Qr (by simp) (by rfl) (by first | rfl | (simp; done) | (simp; omega)) | exact Qt (by first | rfl | simp)), (by first | exact Qo rfl | exact Qq (by decide) | exact Qp | exact Qn _ | exact Qs (by simp) (by rfl) | exact Qr (by simp) (by rfl) (by first | rfl | (simp; done) | (simp; omega)) | exact Qt (by first | rfl | simp)), (by first | exact Qo rfl | exact Qq (by decide) | exact Qp | exact Qn _ | exact Qs (by simp) (by rfl) | exact Qr (by simp) (by rfl) (by first | rfl | (simp; done) | (simp; omega)) | exact Qt (by first | rfl | simp)), (by first | exact Qo rfl | exact Qq (by decide) | exact Qp | exact Qn _ | exact Qs (by simp) (by rfl) | exact Qr (by simp) (by rfl) (by first | rfl | (simp; done) | (simp; omega)) | exact Qt (by first | rfl | simp)), (by first | exact Qo rfl | exact Qq (by decide) | exact Qp | exact Qn _ | exact Qs (by simp) (by rfl) | exact Qr (by simp) (by rfl) (by first | rfl | (simp; done) | (simp; omega)) | exact Qt (by first | rfl | simp)), (by first | exact Qo rfl | exact Qq (by decide) | exact Qp | exact Qn _ | exact Qs (by simp) (by rfl) | exact Qr (by simp) (by rfl) (by first | rfl | (simp; done) | (simp; omega)) | exact Qt (by first | rfl | simp)), (by first | exact Qo rfl | exact Qq (by decide) | exact Qp | exact Qn _ | exact Qs (by simp) (by rfl) | exact Qr (by simp) (by rfl) (by first | rfl | (simp; done) | (simp; omega)) | exact Qt (by first | rfl | simp)), (by first | exact Qo rfl | exact Qq (by decide) | exact Qp | exact Qn _ | exact Qs (by simp) (by rfl) | exact Qr (by simp) (by rfl) (by first | rfl | (simp; done) | (simp; omega)) | exact Qt (by first | rfl | simp)), (by first | exact Qo rfl | exact Qq (by decide) | exact Qp | exact Qn _ | exact Qs (by simp) (by rfl) | exact Qr (by simp) (by rfl) (by first | rfl | (simp; done) | (simp; omega)) | exact Qt (by first | rfl | simp)), trivial⟩
      ·exact ⟨fun _ => ⟨_, rfl, (by first | exact Qw (by first | rfl | simp) | exact Qx (by first | rfl | simp) (by simp) ids_data | exact Qv (by simp [QX, QY]) | exact Qu (by simp) (by simp [QX, QY]))⟩, fun h => by simp at h, fun _ => ⟨_, rfl, (by first | exact Qw (by first | rfl | simp) | exact Qx (by first | rfl | simp) (by simp) ids_data | exact Qv (by simp [QX, QY]) | exact Qu (by simp) (by simp [QX, QY]))⟩, fun h => by simp at h, fun _ => ⟨_, rfl, (by first | exact Qw (by first | rfl | simp) | exact Qx (by first | rfl | simp) (by simp) ids_data | exact Qv (by simp [QX, QY]) | exact Qu (by simp) (by simp [QX, QY]))⟩, fun h => by simp at h, fun _ => ⟨_, rfl, RowLe.cells (VLess.one_ (VLes.cons_ (Qt rfl) (VLes.cons_ (Qr (by simp) rfl (rfl)) VLes.nil_)))⟩, fun h => by simp at h, fun _ => ⟨_, rfl, (by first | exact Qw (by first | rfl | simp) | exact Qx (by first | rfl | simp) (by simp) ids_data | exact Qv (by simp [QX, QY]) | exact Qu (by simp) (by simp [QX, QY]))⟩, fun h => by simp at h, fun _ => ⟨_, rfl, Qx (by rfl) (by simp) (by simp [QX, QY])⟩, fun h => by simp at h, trivial⟩
      ·simp [wfV, QY, QX, lookR, grow]
      ·exact ⟨by simp [QX, QY, lookR], by simp [QX, QY, lookR], by simp [QX, QY, lookR], by simp [QX, QY, lookR], wf_data _ _, wf_data _ _, trivial⟩
      rintro m s ⟨gp, gq, hgs, rfl, rfl⟩
      have hgsl := congrArg List.length hgs
      simp only [QC] at hgsl
      have hql : (amtB a (ofL a l) gp).length ≤ gp.length + 1 := by have := amtA_len a gp; simp only [amtB, QF]; omega
      refine JA fun K5 hK5 => ?_
      refine JA fun K6 hK6 => ?_
      refine Qz F_mixed [some 58, some 59, some 60, some 61] rfl ?_
      simp only [zzK, QR, QP, QQ, JC, JE, zz12, F_sl26, Option.isSome_some, zz21, JM, zz22, legs, JN, zz6, QO, ↓Qb]
      refine hK6 _ ?_; try clear hK6 K6
      refine kpA [2, 3, 6, 8, 10, 11, 12, 13, 14, 15, 61] ?_
      refine cnA ?_ ?_
      ·intro hb
       obtain ⟨y, gq2, rfl⟩ : ∃ x t, gq = x :: t := by
        cases gq with
        | nil => have := Qg hb; simp at hgsl; omega
        | cons x t => exact ⟨x, t, rfl⟩
       clear hb
       simp only [QF] at hgsl
       have gy : (g.map legC).getD gp.length [] = [iv y.ac.kind, iv y.ac.who, iv y.ac.cur, iv y.amt] := by
        rw [hgs, List.map_append]; exact gd_mid' (A := gp.map legC) _ _ (by simp)
       have by_ := ltI (show gp.length < g.length by omega)
       have hwy : Ql .i64 ((gp.length : Int) + 1) = ((gp ++ [y]).length : Int) := by rw [wrapI (by omega) (by omega)]; simp
       refine JI ?_
       simp only [zz6, QO, ↓Qb]
       refine hK5 _ ?_; try clear hK5 K5
       refine kpA [2, 3, 6, 8, 10, 11, 12, 13, 14, 15] ?_
       refine JA fun K5 hK5 => ?_
       refine JH ?_
       refine JA fun K6 hK6 => ?_
       refine awp_draw F_mixed [some 64, some 65, some 66, some 67, some 68, some 69, some 70, some 71, some 72, some 73] rfl (by kernel_rfl) ?_
       simp only [zzK, QR, QP, QQ, JC, JW, zz23, zz24, F_sl26, F_sz34, QA, zzC, yyE, Qe, zz19, F_off34_0, zzH, QN, QS, F_ok32, F_ag32, F_sz32, zz8, zzD, F_sl66, JE, JF, legs, acs, gy, by_, hwy, ga, ba, legC, acC, JN, ge0, QV, QW, zz6, QO, ↓Qb]
       refine JT F_go20 (fun hG => rSame_ y.ac a) (by simp [QY, QX]) (by simp) ?_
       simp only [zzK, QR, QP, QQ, JC, JW, zz23, zz24, F_sl26, F_sz34, QA, zzC, yyE, Qe, zz19, F_off34_0, zzH, QN, QS, F_ok32, F_ag32, F_sz32, zz8, zzD, F_sl66, JE, JF, legs, acs, gy, by_, hwy, ga, ba, legC, acC, JN, ge0, QV, QW, zz6, QO, ↓Qb, atsL, oksG, JV, QZ, Qa, JO, Qm, QT, QS, zz9, QB, QA, S_mem, yyF, QF, zz2]
       refine hK6 _ ?_; try clear hK6 K6
       refine kpA [2, 3, 6, 8, 10, 11, 12, 13, 14, 15, 73] ?_
       refine cnA ?_ ?_
       ·intro hb
        have hs : acSame y.ac a = true := hb
        clear hb
        have hsl : amtB a (ofL a l) (gp ++ [y]) = amtB a (ofL a l) gp ++ [y.amt] := by simp only [amtB, amtA_snoc_yes hs gp, List.cons_append]
        refine Qz F_mixed [some 74, some 75, some 76, some 77, some 78, some 79, some 80, some 81, some 14] rfl ?_
        simp only [zzK, QR, QP, QQ, JC, JW, zz23, zz24, F_sl26, F_sz34, QA, zzC, yyE, Qe, zz19, F_off34_1, zzH, QN, QS, F_ok3, F_ag3, F_sz3, zz8, zzD, F_sl25, F_zero3, zz3, JS, zz1, zzG, maxLen_le, QT, JE, F_by3, zz4, zz9, QB, JB, legs, gy, by_, hwy, legC, grow, unDs_map, JN, ge0, QV, QW, zz6, QO, ↓Qb]
        have hm : (amtB a (ofL a l) gp).length + 1 ≤ 1000000 := by first | omega | (simp; omega)
        first | refine ⟨le_maxLen hm, by omega, ?_⟩ | refine ⟨by simp, le_maxLen hm, by omega, ?_⟩
        clear hm
        refine hK5 _ ?_; try clear hK5 K5
        refine kpA [2, 3, 6, 8, 10, 11, 12, 13, 14, 15] ?_
        refine Qz F_mixed [some 62, some 63, some 15] rfl ?_
        simp only [zzK, QR, QP, QQ, JC, zz21, JM, zz26, JB, hwy, zz6, QO, ↓Qb]
        refine ⟨gq2.length, _, by simp, le_SK (fun r => bif r == 14 then 81 else r) [] rfl (l' := [(2, .d (legs g)), (3, .ptr 3 0 0), (6, .ptr 6 0 0), (8, .ptr 8 0 0), (10, .ptr 10 0 0), (11, .d (.v (.bool (lowA (g ++ l) A)))), (12, .d (acs allAc)), (13, .d (iv A.length)), (14, .ref 14 (amtB a (ofL a l) (gp ++ [y])).length), (15, .d (iv (gp ++ [y]).length))]) (m' := [(3, (⟨True, 24, 2, true, false, 3, [[.d (iv nx), .d (.sl 4 (l.map legC))]]⟩ : ARow)), (6, (⟨True, 24, 2, true, false, 6, [[.d (.v (.int .i64 0)), .d (.v (.slice none 0 0))]]⟩ : ARow)), (8, (⟨True, 24, 2, true, false, 8, [[.d (.v (.int .i64 0)), .d (.v (.slice none 0 0))]]⟩ : ARow)), (10, (⟨True, 24, 2, true, false, 10, [[.d (iv id_), .ref 500 (rOut (g ++ l) A).length]]⟩ : ARow)), (500, grow 63 4 500 ((rOut (g ++ l) A).map legC)), (14, grow 3 1 14 ((amtB a (ofL a l) (gp ++ [y])).map fun n => [iv n]))]) ?_ ?_ ?_ ?_, (gp ++ [y]), gq2, by simp [hgs], rfl, rfl⟩
        ·simp only [leV, JD, QQ, Qd, Qc, hwy, hsl]; exact ⟨(by first | exact Qo rfl | exact Qq (by decide) | exact Qp | exact Qn _ | exact Qs (by simp) (by rfl) | exact Qr (by simp) (by rfl) (by first | rfl | (simp; done) | (simp; omega)) | exact Qt (by first | rfl | simp)), (by first | exact Qo rfl | exact Qq (by decide) | exact Qp | exact Qn _ | exact Qs (by simp) (by rfl) | exact Qr (by simp) (by rfl) (by first | rfl | (simp; done) | (simp; omega)) | exact Qt (by first | rfl | simp)), (by first | exact Qo rfl | exact Qq (by decide) | exact Qp | exact Qn _ | exact Qs (by simp) (by rfl) | exact Qr (by simp) (by rfl) (by first | rfl | (simp; done) | (simp; omega)) | exact Qt (by first | rfl | simp)), (by first | exact Qo rfl | exact Qq (by decide) | exact Qp | exact Qn _ | exact Qs (by simp) (by rfl) | exact Qr (by simp) (by rfl) (by first | rfl | (simp; done) | (simp; omega)) | exact Qt (by first | rfl | simp)), (by first | exact Qo rfl | exact Qq (by decide) | exact Qp | exact Qn _ | exact Qs (by simp) (by rfl) | exact Qr (by simp) (by rfl) (by first | rfl | (simp; done) | (simp; omega)) | exact Qt (by first | rfl | simp)), (by first | exact Qo rfl | exact Qq (by decide) | exact Qp | exact Qn _ | exact Qs (by simp) (by rfl) | exact Qr (by simp) (by rfl) (by first | rfl | (simp; done) | (simp; omega)) | exact Qt (by first | rfl | simp)), (by first | exact Qo rfl | exact Qq (by decide) | exact Qp | exact Qn _ | exact Qs (by simp) (by rfl) | exact Qr (by simp) (by rfl) (by first | rfl | (simp; done) | (simp; omega)) | exact Qt (by first | rfl | simp)), (by first | exact Qo rfl | exact Qq (by decide) | exact Qp | exact Qn _ | exact Qs (by simp) (by rfl) | exact Qr (by simp) (by rfl) (by first | rfl | (simp; done) | (simp; omega)) | exact Qt (by first | rfl | simp)), (by first | exact Qo rfl | exact Qq (by decide) | exact Qp | exact Qn _ | exact Qs (by simp) (by rfl) | exact Qr (by simp) (by rfl) (by first | rfl | (simp; done) | (simp; omega)) | exact Qt (by first | rfl | simp)), (by first | exact Qo rfl | exact Qq (by decide) | exact Qp | exact Qn _ | exact Qs (by simp) (by rfl) | exact Qr (by simp) (by rfl) (by first | rfl | (simp; done) | (simp; omega)) | exact Qt (by first | rfl | simp)), trivial⟩
        ·exact ⟨fun _ => ⟨_, rfl, (by first | exact Qw (by first | rfl | simp) | exact Qx (by first | rfl | simp) (by simp) ids_data | exact Qv (by simp [QX, QY]) | exact Qu (by simp) (by simp [QX, QY]))⟩, fun h => by simp at h, fun _ => ⟨_, rfl, (by first | exact Qw (by first | rfl | simp) | exact Qx (by first | rfl | simp) (by simp) ids_data | exact Qv (by simp [QX, QY]) | exact Qu (by simp) (by simp [QX, QY]))⟩, fun h => by simp at h, fun _ => ⟨_, rfl, (by first | exact Qw (by first | rfl | simp) | exact Qx (by first | rfl | simp) (by simp) ids_data | exact Qv (by simp [QX, QY]) | exact Qu (by simp) (by simp [QX, QY]))⟩, fun h => by simp at h, fun _ => ⟨_, rfl, RowLe.cells (VLess.one_ (VLes.cons_ (Qt rfl) (VLes.cons_ (Qr (by simp) rfl (rfl)) VLes.nil_)))⟩, fun h => by simp at h, fun _ => ⟨_, rfl, (by first | exact Qw (by first | rfl | simp) | exact Qx (by first | rfl | simp) (by simp) ids_data | exact Qv (by simp [QX, QY]) | exact Qu (by simp) (by simp [QX, QY]))⟩, fun h => by simp at h, fun _ => ⟨_, rfl, Qw (by rw [hsl]; simp)⟩, fun h => by simp at h, trivial⟩
        ·simp [wfV, QY, QX, lookR, grow]
        ·exact ⟨by simp [QX, QY, lookR], by simp [QX, QY, lookR], by simp [QX, QY, lookR], by simp [QX, QY, lookR], wf_data _ _, wf_data _ _, trivial⟩
       ·intro hb
        have hs : acSame y.ac a = false := hb
        clear hb
        have hsl : amtB a (ofL a l) (gp ++ [y]) = amtB a (ofL a l) gp := by simp only [amtB, amtA_snoc_no hs gp]
        refine JI ?_
        simp only [zz6, QO, ↓Qb]
        refine hK5 _ ?_; try clear hK5 K5
        refine kpA [2, 3, 6, 8, 10, 11, 12, 13, 14, 15] ?_
        refine Qz F_mixed [some 62, some 63, some 15] rfl ?_
        simp only [zzK, QR, QP, QQ, JC, zz21, JM, zz26, JB, hwy, zz6, QO, ↓Qb]
        refine ⟨gq2.length, _, by simp, le_SK id [] rfl (l' := [(2, .d (legs g)), (3, .ptr 3 0 0), (6, .ptr 6 0 0), (8, .ptr 8 0 0), (10, .ptr 10 0 0), (11, .d (.v (.bool (lowA (g ++ l) A)))), (12, .d (acs allAc)), (13, .d (iv A.length)), (14, .ref 14 (amtB a (ofL a l) (gp ++ [y])).length), (15, .d (iv (gp ++ [y]).length))]) (m' := [(3, (⟨True, 24, 2, true, false, 3, [[.d (iv nx), .d (.sl 4 (l.map legC))]]⟩ : ARow)), (6, (⟨True, 24, 2, true, false, 6, [[.d (.v (.int .i64 0)), .d (.v (.slice none 0 0))]]⟩ : ARow)), (8, (⟨True, 24, 2, true, false, 8, [[.d (.v (.int .i64 0)), .d (.v (.slice none 0 0))]]⟩ : ARow)), (10, (⟨True, 24, 2, true, false, 10, [[.d (iv id_), .ref 500 (rOut (g ++ l) A).length]]⟩ : ARow)), (500, grow 63 4 500 ((rOut (g ++ l) A).map legC)), (14, grow 3 1 14 ((amtB a (ofL a l) (gp ++ [y])).map fun n => [iv n]))]) ?_ ?_ ?_ ?_, (gp ++ [y]), gq2, by simp [hgs], rfl, rfl⟩
        ·simp only [leV, JD, QQ, Qd, Qc, hwy, hsl]; exact ⟨(by first | exact Qo rfl | exact Qq (by decide) | exact Qp | exact Qn _ | exact Qs (by simp) (by rfl) | exact Qr (by simp) (by rfl) (by first | rfl | (simp; done) | (simp; omega)) | exact Qt (by first | rfl | simp)), (by first | exact Qo rfl | exact Qq (by decide) | exact Qp | exact Qn _ | exact Qs (by simp) (by rfl) | exact Qr (by simp) (by rfl) (by first | rfl | (simp; done) | (simp; omega)) | exact Qt (by first | rfl | simp)), (by first | exact Qo rfl | exact Qq (by decide) | exact Qp | exact Qn _ | exact Qs (by simp) (by rfl) | exact Qr (by simp) (by rfl) (by first | rfl | (simp; done) | (simp; omega)) | exact Qt (by first | rfl | simp)), (by first | exact Qo rfl | exact Qq (by decide) | exact Qp | exact Qn _ | exact Qs (by simp) (by rfl) | exact Qr (by simp) (by rfl) (by first | rfl | (simp; done) | (simp; omega)) | exact Qt (by first | rfl | simp)), (by first | exact Qo rfl | exact Qq (by decide) | exact Qp | exact Qn _ | exact Qs (by simp) (by rfl) | exact Qr (by simp) (by rfl) (by first | rfl | (simp; done) | (simp; omega)) | exact Qt (by first | rfl | simp)), (by first | exact Qo rfl | exact Qq (by decide) | exact Qp | exact Qn _ | exact Qs (by simp) (by rfl) | exact Qr (by simp) (by rfl) (by first | rfl | (simp; done) | (simp; omega)) | exact Qt (by first | rfl | simp)), (by first | exact Qo rfl | exact Qq (by decide) | exact Qp | exact Qn _ | exact Qs (by simp) (by rfl) | exact Qr (by simp) (by rfl) (by first | rfl | (simp; done) | (simp; omega)) | exact Qt (by first | rfl | simp)), (by first | exact Qo rfl | exact Qq (by decide) | exact Qp | exact Qn _ | exact Qs (by simp) (by rfl) | exact Qr (by simp) (by rfl) (by first | rfl | (simp; done) | (simp; omega)) | exact Qt (by first | rfl | simp)), (by first | exact Qo rfl | exact Qq (by decide) | exact Qp | exact Qn _ | exact Qs (by simp) (by rfl) | exact Qr (by simp) (by rfl) (by first | rfl | (simp; done) | (simp; omega)) | exact Qt (by first | rfl | simp)), (by first | exact Qo rfl | exact Qq (by decide) | exact Qp | exact Qn _ | exact Qs (by simp) (by rfl) | exact Qr (by simp) (by rfl) (by first | rfl | (simp; done) | (simp; omega)) | exact Qt (by first | rfl | simp)), trivial⟩
        ·exact ⟨fun _ => ⟨_, rfl, (by first | exact Qw (by first | rfl | simp) | exact Qx (by first | rfl | simp) (by simp) ids_data | exact Qv (by simp [QX, QY]) | exact Qu (by simp) (by simp [QX, QY]))⟩, fun h => by simp at h, fun _ => ⟨_, rfl, (by first | exact Qw (by first | rfl | simp) | exact Qx (by first | rfl | simp) (by simp) ids_data | exact Qv (by simp [QX, QY]) | exact Qu (by simp) (by simp [QX, QY]))⟩, fun h => by simp at h, fun _ => ⟨_, rfl, (by first | exact Qw (by first | rfl | simp) | exact Qx (by first | rfl | simp) (by simp) ids_data | exact Qv (by simp [QX, QY]) | exact Qu (by simp) (by simp [QX, QY]))⟩, fun h => by simp at h, fun _ => ⟨_, rfl, RowLe.cells (VLess.one_ (VLes.cons_ (Qt rfl) (VLes.cons_ (Qr (by simp) rfl (rfl)) VLes.nil_)))⟩, fun h => by simp at h, fun _ => ⟨_, rfl, (by first | exact Qw (by first | rfl | simp) | exact Qx (by first | rfl | simp) (by simp) ids_data | exact Qv (by simp [QX, QY]) | exact Qu (by simp) (by simp [QX, QY]))⟩, fun h => by simp at h, fun _ => ⟨_, rfl, Qw (by rw [hsl])⟩, fun h => by simp at h, trivial⟩
        ·simp [wfV, QY, QX, lookR, grow]
        ·exact ⟨by simp [QX, QY, lookR], by simp [QX, QY, lookR], by simp [QX, QY, lookR], by simp [QX, QY, lookR], wf_data _ _, wf_data _ _, trivial⟩
      ·intro hb
       obtain rfl : gq = [] := by
        cases gq with
        | nil => rfl
        | cons x t => have := Qf hb; simp at hgsl; omega
       clear hb
       simp only [QG] at hgs
       subst hgs
       refine JK ?_
       simp only [zz6, QO, ↓Qb]
       refine hK3 _ ?_; try clear hK3 K3
       refine kpA [2, 3, 6, 8, 10, 11, 12, 13, 14] ?_
       refine JA fun K3 hK3 => ?_
       refine Qz F_mixed [some 83, some 84, some 82, some 85, some 86, some 16, some 17] rfl ?_
       simp only [zzK, QR, QP, QQ, JC, JE, JF, zz14, zzD, QS, QN, zzF, JB, ints, grow, D.sl.injEq, JN, hsumB, zz6, QO, ↓Qb]
       refine JT F_go23 (fun hG => Add_ (amtB a (ofL a l) g) (by omega) hrtB) (by simp [QY, QX]) (by simp) ?_
       simp only [zzK, QR, QP, QQ, JC, JE, JF, zz14, zzD, QS, QN, zzF, JB, ints, grow, JN, hsumB, zz6, QO, ↓Qb, atsL, oksG, JV, QZ, Qa, JO, Qm, QT, QS, zz9, QB, QA, zzC, yyF, QF, zz2]
       first | refine ⟨by simp, ?_⟩ | skip
       refine hK3 _ ?_; try clear hK3 K3
       refine kpA [2, 3, 6, 8, 10, 11, 12, 13, 16, 17] ?_
       refine JA fun K3 hK3 => ?_
       refine JA fun K4 hK4 => ?_
       refine Qz F_mixed [some 87, some 88] rfl ?_
       simp only [zzK, QR, QP, QQ, JC, zz29, JM, zz30, zz6, QO, ↓Qb]
       refine hK4 _ ?_; try clear hK4 K4
       refine kpA [2, 3, 6, 8, 10, 11, 12, 13, 16, 88] ?_
       refine cnA ?_ ?_
       ·intro hb
        have hbad : rightN (sumA a (g ++ l)) = false := by simpa using hb
        clear hb
        obtain ⟨hjr, hjv⟩ := ref_bad hmk haA hbad
        have hj : (joinR (g ++ l) != 0) = true := by rw [hjr]; rfl
        refine JA fun K5 hK5 => ?_
        refine Qz F_mixed [some 89, none, some 7] rfl ?_
        simp only [zzK, QR, QP, QQ, F_ok24, F_ag24, F_sz24, zz8, zz23, zzD, QS, QN, zzH, zzC, QA, yyE, Qe, zz18, splice, QG, zz1, zzG, JB, zz6, QO, ↓Qb]
        refine hK5 _ ?_; try clear hK5 K5
        refine kpA [6, 7] ?_
        have e : postE ⟨nx, l⟩ id_ g = 1 := by rw [postE_def, ho, hid, hlt, hc, hj]; first | done | rfl | assumption
        have ev : postV ⟨nx, l⟩ id_ g = ⟨0, []⟩ := post_no (by rw [e]; first | decide | assumption)
        refine awp_le (le_SK id [0] rfl (l' := [(6, .ptr 6 0 0), (7, .d (iv 1))]) (m' := [(6, (⟨True, 24, 2, true, false, 6, [[.d (.v (.int .i64 0)), .ref 0 0]]⟩ : ARow)), (0, (⟨True, 63, 4, true, true, 0, []⟩ : ARow))]) ?_ ?_ ?_ ?_) ?_
        ·simp only [leV, JD, QQ, Qd, Qc]; exact ⟨VLe.ptr_ (f := id) (by decide), Qo rfl, trivial⟩
        ·exact ⟨fun _ => ⟨_, rfl, RowLe.cells (VLess.one_ (VLes.cons_ (Qo rfl) (VLes.cons_ (Qq (by decide)) VLes.nil_)))⟩, fun h => by simp at h, fun h => by simp at h, fun _ => rfl, trivial⟩
        ·simp [wfV, QY, lookR]
        ·simp [wfR, QX, QY, lookR]
        refine JJ ?_
        simp only [zz6, QO, ↓Qb]
        rw [ev, e]
        refine doneN [0] (by simp [resCs, resC, S, List.getD, JD, lookR, F_ag24, F_sz24, F_ok24]) ?_ (by simp [Ja, Jb, Jc, ]) (by simp [QY, QX, ]) (by decide) ?_
        ·simp only [QD, QE, resA, JZ, S_mem, lookR_cons, lookR_nil, QR, QP, JD, QQ, Qd, Qc, JP, QI, QJ, QH, QL, QK, List.take_zero, F_ag24, F_sz24, F_ok24]; rfl
        ·exact ⟨⟨_, rfl, trivial, rfl, rfl, rfl, rfl⟩, by simp [flatDs, Jc, legC], trivial⟩
       ·intro hb
        have hgood : rightN (sumA a (g ++ l)) = true := by simpa using hb
        clear hb
        have hra2 : ∀ b ∈ A ++ [a], rightN (sumA b (g ++ l)) = true := fun b hb => by
         rcases List.mem_append.1 hb with hb | hb
         ·exact hra b hb
         ·obtain rfl : b = a := by simpa using hb
          exact hgood
        simp only [hgood, Qd]
        have hlo := (lowA_snoc (g ++ l) A a).symm
        refine JI ?_
        simp only [zz6, QO, ↓Qb]
        refine hK3 _ ?_; try clear hK3 K3
        refine kpA [2, 3, 6, 8, 10, 11, 12, 13, 16] ?_
        refine JA fun K3 hK3 => ?_
        refine Qz F_mixed [some 90, some 91, some 92, some 93, some 94, some 95, some 96, some 97, some 98, some 99, some 11] rfl ?_
        simp only [zzK, QR, QP, QQ, QU, JZ, zz5, Qj, Qi, Qh, JC, JW, zz23, zz24, F_sl66, F_sz32, QA, zzC, yyE, Qe, F_ok32, F_ag32, zz8, zzD, QS, QN, zzH, JE, JF, zz21, JM, zz22, zz13, JQ, JR, JB, acs, acC, ga, ba, JN, ge0, QV, QW, hlo, zz6, QO, ↓Qb]
        refine JT F_go24 (fun hG => rFlo_ a) (by simp [QY, QX]) (by simp) ?_
        simp only [zzK, QR, QP, QQ, QU, JZ, zz5, Qj, Qi, Qh, JC, JW, zz23, zz24, F_sl66, F_sz32, QA, zzC, yyE, Qe, F_ok32, F_ag32, zz8, zzD, QS, QN, zzH, JE, JF, zz21, JM, zz22, zz13, JQ, JR, JB, acs, acC, ga, ba, JN, ge0, QV, QW, hlo, zz6, QO, ↓Qb, atsL, oksG, JV, QZ, Qa, JO, Qm, QT, QS, zz9, QB, QA, S_mem, yyF, QF, zz2]
        refine hK3 _ ?_; try clear hK3 K3
        refine kpA [2, 3, 6, 8, 10, 11, 12, 13, 16] ?_
        refine JA fun K3 hK3 => ?_
        refine Qz F_mixed [some 100, some 101] rfl ?_
        simp only [zzK, QR, QP, QQ, JC, zz21, JM, zz28, zz6, QO, ↓Qb]
        refine hK3 _ ?_; try clear hK3 K3
        refine kpA [2, 3, 6, 8, 10, 11, 12, 13, 16, 101] ?_
        refine cnA ?_ ?_
        ·intro hb
         have hro : rOut (g ++ l) (A ++ [a]) = rOut (g ++ l) A ++ [(⟨a, sumA a (g ++ l)⟩ : LegV)] := by rw [rOut_snoc, rOne, show (sumA a (g ++ l) != 0) = true from hb]; rfl
         clear hb
         refine awp_draw F_mixed [some 102, some 103, some 104, some 105, some 106, some 107, some 108, some 109, some 110, some 111, some 112, none] rfl (by kernel_rfl) ?_
         simp only [zzK, QR, QP, QQ, zz19, zz23, F_off24_1, zzH, QN, QS, F_ok22, F_ag22, F_sz22, zz8, zzD, zzC, QA, yyE, Qe, JC, JW, zz24, F_sl66, F_sz32, F_ok32, F_ag32, F_zero63, F_bld63, zz7, splice, Option.getD_some, QG, zz1, zzG, zz10, F_fld63_0, F_fld63_1, F_sl22, F_sz63, zz3, JS, maxLen_le, QT, JE, F_by63, zz4, zz9, QB, zz18, acs, acC, ga, ba, JN, ge0, QV, QW, grow, unDs_map, zz6, QO, ↓Qb]
         have hm : (rOut (g ++ l) A).length + 1 ≤ 1000000 := by first | omega | (simp; omega)
         first | refine ⟨le_maxLen hm, by omega, ?_⟩ | refine ⟨by simp, le_maxLen hm, by omega, ?_⟩
         clear hm
         refine hK2 _ ?_; try clear hK2 K2
         refine kpA [2, 3, 6, 8, 10, 11, 12, 13] ?_
         refine Qz F_mixed [some 49, some 50, some 13] rfl ?_
         simp only [zzK, QR, QP, QQ, JC, zz21, JM, zz26, JB, hwa, zz6, QO, ↓Qb]
         refine ⟨B2.length, _, by simp, le_SK (fun r => bif r == 500 then 111 else r) [] rfl (l' := [(2, .d (legs g)), (3, .ptr 3 0 0), (6, .ptr 6 0 0), (8, .ptr 8 0 0), (10, .ptr 10 0 0), (11, .d (.v (.bool (lowA (g ++ l) (A ++ [a]))))), (12, .d (acs allAc)), (13, .d (iv (A ++ [a]).length))]) (m' := [(3, (⟨True, 24, 2, true, false, 3, [[.d (iv nx), .d (.sl 4 (l.map legC))]]⟩ : ARow)), (6, (⟨True, 24, 2, true, false, 6, [[.d (.v (.int .i64 0)), .d (.v (.slice none 0 0))]]⟩ : ARow)), (8, (⟨True, 24, 2, true, false, 8, [[.d (.v (.int .i64 0)), .d (.v (.slice none 0 0))]]⟩ : ARow)), (10, (⟨True, 24, 2, true, false, 10, [[.d (iv id_), .ref 500 (rOut (g ++ l) (A ++ [a])).length]]⟩ : ARow)), (500, grow 63 4 500 ((rOut (g ++ l) (A ++ [a])).map legC))]) ?_ ?_ ?_ ?_, (A ++ [a]), B2, by rw [hAB]; simp, hra2, rfl, rfl⟩
         ·simp only [leV, JD, QQ, Qd, Qc, hwa]; exact ⟨(by first | exact Qo rfl | exact Qq (by decide) | exact Qp | exact Qn _ | exact Qs (by simp) (by rfl) | exact Qr (by simp) (by rfl) (by first | rfl | (simp; done) | (simp; omega)) | exact Qt (by first | rfl | simp)), (by first | exact Qo rfl | exact Qq (by decide) | exact Qp | exact Qn _ | exact Qs (by simp) (by rfl) | exact Qr (by simp) (by rfl) (by first | rfl | (simp; done) | (simp; omega)) | exact Qt (by first | rfl | simp)), (by first | exact Qo rfl | exact Qq (by decide) | exact Qp | exact Qn _ | exact Qs (by simp) (by rfl) | exact Qr (by simp) (by rfl) (by first | rfl | (simp; done) | (simp; omega)) | exact Qt (by first | rfl | simp)), (by first | exact Qo rfl | exact Qq (by decide) | exact Qp | exact Qn _ | exact Qs (by simp) (by rfl) | exact Qr (by simp) (by rfl) (by first | rfl | (simp; done) | (simp; omega)) | exact Qt (by first | rfl | simp)), (by first | exact Qo rfl | exact Qq (by decide) | exact Qp | exact Qn _ | exact Qs (by simp) (by rfl) | exact Qr (by simp) (by rfl) (by first | rfl | (simp; done) | (simp; omega)) | exact Qt (by first | rfl | simp)), (by first | exact Qo rfl | exact Qq (by decide) | exact Qp | exact Qn _ | exact Qs (by simp) (by rfl) | exact Qr (by simp) (by rfl) (by first | rfl | (simp; done) | (simp; omega)) | exact Qt (by first | rfl | simp)), (by first | exact Qo rfl | exact Qq (by decide) | exact Qp | exact Qn _ | exact Qs (by simp) (by rfl) | exact Qr (by simp) (by rfl) (by first | rfl | (simp; done) | (simp; omega)) | exact Qt (by first | rfl | simp)), (by first | exact Qo rfl | exact Qq (by decide) | exact Qp | exact Qn _ | exact Qs (by simp) (by rfl) | exact Qr (by simp) (by rfl) (by first | rfl | (simp; done) | (simp; omega)) | exact Qt (by first | rfl | simp)), trivial⟩
         ·exact ⟨fun _ => ⟨_, rfl, (by first | exact Qw (by first | rfl | simp) | exact Qx (by first | rfl | simp) (by simp) ids_data | exact Qv (by simp [QX, QY]) | exact Qu (by simp) (by simp [QX, QY]))⟩, fun h => by simp at h, fun _ => ⟨_, rfl, (by first | exact Qw (by first | rfl | simp) | exact Qx (by first | rfl | simp) (by simp) ids_data | exact Qv (by simp [QX, QY]) | exact Qu (by simp) (by simp [QX, QY]))⟩, fun h => by simp at h, fun _ => ⟨_, rfl, (by first | exact Qw (by first | rfl | simp) | exact Qx (by first | rfl | simp) (by simp) ids_data | exact Qv (by simp [QX, QY]) | exact Qu (by simp) (by simp [QX, QY]))⟩, fun h => by simp at h, fun _ => ⟨_, rfl, RowLe.cells (VLess.one_ (VLes.cons_ (Qt rfl) (VLes.cons_ (Qr (by simp) rfl (by rw [hro]; simp)) VLes.nil_)))⟩, fun h => by simp at h, fun _ => ⟨_, rfl, Qw (by rw [hro]; simp [legC])⟩, fun h => by simp at h, trivial⟩
         ·simp [wfV, QY, QX, lookR, grow]
         ·exact ⟨by simp [QX, QY, lookR], by simp [QX, QY, lookR], by simp [QX, QY, lookR], by simp [QX, QY, lookR], wf_data _ _, trivial⟩
        ·intro hb
         have hro : rOut (g ++ l) (A ++ [a]) = rOut (g ++ l) A := by rw [rOut_snoc, rOne, show (sumA a (g ++ l) != 0) = false from hb]; simp
         clear hb
         refine JI ?_
         simp only [zz6, QO, ↓Qb]
         refine hK2 _ ?_; try clear hK2 K2
         refine kpA [2, 3, 6, 8, 10, 11, 12, 13] ?_
         refine Qz F_mixed [some 49, some 50, some 13] rfl ?_
         simp only [zzK, QR, QP, QQ, JC, zz21, JM, zz26, JB, hwa, zz6, QO, ↓Qb]
         refine ⟨B2.length, _, by simp, le_SK id [] rfl (l' := [(2, .d (legs g)), (3, .ptr 3 0 0), (6, .ptr 6 0 0), (8, .ptr 8 0 0), (10, .ptr 10 0 0), (11, .d (.v (.bool (lowA (g ++ l) (A ++ [a]))))), (12, .d (acs allAc)), (13, .d (iv (A ++ [a]).length))]) (m' := [(3, (⟨True, 24, 2, true, false, 3, [[.d (iv nx), .d (.sl 4 (l.map legC))]]⟩ : ARow)), (6, (⟨True, 24, 2, true, false, 6, [[.d (.v (.int .i64 0)), .d (.v (.slice none 0 0))]]⟩ : ARow)), (8, (⟨True, 24, 2, true, false, 8, [[.d (.v (.int .i64 0)), .d (.v (.slice none 0 0))]]⟩ : ARow)), (10, (⟨True, 24, 2, true, false, 10, [[.d (iv id_), .ref 500 (rOut (g ++ l) (A ++ [a])).length]]⟩ : ARow)), (500, grow 63 4 500 ((rOut (g ++ l) (A ++ [a])).map legC))]) ?_ ?_ ?_ ?_, (A ++ [a]), B2, by rw [hAB]; simp, hra2, rfl, rfl⟩
         ·simp only [leV, JD, QQ, Qd, Qc, hwa]; exact ⟨(by first | exact Qo rfl | exact Qq (by decide) | exact Qp | exact Qn _ | exact Qs (by simp) (by rfl) | exact Qr (by simp) (by rfl) (by first | rfl | (simp; done) | (simp; omega)) | exact Qt (by first | rfl | simp)), (by first | exact Qo rfl | exact Qq (by decide) | exact Qp | exact Qn _ | exact Qs (by simp) (by rfl) | exact Qr (by simp) (by rfl) (by first | rfl | (simp; done) | (simp; omega)) | exact Qt (by first | rfl | simp)), (by first | exact Qo rfl | exact Qq (by decide) | exact Qp | exact Qn _ | exact Qs (by simp) (by rfl) | exact Qr (by simp) (by rfl) (by first | rfl | (simp; done) | (simp; omega)) | exact Qt (by first | rfl | simp)), (by first | exact Qo rfl | exact Qq (by decide) | exact Qp | exact Qn _ | exact Qs (by simp) (by rfl) | exact Qr (by simp) (by rfl) (by first | rfl | (simp; done) | (simp; omega)) | exact Qt (by first | rfl | simp)), (by first | exact Qo rfl | exact Qq (by decide) | exact Qp | exact Qn _ | exact Qs (by simp) (by rfl) | exact Qr (by simp) (by rfl) (by first | rfl | (simp; done) | (simp; omega)) | exact Qt (by first | rfl | simp)), (by first | exact Qo rfl | exact Qq (by decide) | exact Qp | exact Qn _ | exact Qs (by simp) (by rfl) | exact Qr (by simp) (by rfl) (by first | rfl | (simp; done) | (simp; omega)) | exact Qt (by first | rfl | simp)), (by first | exact Qo rfl | exact Qq (by decide) | exact Qp | exact Qn _ | exact Qs (by simp) (by rfl) | exact Qr (by simp) (by rfl) (by first | rfl | (simp; done) | (simp; omega)) | exact Qt (by first | rfl | simp)), (by first | exact Qo rfl | exact Qq (by decide) | exact Qp | exact Qn _ | exact Qs (by simp) (by rfl) | exact Qr (by simp) (by rfl) (by first | rfl | (simp; done) | (simp; omega)) | exact Qt (by first | rfl | simp)), trivial⟩
         ·exact ⟨fun _ => ⟨_, rfl, (by first | exact Qw (by first | rfl | simp) | exact Qx (by first | rfl | simp) (by simp) ids_data | exact Qv (by simp [QX, QY]) | exact Qu (by simp) (by simp [QX, QY]))⟩, fun h => by simp at h, fun _ => ⟨_, rfl, (by first | exact Qw (by first | rfl | simp) | exact Qx (by first | rfl | simp) (by simp) ids_data | exact Qv (by simp [QX, QY]) | exact Qu (by simp) (by simp [QX, QY]))⟩, fun h => by simp at h, fun _ => ⟨_, rfl, (by first | exact Qw (by first | rfl | simp) | exact Qx (by first | rfl | simp) (by simp) ids_data | exact Qv (by simp [QX, QY]) | exact Qu (by simp) (by simp [QX, QY]))⟩, fun h => by simp at h, fun _ => ⟨_, rfl, RowLe.cells (VLess.one_ (VLes.cons_ (Qt rfl) (VLes.cons_ (Qr (by simp) rfl (by rw [hro])) VLes.nil_)))⟩, fun h => by simp at h, fun _ => ⟨_, rfl, Qw (by rw [hro])⟩, fun h => by simp at h, trivial⟩
         ·simp [wfV, QY, QX, lookR, grow]
         ·exact ⟨by simp [QX, QY, lookR], by simp [QX, QY, lookR], by simp [QX, QY, lookR], by simp [QX, QY, lookR], wf_data _ _, trivial⟩
     ·intro hb
      obtain rfl : B = [] := by
       cases B with
       | nil => rfl
       | cons x t => have := Qf hb; simp at hABl; omega
      clear hb
      simp only [QG] at hAB
      subst hAB
      obtain ⟨hjr, hjv⟩ := ref_good hmk hra
      have hj : (joinR (g ++ l) != 0) = false := by rw [hjr]; rfl
      have hlw := lowA_out (g ++ l) allAc
      rw [← hjv] at hlw
      refine JK ?_
      simp only [zz6, QO, ↓Qb]
      refine hK0 _ ?_; try clear hK0 K0
      refine kpA [6, 8, 10, 11] ?_
      refine JA fun K0 hK0 => ?_
      refine JA fun K1 hK1 => ?_
      refine Qz F_mixed [some 113] rfl ?_
      simp only [zzK, QR, QP, QQ, JC, zz6, QO, ↓Qb]
      refine hK1 _ ?_; try clear hK1 K1
      refine kpA [6, 8, 10, 113] ?_
      refine cnA ?_ ?_
      ·intro hb
       have hlo2 : low (joinV (g ++ l)) = true := by rw [hlw]; exact hb
       clear hb
       refine JA fun K2 hK2 => ?_
       refine Qz F_mixed [some 114, none, some 7] rfl ?_
       simp only [zzK, QR, QP, QQ, F_ok24, F_ag24, F_sz24, zz8, zz23, zzD, QS, QN, zzH, zzC, QA, yyE, Qe, zz18, splice, QG, zz1, zzG, JB, zz6, QO, ↓Qb]
       refine hK2 _ ?_; try clear hK2 K2
       refine kpA [6, 7] ?_
       have e : postE ⟨nx, l⟩ id_ g = 13 := by rw [postE_def, ho, hid, hlt, hc, hj, hlo2]; first | done | rfl | assumption
       have ev : postV ⟨nx, l⟩ id_ g = ⟨0, []⟩ := post_no (by rw [e]; first | decide | assumption)
       refine awp_le (le_SK id [0] rfl (l' := [(6, .ptr 6 0 0), (7, .d (iv 13))]) (m' := [(6, (⟨True, 24, 2, true, false, 6, [[.d (.v (.int .i64 0)), .ref 0 0]]⟩ : ARow)), (0, (⟨True, 63, 4, true, true, 0, []⟩ : ARow))]) ?_ ?_ ?_ ?_) ?_
       ·simp only [leV, JD, QQ, Qd, Qc]; exact ⟨VLe.ptr_ (f := id) (by decide), Qo rfl, trivial⟩
       ·exact ⟨fun _ => ⟨_, rfl, RowLe.cells (VLess.one_ (VLes.cons_ (Qo rfl) (VLes.cons_ (Qq (by decide)) VLes.nil_)))⟩, fun h => by simp at h, fun h => by simp at h, fun _ => rfl, trivial⟩
       ·simp [wfV, QY, lookR]
       ·simp [wfR, QX, QY, lookR]
       refine JJ ?_
       simp only [zz6, QO, ↓Qb]
       rw [ev, e]
       refine doneN [0] (by simp [resCs, resC, S, List.getD, JD, lookR, F_ag24, F_sz24, F_ok24]) ?_ (by simp [Ja, Jb, Jc, ]) (by simp [QY, QX, ]) (by decide) ?_
       ·simp only [QD, QE, resA, JZ, S_mem, lookR_cons, lookR_nil, QR, QP, JD, QQ, Qd, Qc, JP, QI, QJ, QH, QL, QK, List.take_zero, F_ag24, F_sz24, F_ok24]; rfl
       ·exact ⟨⟨_, rfl, trivial, rfl, rfl, rfl, rfl⟩, by simp [flatDs, Jc, legC], trivial⟩
      ·intro hb
       have hlo2 : low (joinV (g ++ l)) = false := by rw [hlw]; exact hb
       clear hb
       refine JI ?_
       simp only [zz6, QO, ↓Qb]
       refine hK0 _ ?_; try clear hK0 K0
       refine kpA [6, 10] ?_
       refine JA fun K0 hK0 => ?_
       refine Qz F_mixed [some 115, none, some 7] rfl ?_
       simp only [zzK, QR, QP, QQ, F_ok24, F_ag24, F_sz24, zz8, zz23, zzD, QS, QN, zzH, zzC, QA, yyE, Qe, zz18, splice, QG, zz1, zzG, JB, zz6, QO, ↓Qb]
       refine hK0 _ ?_; try clear hK0 K0
       refine kpA [6, 7] ?_
       have e : postE ⟨nx, l⟩ id_ g = 0 := by rw [postE_def, ho, hid, hlt, hc, hj, hlo2]; first | done | rfl | assumption
       have ev : postV ⟨nx, l⟩ id_ g = ⟨id_, rOut (g ++ l) allAc⟩ := by rw [post_val e, hjv]
       refine awp_le (le_SK id [] rfl (l' := [(6, .ptr 6 0 0), (7, .d (iv 0))]) (m' := [(6, (⟨True, 24, 2, true, false, 6, [[.d (iv id_), .ref 500 (rOut (g ++ l) allAc).length]]⟩ : ARow)), (500, (⟨True, 63, 4, true, true, 500, ((rOut (g ++ l) allAc).map legC).map (·.map .d)⟩ : ARow))]) ?_ ?_ ?_ ?_) ?_
       ·simp only [leV, JD, QQ, Qd, Qc, JN]; exact ⟨Qn _, Qn _, trivial⟩
       ·exact ⟨fun _ => ⟨_, rfl, ⟨id, rfl, rfl, fun _ => rfl, id, .inl, by first | exact VLess.refl _ | (simp only [JN]; exact VLess.refl _)⟩⟩, fun h => by simp at h, fun _ => (by refine ⟨_, rfl, ?_⟩; exact RowLe.uq_ (by rfl) (by simp) ids_data), fun h => by simp at h, trivial⟩
       ·simp [wfV, QY, lookR]
       ·simp [wfR, QX, QY, lookR, legC]
       refine JJ ?_
       simp only [zz6, QO, ↓Qb]
       rw [ev, e]
       refine doneN [500] (by simp [resCs, resC, S, List.getD, JD, lookR, F_ag24, F_sz24, F_ok24]) ?_ (by simp [Ja, Jb, Jc, ]) (by simp [QY, QX, ]) (by decide) ?_
       ·simp only [QD, QE, resA, JZ, S_mem, lookR_cons, lookR_nil, QR, QP, JD, QQ, Qd, Qc, JP, QI, QJ, QH, QL, QK, List.take_zero, F_ag24, F_sz24, F_ok24]; rfl
       ·exact ⟨⟨_, rfl, trivial, rfl, rfl, rfl, rfl⟩, by simp [flatDs, Jc, legC], trivial⟩
theorem rPostF (nx id_ : Int) (l g : List LegV) (hl : l.length ≤ 400000) (hg : g.length ≤ 400000) : ACalls Try.prog 11 [.agg (ledC ⟨nx, l⟩), iv id_, legs g] [] (.tp [.d (.agg (ledC (postV ⟨nx, l⟩ id_ g))), .d (iv (postE ⟨nx, l⟩ id_ g))]) :=
 (rPost_ nx id_ l g hl hg).freezeT (by simp [frzOk, frzOkL])
end Go.Proofs.Ytjkfadaedgidpaa
