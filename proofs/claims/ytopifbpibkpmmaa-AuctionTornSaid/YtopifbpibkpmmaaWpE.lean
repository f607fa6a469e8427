import Derived.Test.YtopifbpibkpmmaaWpH
namespace Go.Proofs.Ytopifbpibkpmmaa
open Go.RowKit
set_option linter.unusedVariables false
set_option linter.unusedSimpArgs false
open Option renaming map_some → QA, bind_some → QB
open List renaming length_append → QC, map_cons → QD, map_nil → QE, length_cons → QF, append_nil → QG, drop_zero → QH, getD_cons_zero → QI, getD_cons_succ → QJ, take_succ_cons → QK, drop_succ_cons → QL
open Nat renaming zero_add → QN, reduceEqDiff → QO, reduceLeDiff → QP, reduceBEq → QQ, reduceLT → QR, reduceAdd → QS, reduceMul → QT, reduceSub → QU
open Int renaming toNat_natCast → QV
open D.agg renaming injEq → QW
open AV renaming idsL → QX, ids → QY, ren → QZ, renL → Qa
open _root_ renaming reduceIte → Qb, cond_false → Qc, cond_true → Qd, reduceCtorEq → Qe, of_decide_eq_false → Qf, of_decide_eq_true → Qg, not_false_eq_true → Qk
open IntKind renaming wrap → Ql
open ORow renaming row → Qm
open VLe renaming refl → Qn, still → Qo, nild_ → Qp, nil_ → Qq, refE → Qr, ptrE → Qs, dE → Qt
open RowLe renaming same → Qu, still → Qv, data_ → Qw, uq2 → Qx
open Go.Proofs.Ytopifbpibkpmmaa renaming awp_plain → Qz, awp_seq → JA, evS_assign → JB, evS_move → JC, look_cons → JD, evS_call → JE, evC_value → JF, awp_block → JH, awp_skip → JI, awp_ret → JJ, awp_exit → JK, awp_loop → JL, gr_v → JM, len_map → JN, addRows → JO, resAll → JP, newRow1 → JS, call_go → JT, freeN → JV, evS_indexAddr → JW, S_getD → JZ, flatA → Ja, flatAs → Jb, flatD → Jc
theorem F_go100 : goFn Try.prog 100 := ⟨_, Try.func100, rfl, rfl⟩
theorem F_off112_0 : offT Try.prog 112 0 = some 0 := by kernel_rfl
theorem F_ok75 : tyOk Try.prog 75 = true := by kernel_rfl
theorem F_ag75 : aggT Try.prog 75 = false := by kernel_rfl
theorem F_sz75 : szT Try.prog 75 = 1 := by kernel_rfl
theorem F_off112_1 : offT Try.prog 112 1 = some 1 := by kernel_rfl
theorem F_go89 : goFn Try.prog 89 := ⟨_, Try.func89, rfl, rfl⟩
theorem F_go31 : goFn Try.prog 31 := ⟨_, Try.func31, rfl, rfl⟩
theorem F_ag112 : aggT Try.prog 112 = true := by kernel_rfl
theorem F_sz112 : szT Try.prog 112 = 2 := by kernel_rfl
theorem F_ok112 : tyOk Try.prog 112 = true := by kernel_rfl
theorem F_zero112 : zeroT Try.prog 112 = some [(.int .u64 0), (.int .u64 0)] := by kernel_rfl
theorem F_bld112 : bldT Try.prog 112 = true := by kernel_rfl
theorem F_fld112_0 : fldT Try.prog 112 0 = some (0, 1) := by kernel_rfl
theorem F_fld112_1 : fldT Try.prog 112 1 = some (1, 1) := by kernel_rfl
theorem F_go68 : goFn Try.prog 68 := ⟨_, Try.func68, rfl, rfl⟩
theorem F_go87 : goFn Try.prog 87 := ⟨_, Try.func87, rfl, rfl⟩
theorem F_off118_0 : offT Try.prog 118 0 = some 0 := by kernel_rfl
theorem F_go63 : goFn Try.prog 63 := ⟨_, Try.func63, rfl, rfl⟩
theorem F_go64 : goFn Try.prog 64 := ⟨_, Try.func64, rfl, rfl⟩
theorem F_eqi112 (a0 b0 : Int) (a1 b1 : Int) (w : World) : (Op.equalIn 10000 112 (.agg #[.int .u64 a0, .int .u64 a1]) (.agg #[.int .u64 b0, .int .u64 b1])).run Try.prog w = .ok (veqL [.int .u64 a0, .int .u64 a1] [.int .u64 b0, .int .u64 b1]) w := by
 have u75 := Try.underlying75
 have g75 := Try.isAgg75
 have z75 := Try.sizeOf75
 have hS : Try.prog.underlying 112 = some (.struct (Try.prog.fieldsOf 112)) := by kernel_rfl
 have hp : Try.prog.stoodInHeld 112 = false := by kernel_rfl
 rw [show (10000 : Nat) = 9999 + 1 from rfl, run_equalIn_agg w 9999 112 _ _ hS hp]
 simp only [Program.fieldsOf, Try.underlying112]
 go_simp
 by_cases h0 : a0 = b0 <;> by_cases h1 : a1 = b1 <;> simp [veqL, veq, h0, h1]
theorem F_eql112 (a0 b0 : Int) (a1 b1 : Int) (x y : Operand) : pureBin Try.prog .eql 112 x y (.agg #[.int .u64 a0, .int .u64 a1]) (.agg #[.int .u64 b0, .int .u64 b1]) = True := by
 have hm : Try.prog.eqGuardType Try.prog.depth 112 = false := by kernel_rfl
 simp only [pureBin, Pure, eq_iff_iff, iff_true]
 intro w
 simp only [Sem.run_bind, run_eqGuard_agg w .eql 112 x y _ _ hm, Result.andThen_ok, run_eql_struct, F_eqi112, binV]
theorem F_go52 : goFn Try.prog 52 := ⟨_, Try.func52, rfl, rfl⟩
theorem F_go65 : goFn Try.prog 65 := ⟨_, Try.func65, rfl, rfl⟩
theorem F_zero118 : zeroT Try.prog 118 = some [(.int .u64 0), (.int .u64 0), (.int .i64 0)] := by kernel_rfl
theorem F_bld118 : bldT Try.prog 118 = true := by kernel_rfl
theorem F_fld118_0 : fldT Try.prog 118 0 = some (0, 2) := by kernel_rfl
theorem F_fld118_1 : fldT Try.prog 118 1 = some (2, 1) := by kernel_rfl
theorem F_by118 : byT Try.prog 118 = 24 := by kernel_rfl
theorem F_go66 : goFn Try.prog 66 := ⟨_, Try.func66, rfl, rfl⟩
theorem F_off118_1 : offT Try.prog 118 1 = some 2 := by kernel_rfl
theorem sRight_ (t : Int) (l : List Int) (hl : l.length ≤ 1000000) : ACalls Try.prog 63 [iv t, ints l] [] (.d (iv (sRE t l))) := by
 refine acalls_S (rs := [.tmp 4]) Try.func63 rfl rfl 32 [(0, .d (iv t)), (1, .d (ints l))] rfl (by simp) rfl ?_
 refine JA fun K0 hK0 => ?_
 refine Qz F_mixed [some 4] rfl ?_
 simp only [zzK, QR, QP, QQ, JB, zz6, QO, ↓Qb]
 refine hK0 _ ?_; try clear hK0 K0
 refine kpA [0, 1] ?_
 refine JA fun K0 hK0 => ?_
 refine JA fun K1 hK1 => ?_
 refine Qz F_mixed [some 7, some 8, some 9, some 10, some 11, some 12, some 13, some 14, some 15, some 16, some 17, some 18, some 19] rfl ?_
 simp only [zzK, QR, QP, QQ, QU, JZ, zz5, and_imp, imp_and, imp_self, JC, zz21, JM, zz22, F_sl90, F_zero3, F_sz3, zz3, JS, zz1, zzG, zzD, zzC, QA, yyE, Qe, QS, QN, zzH, maxLen_le, QT, JE, JF, zz29, zz30, zz13, pickK_l, pickK_r, ints, QD, D.sl.injEq, zz6, QO, ↓Qb]
 refine JT F_go51 (fun hG => Right_ [t] (by simp)) (by simp [QY, QX]) (by simp) ?_
 simp only [zzK, QR, QP, QQ, QU, JZ, zz5, and_imp, imp_and, imp_self, JC, zz21, JM, zz22, F_sl90, F_zero3, F_sz3, zz3, JS, zz1, zzG, zzD, zzC, QA, yyE, Qe, QS, QN, zzH, maxLen_le, QT, JE, JF, zz29, zz30, zz13, pickK_l, pickK_r, ints, QD, zz6, QO, ↓Qb, atsL, oksG, JV, QZ, Qa, JO, Qm, QT, QS, zz9, QB, QA, S_mem, yyF, QF, zz2]
 refine JT F_go51 (fun hG => Right_ l (by omega)) (by simp [QY, QX]) (by simp) ?_
 simp only [zzK, QR, QP, QQ, QU, JZ, zz5, and_imp, imp_and, imp_self, JC, zz21, JM, zz22, F_sl90, F_zero3, F_sz3, zz3, JS, zz1, zzG, zzD, zzC, QA, yyE, Qe, QS, QN, zzH, maxLen_le, QT, JE, JF, zz29, zz30, zz13, pickK_l, pickK_r, ints, QD, zz6, QO, ↓Qb, atsL, oksG, JV, QZ, Qa, JO, Qm, QT, QS, zz9, QB, QA, S_mem, yyF, QF, zz2]
 refine hK1 _ ?_; try clear hK1 K1
 refine kpA [1, 19] ?_
 refine cnA ?_ ?_
 ·intro hb
  have hs : sBad t l = true := hb
  clear hb
  refine JA fun K2 hK2 => ?_
  refine Qz F_mixed [some 4] rfl ?_
  simp only [zzK, QR, QP, QQ, JB, zz6, QO, ↓Qb]
  refine hK2 _ ?_; try clear hK2 K2
  refine kpA [4] ?_
  refine JJ ?_
  simp only [zz6, QO, ↓Qb]
  refine dnA ?_
  simp only [QD, QE, resA, JZ, QR, QP, JD, QQ, Qd, Qc, JP]
  rw [show sRE t l = 3 by simp only [sRE, hs, Qd]]
 ·intro hb
  have hs : sBad t l = false := hb
  clear hb
  refine JI ?_
  simp only [zz6, QO, ↓Qb]
  refine hK0 _ ?_; try clear hK0 K0
  refine kpA [1] ?_
  refine JA fun K0 hK0 => ?_
  refine JA fun K1 hK1 => ?_
  refine Qz F_mixed [some 20, some 21, some 22] rfl ?_
  simp only [zzK, QR, QP, QQ, JC, JE, zz12, F_sl90, Option.isSome_some, ints, JN, zz6, QO, ↓Qb]
  refine hK1 _ ?_; try clear hK1 K1
  refine kpA [1, 20, 21, 22] ?_
  refine JH ?_
  refine JL (fun m s => ∃ (pre : List Int) (post : List Int), (l = pre ++ post) ∧ (pre.any ngI = false) ∧ m = post.length ∧ s = S 32 [(1, .d (ints l)), (20, .d (ints l)), (21, .d (iv l.length)), (22, .d (iv pre.length))] []) (l.length) _ (le_SK id [] rfl (l' := [(1, .d (ints l)), (20, .d (ints l)), (21, .d (iv l.length)), (22, .d (iv [].length))]) (m' := []) ?_ ?_ ?_ ?_) ⟨[], l, rfl, rfl, rfl, rfl⟩ ?_
  ·simp only [leV, JD, QQ, Qd, Qc]; exact ⟨(by first | exact Qo rfl | exact Qq (by decide) | exact Qp | exact Qn _ | exact Qs (by simp) (by rfl) | exact Qr (by simp) (by rfl) (by first | rfl | (simp; done) | (simp; omega)) | exact Qt (by first | rfl | simp)), (by first | exact Qo rfl | exact Qq (by decide) | exact Qp | exact Qn _ | exact Qs (by simp) (by rfl) | exact Qr (by simp) (by rfl) (by first | rfl | (simp; done) | (simp; omega)) | exact Qt (by first | rfl | simp)), (by first | exact Qo rfl | exact Qq (by decide) | exact Qp | exact Qn _ | exact Qs (by simp) (by rfl) | exact Qr (by simp) (by rfl) (by first | rfl | (simp; done) | (simp; omega)) | exact Qt (by first | rfl | simp)), (by first | exact Qo rfl | exact Qq (by decide) | exact Qp | exact Qn _ | exact Qs (by simp) (by rfl) | exact Qr (by simp) (by rfl) (by first | rfl | (simp; done) | (simp; omega)) | exact Qt (by first | rfl | simp)), trivial⟩
  ·exact trivial
  ·simp [wfV, QY, QX, lookR, grow]
  ·simp [wfR]
  rintro m s ⟨pre, post, hsp, hng, rfl, rfl⟩
  have hspl := congrArg List.length hsp
  simp only [QC] at hspl
  refine JA fun K2 hK2 => ?_
  refine Qz F_mixed [some 23] rfl ?_
  simp only [zzK, QR, QP, QQ, zz21, JM, zz22, JN, zz6, QO, ↓Qb]
  refine hK2 _ ?_; try clear hK2 K2
  refine kpA [1, 20, 21, 22, 23] ?_
  refine JA fun K2 hK2 => ?_
  refine cnA ?_ ?_
  ·intro hb
   obtain ⟨x, post2, rfl⟩ : ∃ x t, post = x :: t := by
    cases post with
    | nil => have := Qg hb; simp at hspl; omega
    | cons x t => exact ⟨x, t, rfl⟩
   clear hb
   simp only [QF] at hspl
   have gx : (l.map (fun n => [iv n])).getD pre.length [] = [iv x] := by
    rw [hsp, List.map_append]; exact gd_mid' (A := pre.map (fun n => [iv n])) _ _ (by simp)
   have bx := ltI (show pre.length < l.length by omega)
   have hwx : Ql .i64 ((pre.length : Int) + 1) = ((pre ++ [x]).length : Int) := by rw [wrapI (by omega) (by omega)]; simp
   refine JI ?_
   simp only [zz6, QO, ↓Qb]
   refine hK2 _ ?_; try clear hK2 K2
   refine kpA [1, 20, 21, 22] ?_
   refine JA fun K2 hK2 => ?_
   refine JH ?_
   refine JA fun K3 hK3 => ?_
   refine Qz F_mixed [some 24, some 25, some 6] rfl ?_
   simp only [zzK, QR, QP, QQ, JW, zz23, zz24, F_sl90, F_sz3, QA, zzC, yyE, Qe, F_ok3, F_ag3, zz8, zzD, QS, QN, zzH, JB, ints, gx, bx, hwx, JN, ge0, QV, QW, zz6, QO, ↓Qb]
   refine hK3 _ ?_; try clear hK3 K3
   refine kpA [1, 6, 20, 21, 22] ?_
   refine JA fun K3 hK3 => ?_
   refine Qz F_mixed [some 26, some 27] rfl ?_
   simp only [zzK, QR, QP, QQ, JC, zz21, JM, zz22, zz6, QO, ↓Qb]
   refine hK3 _ ?_; try clear hK3 K3
   refine kpA [1, 20, 21, 22, 27] ?_
   refine cnA ?_ ?_
   ·intro hb
    have hx : ngI x = true := hb
    clear hb
    have ha : l.any ngI = true := by rw [hsp]; simp [hx]
    refine JA fun K4 hK4 => ?_
    refine Qz F_mixed [some 4] rfl ?_
    simp only [zzK, QR, QP, QQ, JB, zz6, QO, ↓Qb]
    refine hK4 _ ?_; try clear hK4 K4
    refine kpA [4] ?_
    refine JJ ?_
    simp only [zz6, QO, ↓Qb]
    refine dnA ?_
    simp only [QD, QE, resA, JZ, QR, QP, JD, QQ, Qd, Qc, JP]
    rw [show sRE t l = 3 by simp only [sRE, hs, ha, Qd, Qc]]
   ·intro hb
    have hx : ngI x = false := hb
    clear hb
    refine JI ?_
    simp only [zz6, QO, ↓Qb]
    refine hK2 _ ?_; try clear hK2 K2
    refine kpA [1, 20, 21, 22] ?_
    refine Qz F_mixed [some 28, some 22] rfl ?_
    simp only [zzK, QR, QP, QQ, zz21, JM, zz26, JC, hwx, zz6, QO, ↓Qb]
    refine ⟨post2.length, _, by simp, le_SK id [] rfl (l' := [(1, .d (ints l)), (20, .d (ints l)), (21, .d (iv l.length)), (22, .d (iv (pre ++ [x]).length))]) (m' := []) ?_ ?_ ?_ ?_, (pre ++ [x]), post2, by simp [hsp], by rw [List.any_append, hng]; simpa using hx, rfl, rfl⟩
    ·simp only [leV, JD, QQ, Qd, Qc, hwx]; exact ⟨(by first | exact Qo rfl | exact Qq (by decide) | exact Qp | exact Qn _ | exact Qs (by simp) (by rfl) | exact Qr (by simp) (by rfl) (by first | rfl | (simp; done) | (simp; omega)) | exact Qt (by first | rfl | simp)), (by first | exact Qo rfl | exact Qq (by decide) | exact Qp | exact Qn _ | exact Qs (by simp) (by rfl) | exact Qr (by simp) (by rfl) (by first | rfl | (simp; done) | (simp; omega)) | exact Qt (by first | rfl | simp)), (by first | exact Qo rfl | exact Qq (by decide) | exact Qp | exact Qn _ | exact Qs (by simp) (by rfl) | exact Qr (by simp) (by rfl) (by first | rfl | (simp; done) | (simp; omega)) | exact Qt (by first | rfl | simp)), (by first | exact Qo rfl | exact Qq (by decide) | exact Qp | exact Qn _ | exact Qs (by simp) (by rfl) | exact Qr (by simp) (by rfl) (by first | rfl | (simp; done) | (simp; omega)) | exact Qt (by first | rfl | simp)), trivial⟩
    ·exact trivial
    ·simp [wfV, QY, QX, lookR, grow]
    ·simp [wfR]
  ·intro hb
   obtain rfl : post = [] := by
    cases post with
    | nil => rfl
    | cons x t => have := Qf hb; simp at hspl; omega
   clear hb
   simp only [QG] at hsp
   subst hsp
   refine JK ?_
   simp only [zz6, QO, ↓Qb]
   refine hK0 _ ?_; try clear hK0 K0
   refine kpA [1] ?_
   refine JA fun K0 hK0 => ?_
   refine JA fun K1 hK1 => ?_
   refine Qz F_mixed [some 29, some 30, some 31] rfl ?_
   simp only [zzK, QR, QP, QQ, JC, JE, zz12, F_sl90, Option.isSome_some, zz21, JM, zz25, ints, JN, zz6, QO, ↓Qb]
   refine hK1 _ ?_; try clear hK1 K1
   refine kpA [31] ?_
   refine cnA ?_ ?_
   ·intro hb
    have hn : decide ((l.length : Int) > 1024) = true := hb
    clear hb
    refine JA fun K2 hK2 => ?_
    refine Qz F_mixed [some 4] rfl ?_
    simp only [zzK, QR, QP, QQ, JB, zz6, QO, ↓Qb]
    refine hK2 _ ?_; try clear hK2 K2
    refine kpA [4] ?_
    refine JJ ?_
    simp only [zz6, QO, ↓Qb]
    refine dnA ?_
    simp only [QD, QE, resA, JZ, QR, QP, JD, QQ, Qd, Qc, JP]
    rw [show sRE t l = 5 by simp only [sRE, hs, hng, hn, Qd, Qc]]
   ·intro hb
    have hn : decide ((l.length : Int) > 1024) = false := hb
    clear hb
    refine JI ?_
    simp only [zz6, QO, ↓Qb]
    refine hK0 _ ?_; try clear hK0 K0
    refine kpA [] ?_
    refine JA fun K0 hK0 => ?_
    refine Qz F_mixed [some 4] rfl ?_
    simp only [zzK, QR, QP, QQ, JB, zz6, QO, ↓Qb]
    refine hK0 _ ?_; try clear hK0 K0
    refine kpA [4] ?_
    refine JJ ?_
    simp only [zz6, QO, ↓Qb]
    refine dnA ?_
    simp only [QD, QE, resA, JZ, QR, QP, JD, QQ, Qd, Qc, JP]
    rw [show sRE t l = 0 by simp only [sRE, hs, hng, hn, Qc]]
theorem sub64 (x y b : Nat) (hb : b ≤ 1) : extOk Try.prog 97 [uV x, uV y, uV b] (.tuple #[uV ((x + 18446744073709551616 - y - b) % 18446744073709551616), uV (if x < y + b then 1 else 0)]) := fun w => by
 simp only [uV]
 rw [run_callFunc_extern Try.func97 (by kernel_rfl) (by kernel_rfl) (by kernel_rfl) (e := sub64Entry) (by kernel_rfl), run_sub64 x y b hb]
 rfl
theorem isNaNu_ (n : Int) : ACalls Try.prog 100 [.v (.int .u64 n)] [] (bv false) := by
 refine acalls_S (rs := [.tmp 2]) Try.func100 rfl rfl 6 [(0, .d (.v (.int .u64 n)))] rfl (by simp) rfl ?_
 refine JA fun K0 hK0 => ?_
 refine Qz F_mixed [some 2] rfl ?_
 simp only [zzK, QR, QP, QQ, JB, zz6, QO, ↓Qb]
 refine hK0 _ ?_; try clear hK0 K0
 refine kpA [0] ?_
 refine JA fun K0 hK0 => ?_
 refine Qz F_mixed [some 3, some 4, some 5, some 2] rfl ?_
 simp only [zzK, QR, QP, QQ, JC, zz21, JM, zz28, JB, zz6, QO, ↓Qb]
 refine hK0 _ ?_; try clear hK0 K0
 refine kpA [2] ?_
 refine JJ ?_
 simp only [zz6, QO, ↓Qb]
 refine dnA ?_
 simp only [QD, QE, resA, JZ, QR, QP, JD, QQ, Qd, Qc, JP]
 simp
theorem CompareU_ (a b : Int) : ACalls Try.prog 89 [.v (.int .u64 a), .v (.int .u64 b)] [] (.d (iv (cmpI a b))) := by
 refine acalls_S (rs := [.tmp 4]) Try.func89 rfl rfl 20 [(0, .d (.v (.int .u64 a))), (1, .d (.v (.int .u64 b)))] rfl (by simp) rfl ?_
 refine JA fun K0 hK0 => ?_
 refine Qz F_mixed [some 4] rfl ?_
 simp only [zzK, QR, QP, QQ, JB, zz6, QO, ↓Qb]
 refine hK0 _ ?_; try clear hK0 K0
 refine kpA [0, 1] ?_
 refine JA fun K0 hK0 => ?_
 refine Qz F_mixed [some 7, some 8, some 5] rfl ?_
 simp only [zzK, QR, QP, QQ, JC, JE, JF, JB, zz6, QO, ↓Qb]
 refine JT F_go100 (fun hG => isNaNu_ a) (by simp [QY, QX]) (by simp) ?_
 simp only [zzK, QR, QP, QQ, JC, JE, JF, JB, zz6, QO, ↓Qb, atsL, oksG, JV, QZ, Qa, JO, Qm, QT, QS, zz9, QB, QA, zzC, yyF, zzD, zz2]
 refine hK0 _ ?_; try clear hK0 K0
 refine kpA [0, 1, 5] ?_
 refine JA fun K0 hK0 => ?_
 refine Qz F_mixed [some 9, some 10, some 6] rfl ?_
 simp only [zzK, QR, QP, QQ, JC, JE, JF, JB, zz6, QO, ↓Qb]
 refine JT F_go100 (fun hG => isNaNu_ b) (by simp [QY, QX]) (by simp) ?_
 simp only [zzK, QR, QP, QQ, JC, JE, JF, JB, zz6, QO, ↓Qb, atsL, oksG, JV, QZ, Qa, JO, Qm, QT, QS, zz9, QB, QA, zzC, yyF, zzD, zz2]
 refine hK0 _ ?_; try clear hK0 K0
 refine kpA [0, 1, 5, 6] ?_
 refine JA fun K0 hK0 => ?_
 refine JA fun K1 hK1 => ?_
 refine Qz F_mixed [some 11] rfl ?_
 simp only [zzK, QR, QP, QQ, JC, zz6, QO, ↓Qb]
 refine hK1 _ ?_; try clear hK1 K1
 refine kpA [0, 1, 6, 11] ?_
 refine cnA ?_ ?_
 ·intro hb
  cases hb
 ·intro hb
  clear hb
  refine JI ?_
  simp only [zz6, QO, ↓Qb]
  refine hK0 _ ?_; try clear hK0 K0
  refine kpA [0, 1, 6] ?_
  refine JA fun K0 hK0 => ?_
  refine JA fun K1 hK1 => ?_
  refine Qz F_mixed [some 13] rfl ?_
  simp only [zzK, QR, QP, QQ, JC, zz6, QO, ↓Qb]
  refine hK1 _ ?_; try clear hK1 K1
  refine kpA [0, 1, 13] ?_
  refine cnA ?_ ?_
  ·intro hb
   cases hb
  ·intro hb
   clear hb
   refine JI ?_
   simp only [zz6, QO, ↓Qb]
   refine hK0 _ ?_; try clear hK0 K0
   refine kpA [0, 1] ?_
   refine JA fun K0 hK0 => ?_
   refine JA fun K1 hK1 => ?_
   refine Qz F_mixed [some 14, some 15, some 16] rfl ?_
   simp only [zzK, QR, QP, QQ, JC, zz21, JM, zz22, zz6, QO, ↓Qb]
   refine hK1 _ ?_; try clear hK1 K1
   refine kpA [0, 1, 16] ?_
   refine cnA ?_ ?_
   ·intro hb
    have e : cmpI a b = -1 := by simp only [cmpI, hb, Qd]
    refine JA fun K2 hK2 => ?_
    refine Qz F_mixed [some 4] rfl ?_
    simp only [zzK, QR, QP, QQ, JB, zz6, QO, ↓Qb]
    refine hK2 _ ?_; try clear hK2 K2
    refine kpA [4] ?_
    refine JJ ?_
    simp only [zz6, QO, ↓Qb]
    refine dnA ?_
    simp only [QD, QE, resA, JZ, QR, QP, JD, QQ, Qd, Qc, JP]
    rw [e]
   ·intro hb
    skip
    refine JI ?_
    simp only [zz6, QO, ↓Qb]
    refine hK0 _ ?_; try clear hK0 K0
    refine kpA [0, 1] ?_
    refine JA fun K0 hK0 => ?_
    refine JA fun K1 hK1 => ?_
    refine Qz F_mixed [some 17, some 18, some 19] rfl ?_
    simp only [zzK, QR, QP, QQ, JC, zz21, JM, zz25, zz6, QO, ↓Qb]
    refine hK1 _ ?_; try clear hK1 K1
    refine kpA [19] ?_
    refine cnA ?_ ?_
    ·intro hb
     rename_i hb0
     have e : cmpI a b = 1 := by simp only [cmpI, hb0, hb, Qd, Qc]
     refine JA fun K2 hK2 => ?_
     refine Qz F_mixed [some 4] rfl ?_
     simp only [zzK, QR, QP, QQ, JB, zz6, QO, ↓Qb]
     refine hK2 _ ?_; try clear hK2 K2
     refine kpA [4] ?_
     refine JJ ?_
     simp only [zz6, QO, ↓Qb]
     refine dnA ?_
     simp only [QD, QE, resA, JZ, QR, QP, JD, QQ, Qd, Qc, JP]
     rw [e]
    ·intro hb
     rename_i hb0
     have e : cmpI a b = 0 := by simp only [cmpI, hb0, hb, Qd, Qc]
     refine JI ?_
     simp only [zz6, QO, ↓Qb]
     refine hK0 _ ?_; try clear hK0 K0
     refine kpA [] ?_
     refine JA fun K0 hK0 => ?_
     refine Qz F_mixed [some 4] rfl ?_
     simp only [zzK, QR, QP, QQ, JB, zz6, QO, ↓Qb]
     refine hK0 _ ?_; try clear hK0 K0
     refine kpA [4] ?_
     refine JJ ?_
     simp only [zz6, QO, ↓Qb]
     refine dnA ?_
     simp only [QD, QE, resA, JZ, QR, QP, JD, QQ, Qd, Qc, JP]
     rw [e]
theorem gCmp_ (a b : Nat) : ACalls Try.prog 68 [.agg (gC a), .agg (gC b)] [] (.d (iv (cmpG a b))) := by
 refine acalls_S (rs := [.tmp 4]) Try.func68 rfl rfl 17 [(0, .d (.agg (gC a))), (1, .d (.agg (gC b)))] rfl (by simp) rfl ?_
 refine JA fun K0 hK0 => ?_
 refine Qz F_mixed [some 2, some 3, some 4] rfl ?_
 simp only [zzK, QR, QP, QQ, zz35, JS, zz1, zzG, zzD, zzC, QA, yyE, Qe, QS, QN, zzH, JB, gC, uw, zz6, QO, ↓Qb]
 refine hK0 _ ?_; try clear hK0 K0
 refine kpA [2, 3] ?_
 refine JA fun K0 hK0 => ?_
 refine awp_draw F_mixed [some 5, some 6, some 7, some 8, some 9, some 10, some 11, some 12, some 13, some 14, some 15, some 16, some 4] rfl (by kernel_rfl) ?_
 simp only [zzK, QR, QP, QQ, zz19, zz23, F_off112_0, zzH, QN, QS, F_ok75, F_ag75, F_sz75, zz8, zzD, zzC, QA, yyE, Qe, JE, JF, F_off112_1, F_sl90, F_zero3, F_sz3, zz3, JS, zz1, zzG, maxLen_le, QT, JB, ints, QD, D.sl.injEq, zz6, QO, ↓Qb]
 refine JT F_go89 (fun hG => CompareU_ ((a / 18446744073709551616 : Nat) : Int) ((b / 18446744073709551616 : Nat) : Int)) (by simp [QY, QX]) (by simp) ?_
 simp only [zzK, QR, QP, QQ, zz19, zz23, F_off112_0, zzH, QN, QS, F_ok75, F_ag75, F_sz75, zz8, zzD, zzC, QA, yyE, Qe, JE, JF, F_off112_1, F_sl90, F_zero3, F_sz3, zz3, JS, zz1, zzG, maxLen_le, QT, JB, ints, QD, zz6, QO, ↓Qb, atsL, oksG, JV, QZ, Qa, JO, Qm, QT, QS, zz9, QB, QA, S_mem, yyF, QF, zz2]
 refine JT F_go89 (fun hG => CompareU_ ((a % 18446744073709551616 : Nat) : Int) ((b % 18446744073709551616 : Nat) : Int)) (by simp [QY, QX]) (by simp) ?_
 simp only [zzK, QR, QP, QQ, zz19, zz23, F_off112_0, zzH, QN, QS, F_ok75, F_ag75, F_sz75, zz8, zzD, zzC, QA, yyE, Qe, JE, JF, F_off112_1, F_sl90, F_zero3, F_sz3, zz3, JS, zz1, zzG, maxLen_le, QT, JB, ints, QD, zz6, QO, ↓Qb, atsL, oksG, JV, QZ, Qa, JO, Qm, QT, QS, zz9, QB, QA, S_mem, yyF, QF, zz2]
 refine JT F_go31 (fun hG => Or_ [cmpI ((a / 18446744073709551616 : Nat) : Int) ((b / 18446744073709551616 : Nat) : Int), cmpI ((a % 18446744073709551616 : Nat) : Int) ((b % 18446744073709551616 : Nat) : Int)] (by simp)) (by simp [QY, QX]) (by simp) ?_
 simp only [zzK, QR, QP, QQ, zz19, zz23, F_off112_0, zzH, QN, QS, F_ok75, F_ag75, F_sz75, zz8, zzD, zzC, QA, yyE, Qe, JE, JF, F_off112_1, F_sl90, F_zero3, F_sz3, zz3, JS, zz1, zzG, maxLen_le, QT, JB, ints, QD, zz6, QO, ↓Qb, atsL, oksG, JV, QZ, Qa, JO, Qm, QT, QS, zz9, QB, QA, S_mem, yyF, QF, zz2]
 refine hK0 _ ?_; try clear hK0 K0
 refine kpA [4] ?_
 refine JJ ?_
 simp only [zz6, QO, ↓Qb]
 refine dnA ?_
 simp only [QD, QE, resA, JZ, QR, QP, JD, QQ, Qd, Qc, JP]
 rw [cmpG_eq]
theorem gPlus_ (a n : Nat) (h : a + n < 340282366920938463463374607431768211456) (hn : n < 18446744073709551616) : ACalls Try.prog 64 [.agg (gC a), .v (.int .u64 (n : Int))] [] (gA (a + n)) := by
 refine acalls_S (rs := [.cell 4 112]) Try.func64 rfl rfl 20 [(0, .d (.agg (gC a))), (1, .d (.v (.int .u64 (n : Int))))] rfl (by simp) rfl ?_
 refine JA fun K0 hK0 => ?_
 refine Qz F_mixed [some 2, some 4] rfl ?_
 simp only [zzK, QR, QP, QQ, zz35, JS, zz1, zzG, zzD, zzC, QA, yyE, Qe, QS, QN, zzH, zz32, F_zero112, zz10, gC, uw, zz6, QO, ↓Qb]
 refine hK0 _ ?_; try clear hK0 K0
 refine kpA [1, 2, 4] ?_
 refine JA fun K0 hK0 => ?_
 refine Qz F_mixed [some 8, some 9, some 10, some 11, some 7, some 12, some 13, some 5, some 6] rfl ?_
 simp only [zzK, QR, QP, QQ, zz19, zz23, F_off112_1, zzH, QN, QS, F_ok75, F_ag75, F_sz75, zz8, zzD, zzC, QA, yyE, Qe, JC, JE, JF, zz14, JB, zz6, QO, ↓Qb]
 refine call_ext _ _ (add64 ((a % 18446744073709551616 : Nat) : Int) (n : Int) 0 (by omega) (by omega) (by decide) (by decide)) ?_
 simp only [zzK, QR, QP, QQ, zz19, zz23, F_off112_1, zzH, QN, QS, F_ok75, F_ag75, F_sz75, zz8, zzD, zzC, QA, yyE, Qe, JC, JE, JF, zz14, JB, zz6, QO, ↓Qb, grsL, JM, QB, QA, oksL, ofV_pair, ofV_int, ofV_bool]
 refine hK0 _ ?_; try clear hK0 K0
 refine kpA [2, 4, 5, 6] ?_
 refine JA fun K0 hK0 => ?_
 refine Qz F_mixed [some 14, some 15, some 16, some 17, some 18, some 19, none] rfl ?_
 simp only [zzK, QR, QP, QQ, zz19, zz23, F_off112_0, zzH, QN, QS, F_ok75, F_ag75, F_sz75, zz8, zzD, zzC, QA, yyE, Qe, JC, zz21, JM, zz26, F_zero112, F_bld112, zz7, splice, Option.getD_some, QG, zz1, zzG, zz10, F_fld112_0, F_fld112_1, zz18, F_ok112, F_sz112, plus_hi h hn, plus_lo, zz6, QO, ↓Qb]
 refine hK0 _ ?_; try clear hK0 K0
 refine kpA [4] ?_
 refine JJ ?_
 simp only [zz6, QO, ↓Qb]
 refine done0 (by simp [resCs, resC, S, List.getD, JD, lookR, F_ag112, F_sz112, F_ok112]) ?_ (by simp [Ja, Jb, Jc, gA, uw]) (by simp [QY, QX, gA, uw])
 simp only [QD, QE, resA, JZ, S_mem, lookR_cons, lookR_nil, QR, QP, JD, QQ, Qd, Qc, JP, QI, QJ, QH, QL, QK, List.take_zero, F_ag112, F_sz112, F_ok112]
 simp [gA, uw]
theorem gLess_ (a b : Nat) (h : b ≤ a) (ha : a < 340282366920938463463374607431768211456) : ACalls Try.prog 87 [.agg (gC a), .agg (gC b)] [] (gA (a - b)) := by
 refine acalls_S (rs := [.cell 4 112]) Try.func87 rfl rfl 29 [(0, .d (.agg (gC a))), (1, .d (.agg (gC b)))] rfl (by simp) rfl ?_
 refine JA fun K0 hK0 => ?_
 refine Qz F_mixed [some 2, some 3, some 4] rfl ?_
 simp only [zzK, QR, QP, QQ, zz35, JS, zz1, zzG, zzD, zzC, QA, yyE, Qe, QS, QN, zzH, zz32, F_zero112, zz10, gC, uw, zz6, QO, ↓Qb]
 refine hK0 _ ?_; try clear hK0 K0
 refine kpA [2, 3, 4] ?_
 refine JA fun K0 hK0 => ?_
 refine Qz F_mixed [some 10, some 11, some 12, some 13, some 14, some 9, some 15, some 16, some 5, some 6] rfl ?_
 simp only [zzK, QR, QP, QQ, zz19, zz23, F_off112_1, zzH, QN, QS, F_ok75, F_ag75, F_sz75, zz8, zzD, zzC, QA, yyE, Qe, JE, JF, JC, zz14, JB, uV, zz6, QO, ↓Qb]
 refine call_ext _ _ (sub64 (a % 18446744073709551616) (b % 18446744073709551616) 0 (by decide)) ?_
 simp only [zzK, QR, QP, QQ, zz19, zz23, F_off112_1, zzH, QN, QS, F_ok75, F_ag75, F_sz75, zz8, zzD, zzC, QA, yyE, Qe, JE, JF, JC, zz14, JB, uV, zz6, QO, ↓Qb, grsL, JM, QB, QA, oksL, ofV_pair, ofV_int, ofV_bool]
 first | refine ⟨rfl, ?_⟩ | skip
 refine hK0 _ ?_; try clear hK0 K0
 refine kpA [2, 3, 4, 5, 6] ?_
 refine JA fun K0 hK0 => ?_
 refine Qz F_mixed [some 18, some 19, some 20, some 21, some 22, some 23, some 17, some 24, some 25, some 7, some 8] rfl ?_
 simp only [zzK, QR, QP, QQ, zz19, zz23, F_off112_0, zzH, QN, QS, F_ok75, F_ag75, F_sz75, zz8, zzD, zzC, QA, yyE, Qe, JC, JE, JF, zz14, JB, uV, less_hi h ha, less_lo h, zz6, QO, ↓Qb]
 refine call_ext _ _ (sub64 (a / 18446744073709551616) (b / 18446744073709551616) (if a % 18446744073709551616 < b % 18446744073709551616 + 0 then 1 else 0) (by split <;> decide)) ?_
 simp only [zzK, QR, QP, QQ, zz19, zz23, F_off112_0, zzH, QN, QS, F_ok75, F_ag75, F_sz75, zz8, zzD, zzC, QA, yyE, Qe, JC, JE, JF, zz14, JB, uV, less_hi h ha, less_lo h, zz6, QO, ↓Qb, grsL, JM, QB, QA, oksL, ofV_pair, ofV_int, ofV_bool]
 refine hK0 _ ?_; try clear hK0 K0
 refine kpA [4, 5, 7] ?_
 refine JA fun K0 hK0 => ?_
 refine Qz F_mixed [some 26, some 27, some 28, none] rfl ?_
 simp only [zzK, QR, QP, QQ, JC, F_zero112, F_bld112, zz7, splice, Option.getD_some, QG, zz1, zzG, zzD, zzC, QA, yyE, Qe, QS, QN, zzH, zz10, F_fld112_0, F_fld112_1, zz18, F_ok112, F_sz112, less_hi h ha, less_lo h, zz6, QO, ↓Qb]
 refine hK0 _ ?_; try clear hK0 K0
 refine kpA [4] ?_
 refine JJ ?_
 simp only [zz6, QO, ↓Qb]
 refine done0 (by simp [resCs, resC, S, List.getD, JD, lookR, F_ag112, F_sz112, F_ok112]) ?_ (by simp [Ja, Jb, Jc, gA, uw]) (by simp [QY, QX, gA, uw])
 simp only [QD, QE, resA, JZ, S_mem, lookR_cons, lookR_nil, QR, QP, JD, QQ, Qd, Qc, JP, QI, QJ, QH, QL, QK, List.take_zero, F_ag112, F_sz112, F_ok112]
 simp [gA, uw]
theorem gQuo_ (a b : Nat) (ha : a < 340282366920938463463374607431768211456) (hbp : 0 < b) (hbl : b < 9444732965739290427392) : ACalls Try.prog 65 [.agg (gC a), .agg (gC b)] [] (.tp [.d (uw (a / b % 18446744073709551616)), gA (a % b)]) := by
 refine acalls_S (rs := [.tmp 4, .cell 5 112]) Try.func65 rfl rfl 56 [(0, .d (.agg (gC a))), (1, .d (.agg (gC b)))] rfl (by simp) rfl ?_
 have h128 : a / 2 ^ 128 = 0 := Nat.div_eq_of_lt (by omega)
 refine JA fun K0 hK0 => ?_
 refine Qz F_mixed [some 2, some 3, some 4, some 5] rfl ?_
 simp only [zzK, QR, QP, QQ, zz35, JS, zz1, zzG, zzD, zzC, QA, yyE, Qe, QS, QN, zzH, JB, zz32, F_zero112, zz10, gC, uw, zz6, QO, ↓Qb]
 refine hK0 _ ?_; try clear hK0 K0
 refine kpA [2, 3, 5] ?_
 refine JA fun K0 hK0 => ?_
 refine Qz F_mixed [some 6] rfl ?_
 simp only [zzK, QR, QP, QQ, zz32, JS, F_zero112, zzC, QA, yyE, Qe, zzD, QS, QN, zzH, zz10, zz6, QO, ↓Qb]
 refine hK0 _ ?_; try clear hK0 K0
 refine kpA [2, 3, 5, 6] ?_
 refine JA fun K0 hK0 => ?_
 refine Qz F_mixed [some 7] rfl ?_
 simp only [zzK, QR, QP, QQ, JB, zz6, QO, ↓Qb]
 refine hK0 _ ?_; try clear hK0 K0
 refine kpA [2, 3, 5, 6, 7] ?_
 refine JA fun K0 hK0 => ?_
 refine JA fun K1 hK1 => ?_
 refine Qz F_mixed [some 8] rfl ?_
 simp only [zzK, QR, QP, QQ, JB, zz6, QO, ↓Qb]
 refine hK1 _ ?_; try clear hK1 K1
 refine kpA [2, 3, 5, 6, 7, 8] ?_
 refine JH ?_
 refine JL (fun m s => ∃ (c : Nat), (c ≤ 128) ∧ m = c ∧ s = S 56 [(2, .ptr 2 0 0), (3, .ptr 3 0 0), (5, .ptr 5 0 0), (6, .ptr 6 0 0), (7, .d (.v (.int .u64 (((a / 2 ^ c / b % 18446744073709551616) : Nat) : Int)))), (8, .d (iv (((c : Nat) : Int) - 1)))] [(2, (⟨True, 112, 2, true, false, 2, [[.d (.v (.int .u64 ((a / 18446744073709551616 : Nat) : Int))), .d (.v (.int .u64 ((a % 18446744073709551616 : Nat) : Int)))]]⟩ : ARow)), (3, (⟨True, 112, 2, true, false, 3, [[.d (.v (.int .u64 ((b / 18446744073709551616 : Nat) : Int))), .d (.v (.int .u64 ((b % 18446744073709551616 : Nat) : Int)))]]⟩ : ARow)), (5, (⟨True, 112, 2, true, false, 5, [[.d (.v (.int .u64 0)), .d (.v (.int .u64 0))]]⟩ : ARow)), (6, (⟨True, 112, 2, true, false, 6, [[.d (.v (.int .u64 (((a / 2 ^ c % b) / 18446744073709551616 : Nat) : Int))), .d (.v (.int .u64 (((a / 2 ^ c % b) % 18446744073709551616 : Nat) : Int)))]]⟩ : ARow))]) (128) _ (le_SK id [] rfl (l' := [(2, .ptr 2 0 0), (3, .ptr 3 0 0), (5, .ptr 5 0 0), (6, .ptr 6 0 0), (7, .d (.v (.int .u64 (((a / 2 ^ 128 / b % 18446744073709551616) : Nat) : Int)))), (8, .d (iv (((128 : Nat) : Int) - 1)))]) (m' := [(2, (⟨True, 112, 2, true, false, 2, [[.d (.v (.int .u64 ((a / 18446744073709551616 : Nat) : Int))), .d (.v (.int .u64 ((a % 18446744073709551616 : Nat) : Int)))]]⟩ : ARow)), (3, (⟨True, 112, 2, true, false, 3, [[.d (.v (.int .u64 ((b / 18446744073709551616 : Nat) : Int))), .d (.v (.int .u64 ((b % 18446744073709551616 : Nat) : Int)))]]⟩ : ARow)), (5, (⟨True, 112, 2, true, false, 5, [[.d (.v (.int .u64 0)), .d (.v (.int .u64 0))]]⟩ : ARow)), (6, (⟨True, 112, 2, true, false, 6, [[.d (.v (.int .u64 (((a / 2 ^ 128 % b) / 18446744073709551616 : Nat) : Int))), .d (.v (.int .u64 (((a / 2 ^ 128 % b) % 18446744073709551616 : Nat) : Int)))]]⟩ : ARow))]) ?_ ?_ ?_ ?_) ⟨128, Nat.le_refl _, rfl, rfl⟩ ?_
 ·simp only [leV, JD, QQ, Qd, Qc]; exact ⟨(by first | exact Qo rfl | exact Qq (by decide) | exact Qp | exact Qn _ | exact Qs (by simp) (by rfl) | exact Qr (by simp) (by rfl) (by first | rfl | (simp; done) | (simp; omega)) | exact Qt (by first | rfl | simp)), (by first | exact Qo rfl | exact Qq (by decide) | exact Qp | exact Qn _ | exact Qs (by simp) (by rfl) | exact Qr (by simp) (by rfl) (by first | rfl | (simp; done) | (simp; omega)) | exact Qt (by first | rfl | simp)), (by first | exact Qo rfl | exact Qq (by decide) | exact Qp | exact Qn _ | exact Qs (by simp) (by rfl) | exact Qr (by simp) (by rfl) (by first | rfl | (simp; done) | (simp; omega)) | exact Qt (by first | rfl | simp)), (by first | exact Qo rfl | exact Qq (by decide) | exact Qp | exact Qn _ | exact Qs (by simp) (by rfl) | exact Qr (by simp) (by rfl) (by first | rfl | (simp; done) | (simp; omega)) | exact Qt (by first | rfl | simp)), (Qt (by simp [h128])), (Qt rfl), trivial⟩
 ·exact ⟨fun _ => ⟨_, rfl, (by first | exact Qw (by first | rfl | simp) | exact Qx (by first | rfl | simp) (by simp) ids_data | exact Qv (by simp [QX, QY]) | exact Qu (by simp) (by simp [QX, QY]))⟩, fun h => by simp at h, fun _ => ⟨_, rfl, (by first | exact Qw (by first | rfl | simp) | exact Qx (by first | rfl | simp) (by simp) ids_data | exact Qv (by simp [QX, QY]) | exact Qu (by simp) (by simp [QX, QY]))⟩, fun h => by simp at h, fun _ => ⟨_, rfl, (by first | exact Qw (by first | rfl | simp) | exact Qx (by first | rfl | simp) (by simp) ids_data | exact Qv (by simp [QX, QY]) | exact Qu (by simp) (by simp [QX, QY]))⟩, fun h => by simp at h, fun _ => ⟨_, rfl, RowLe.cells (VLess.one_ (VLes.cons_ (Qt (by simp [h128])) (VLes.cons_ (Qt (by simp [h128])) (VLes.nil_))))⟩, fun h => by simp at h, trivial⟩
 ·simp [wfV, QY, QX, lookR, grow]
 ·exact ⟨by simp [QX, QY, lookR], by simp [QX, QY, lookR], by simp [QX, QY, lookR], by simp [QX, QY, lookR], trivial⟩
 rintro m s ⟨c, hc128, rfl, rfl⟩
 refine JA fun K2 hK2 => ?_
 refine JA fun K3 hK3 => ?_
 refine Qz F_mixed [some 10, some 11] rfl ?_
 simp only [zzK, QR, QP, QQ, JC, zz21, JM, zz31, zz6, QO, ↓Qb]
 refine hK3 _ ?_; try clear hK3 K3
 refine kpA [2, 3, 5, 6, 7, 8, 11] ?_
 refine cnA ?_ ?_
 ·intro hb
  obtain ⟨d, rfl⟩ : ∃ d, m = d + 1 := ⟨m - 1, by have := Qg hb; omega⟩
  clear hb
  have hd : ((d + 1 : Nat) : Int) - 1 = (d : Int) := by omega
  have ht : a / 2 ^ d % 2 < 2 := Nat.mod_lt _ (by decide)
  have hxl : a / 2 ^ (d + 1) % b < b := Nat.mod_lt _ hbp
  have hlb : a / 2 ^ (d + 1) % b < 9444732965739290427392 := by omega
  obtain ⟨s1, s2⟩ := quo_step (a := a) (c := d) hbp
  have hq0 : a / 2 ^ (d + 1) / b % 18446744073709551616 * 2 % 18446744073709551616 = (2 * (a / 2 ^ (d + 1) / b) + 0) % 18446744073709551616 := by omega
  refine JI ?_
  simp only [zz6, QO, ↓Qb]
  refine hK2 _ ?_; try clear hK2 K2
  refine kpA [2, 3, 5, 6, 7, 8] ?_
  refine JA fun K2 hK2 => ?_
  refine JH ?_
  refine JA fun K3 hK3 => ?_
  refine Qz F_mixed [some 14, some 15, some 16, some 17, some 18, some 19, some 20, some 9] rfl ?_
  simp only [zzK, QR, QP, QQ, zz19, zz23, F_off112_1, zzH, QN, QS, F_ok75, F_ag75, F_sz75, zz8, zzD, zzC, QA, yyE, Qe, JC, zz21, JM, b_rem, pure_rem, ne_eq, Int.reduceEq, Qk, zz27, F_cv3_63, F_cvV63, b_shr, pure_shr, Int.reduceLT, b_and, pure_and, JB, hd, sh64, nat_lt0, Qk, shrN, andLo, zz6, QO, ↓Qb]
  refine hK3 _ ?_; try clear hK3 K3
  refine kpA [2, 3, 5, 6, 7, 8, 9] ?_
  refine JA fun K3 hK3 => ?_
  refine JA fun K4 hK4 => ?_
  refine Qz F_mixed [some 21, some 22] rfl ?_
  simp only [zzK, QR, QP, QQ, JC, zz21, JM, zz31, hd, zz6, QO, ↓Qb]
  refine hK4 _ ?_; try clear hK4 K4
  refine kpA [2, 3, 5, 6, 7, 8, 9, 22] ?_
  refine cnA ?_ ?_
  ·intro hb
   have hbit := (bit_hi a d (by have := Qg hb; omega)).resolve_right (by omega)
   clear hb
   refine Qz F_mixed [some 23, some 24, some 25, some 26, some 27, some 28, some 29, some 9] rfl ?_
   simp only [zzK, QR, QP, QQ, zz19, zz23, F_off112_0, zzH, QN, QS, F_ok75, F_ag75, F_sz75, zz8, zzD, zzC, QA, yyE, Qe, JC, zz21, JM, b_rem, pure_rem, ne_eq, Int.reduceEq, Qk, zz27, F_cv3_63, F_cvV63, b_shr, pure_shr, Int.reduceLT, b_and, pure_and, JB, hd, sh64, nat_lt0, Qk, shrN, andHi a d ha, hbit, zz6, QO, ↓Qb]
   refine hK3 _ ?_; try clear hK3 K3
   refine kpA [2, 3, 5, 6, 7, 8, 9] ?_
   refine JA fun K3 hK3 => ?_
   refine Qz F_mixed [some 30, some 31, some 32, some 33, some 34, some 35, some 36, some 37, some 38, some 39, some 40, some 41, some 42, none] rfl ?_
   simp only [zzK, QR, QP, QQ, zz19, zz23, F_off112_0, zzH, QN, QS, F_ok75, F_ag75, F_sz75, zz8, zzD, zzC, QA, yyE, Qe, zz21, JM, b_shl, pure_shl, Int.reduceLT, Qk, F_off112_1, b_shr, pure_shr, b_or, pure_or, JC, F_zero112, F_bld112, zz7, splice, Option.getD_some, QG, zz1, zzG, zz10, F_fld112_0, F_fld112_1, zz18, F_ok112, F_sz112, shl1, shr63n, orHi hlb, orLo _ ht, hi_t _ ht, zz6, QO, ↓Qb]
   refine hK3 _ ?_; try clear hK3 K3
   refine kpA [2, 3, 5, 6, 7, 8] ?_
   refine JA fun K3 hK3 => ?_
   refine Qz F_mixed [some 43, some 44, some 7] rfl ?_
   simp only [zzK, QR, QP, QQ, JC, zz21, JM, b_shl, pure_shl, Int.reduceLT, Qk, JB, shl1, zz6, QO, ↓Qb]
   refine hK3 _ ?_; try clear hK3 K3
   refine kpA [2, 3, 5, 6, 7, 8] ?_
   refine JA fun K3 hK3 => ?_
   refine Qz F_mixed [some 45, some 46, some 47, some 48] rfl ?_
   simp only [zzK, QR, QP, QQ, F_ok112, F_ag112, F_sz112, zz8, zz23, zzD, QS, QN, zzH, zzC, QA, yyE, Qe, JE, JF, zz21, JM, zz31, gC, uw, QW, cmpG_ge, zz6, QO, ↓Qb]
   refine JT F_go68 (fun hG => gCmp_ (2 * (a / 2 ^ (d + 1) % b) + a / 2 ^ d % 2) b) (by simp [QY, QX]) (by simp) ?_
   simp only [zzK, QR, QP, QQ, F_ok112, F_ag112, F_sz112, zz8, zz23, zzD, QS, QN, zzH, zzC, QA, yyE, Qe, JE, JF, zz21, JM, zz31, gC, uw, QW, cmpG_ge, zz6, QO, ↓Qb, atsL, oksG, JV, QZ, Qa, JO, Qm, QT, QS, zz9, QB, QA, S_mem, yyF, QF, zz2]
   refine hK3 _ ?_; try clear hK3 K3
   refine kpA [2, 3, 5, 6, 7, 8, 48] ?_
   refine cnA ?_ ?_
   ·intro hb
    rw [show decide (b ≤ (2 * (a / 2 ^ (d + 1) % b) + a / 2 ^ d % 2)) = true from hb, Qd] at s1 s2
    refine JA fun K4 hK4 => ?_
    refine Qz F_mixed [some 49, some 50, some 51, none] rfl ?_
    simp only [zzK, QR, QP, QQ, F_ok112, F_ag112, F_sz112, zz8, zz23, zzD, QS, QN, zzH, zzC, QA, yyE, Qe, JE, JF, zz18, splice, QG, zz1, zzG, gC, uw, gA, QW, zz6, QO, ↓Qb]
    refine JT F_go87 (fun hG => gLess_ (2 * (a / 2 ^ (d + 1) % b) + a / 2 ^ d % 2) b (Qg hb) (by omega)) (by simp [QY, QX, gA]) (by simp) ?_
    simp only [zzK, QR, QP, QQ, F_ok112, F_ag112, F_sz112, zz8, zz23, zzD, QS, QN, zzH, zzC, QA, yyE, Qe, JE, JF, zz18, splice, QG, zz1, zzG, gC, uw, gA, QW, zz6, QO, ↓Qb, atsL, oksG, JV, QZ, Qa, JO, Qm, QT, QS, zz9, QB, QA, S_mem, yyF, QF, zz2]
    refine hK4 _ ?_; try clear hK4 K4
    refine kpA [2, 3, 5, 6, 7, 8] ?_
    refine Qz F_mixed [some 52, some 53, some 7] rfl ?_
    simp only [zzK, QR, QP, QQ, JC, zz21, JM, b_or, pure_or, JB, or1, zz6, QO, ↓Qb]
    refine hK2 _ ?_; try clear hK2 K2
    refine kpA [2, 3, 5, 6, 7, 8] ?_
    refine Qz F_mixed [some 12, some 13, some 8] rfl ?_
    simp only [zzK, QR, QP, QQ, JC, zz21, JM, zz33, JB, hd, zz6, QO, ↓Qb]
    refine ⟨d, _, by omega, le_SK id [] rfl (l' := [(2, .ptr 2 0 0), (3, .ptr 3 0 0), (5, .ptr 5 0 0), (6, .ptr 6 0 0), (7, .d (.v (.int .u64 (((a / 2 ^ d / b % 18446744073709551616) : Nat) : Int)))), (8, .d (iv (((d : Nat) : Int) - 1)))]) (m' := [(2, (⟨True, 112, 2, true, false, 2, [[.d (.v (.int .u64 ((a / 18446744073709551616 : Nat) : Int))), .d (.v (.int .u64 ((a % 18446744073709551616 : Nat) : Int)))]]⟩ : ARow)), (3, (⟨True, 112, 2, true, false, 3, [[.d (.v (.int .u64 ((b / 18446744073709551616 : Nat) : Int))), .d (.v (.int .u64 ((b % 18446744073709551616 : Nat) : Int)))]]⟩ : ARow)), (5, (⟨True, 112, 2, true, false, 5, [[.d (.v (.int .u64 0)), .d (.v (.int .u64 0))]]⟩ : ARow)), (6, (⟨True, 112, 2, true, false, 6, [[.d (.v (.int .u64 (((a / 2 ^ d % b) / 18446744073709551616 : Nat) : Int))), .d (.v (.int .u64 (((a / 2 ^ d % b) % 18446744073709551616 : Nat) : Int)))]]⟩ : ARow))]) ?_ ?_ ?_ ?_, d, by omega, rfl, rfl⟩
    ·simp only [leV, JD, QQ, Qd, Qc]; exact ⟨(by first | exact Qo rfl | exact Qq (by decide) | exact Qp | exact Qn _ | exact Qs (by simp) (by rfl) | exact Qr (by simp) (by rfl) (by first | rfl | (simp; done) | (simp; omega)) | exact Qt (by first | rfl | simp)), (by first | exact Qo rfl | exact Qq (by decide) | exact Qp | exact Qn _ | exact Qs (by simp) (by rfl) | exact Qr (by simp) (by rfl) (by first | rfl | (simp; done) | (simp; omega)) | exact Qt (by first | rfl | simp)), (by first | exact Qo rfl | exact Qq (by decide) | exact Qp | exact Qn _ | exact Qs (by simp) (by rfl) | exact Qr (by simp) (by rfl) (by first | rfl | (simp; done) | (simp; omega)) | exact Qt (by first | rfl | simp)), (by first | exact Qo rfl | exact Qq (by decide) | exact Qp | exact Qn _ | exact Qs (by simp) (by rfl) | exact Qr (by simp) (by rfl) (by first | rfl | (simp; done) | (simp; omega)) | exact Qt (by first | rfl | simp)), (Qt (by rw [s2])), (Qt (congrArg iv (wrapI (by omega) (by omega)))), trivial⟩
    ·exact ⟨fun _ => ⟨_, rfl, (by first | exact Qw (by first | rfl | simp) | exact Qx (by first | rfl | simp) (by simp) ids_data | exact Qv (by simp [QX, QY]) | exact Qu (by simp) (by simp [QX, QY]))⟩, fun h => by simp at h, fun _ => ⟨_, rfl, (by first | exact Qw (by first | rfl | simp) | exact Qx (by first | rfl | simp) (by simp) ids_data | exact Qv (by simp [QX, QY]) | exact Qu (by simp) (by simp [QX, QY]))⟩, fun h => by simp at h, fun _ => ⟨_, rfl, (by first | exact Qw (by first | rfl | simp) | exact Qx (by first | rfl | simp) (by simp) ids_data | exact Qv (by simp [QX, QY]) | exact Qu (by simp) (by simp [QX, QY]))⟩, fun h => by simp at h, fun _ => ⟨_, rfl, RowLe.cells (VLess.one_ (VLes.cons_ (Qt (by rw [s1])) (VLes.cons_ (Qt (by rw [s1])) (VLes.nil_))))⟩, fun h => by simp at h, trivial⟩
    ·simp [wfV, QY, QX, lookR, grow]
    ·exact ⟨by simp [QX, QY, lookR], by simp [QX, QY, lookR], by simp [QX, QY, lookR], by simp [QX, QY, lookR], trivial⟩
   ·intro hb
    rw [show decide (b ≤ (2 * (a / 2 ^ (d + 1) % b) + a / 2 ^ d % 2)) = false from hb, Qc] at s1 s2
    clear hb
    refine JI ?_
    simp only [zz6, QO, ↓Qb]
    refine hK2 _ ?_; try clear hK2 K2
    refine kpA [2, 3, 5, 6, 7, 8] ?_
    refine Qz F_mixed [some 12, some 13, some 8] rfl ?_
    simp only [zzK, QR, QP, QQ, JC, zz21, JM, zz33, JB, hd, zz6, QO, ↓Qb]
    refine ⟨d, _, by omega, le_SK id [] rfl (l' := [(2, .ptr 2 0 0), (3, .ptr 3 0 0), (5, .ptr 5 0 0), (6, .ptr 6 0 0), (7, .d (.v (.int .u64 (((a / 2 ^ d / b % 18446744073709551616) : Nat) : Int)))), (8, .d (iv (((d : Nat) : Int) - 1)))]) (m' := [(2, (⟨True, 112, 2, true, false, 2, [[.d (.v (.int .u64 ((a / 18446744073709551616 : Nat) : Int))), .d (.v (.int .u64 ((a % 18446744073709551616 : Nat) : Int)))]]⟩ : ARow)), (3, (⟨True, 112, 2, true, false, 3, [[.d (.v (.int .u64 ((b / 18446744073709551616 : Nat) : Int))), .d (.v (.int .u64 ((b % 18446744073709551616 : Nat) : Int)))]]⟩ : ARow)), (5, (⟨True, 112, 2, true, false, 5, [[.d (.v (.int .u64 0)), .d (.v (.int .u64 0))]]⟩ : ARow)), (6, (⟨True, 112, 2, true, false, 6, [[.d (.v (.int .u64 (((a / 2 ^ d % b) / 18446744073709551616 : Nat) : Int))), .d (.v (.int .u64 (((a / 2 ^ d % b) % 18446744073709551616 : Nat) : Int)))]]⟩ : ARow))]) ?_ ?_ ?_ ?_, d, by omega, rfl, rfl⟩
    ·simp only [leV, JD, QQ, Qd, Qc]; exact ⟨(by first | exact Qo rfl | exact Qq (by decide) | exact Qp | exact Qn _ | exact Qs (by simp) (by rfl) | exact Qr (by simp) (by rfl) (by first | rfl | (simp; done) | (simp; omega)) | exact Qt (by first | rfl | simp)), (by first | exact Qo rfl | exact Qq (by decide) | exact Qp | exact Qn _ | exact Qs (by simp) (by rfl) | exact Qr (by simp) (by rfl) (by first | rfl | (simp; done) | (simp; omega)) | exact Qt (by first | rfl | simp)), (by first | exact Qo rfl | exact Qq (by decide) | exact Qp | exact Qn _ | exact Qs (by simp) (by rfl) | exact Qr (by simp) (by rfl) (by first | rfl | (simp; done) | (simp; omega)) | exact Qt (by first | rfl | simp)), (by first | exact Qo rfl | exact Qq (by decide) | exact Qp | exact Qn _ | exact Qs (by simp) (by rfl) | exact Qr (by simp) (by rfl) (by first | rfl | (simp; done) | (simp; omega)) | exact Qt (by first | rfl | simp)), (Qt (by rw [s2]; exact congrArg (fun n : Nat => D.v (.int .u64 (n : Int))) hq0)), (Qt (congrArg iv (wrapI (by omega) (by omega)))), trivial⟩
    ·exact ⟨fun _ => ⟨_, rfl, (by first | exact Qw (by first | rfl | simp) | exact Qx (by first | rfl | simp) (by simp) ids_data | exact Qv (by simp [QX, QY]) | exact Qu (by simp) (by simp [QX, QY]))⟩, fun h => by simp at h, fun _ => ⟨_, rfl, (by first | exact Qw (by first | rfl | simp) | exact Qx (by first | rfl | simp) (by simp) ids_data | exact Qv (by simp [QX, QY]) | exact Qu (by simp) (by simp [QX, QY]))⟩, fun h => by simp at h, fun _ => ⟨_, rfl, (by first | exact Qw (by first | rfl | simp) | exact Qx (by first | rfl | simp) (by simp) ids_data | exact Qv (by simp [QX, QY]) | exact Qu (by simp) (by simp [QX, QY]))⟩, fun h => by simp at h, fun _ => ⟨_, rfl, RowLe.cells (VLess.one_ (VLes.cons_ (Qt (by rw [s1])) (VLes.cons_ (Qt (by rw [s1])) (VLes.nil_))))⟩, fun h => by simp at h, trivial⟩
    ·simp [wfV, QY, QX, lookR, grow]
    ·exact ⟨by simp [QX, QY, lookR], by simp [QX, QY, lookR], by simp [QX, QY, lookR], by simp [QX, QY, lookR], trivial⟩
  ·intro hb
   have hbit := bit_lo a d (by have := Qf hb; omega)
   clear hb
   simp only [hbit]
   refine JI ?_
   simp only [zz6, QO, ↓Qb]
   refine hK3 _ ?_; try clear hK3 K3
   refine kpA [2, 3, 5, 6, 7, 8, 9] ?_
   refine JA fun K3 hK3 => ?_
   refine Qz F_mixed [some 30, some 31, some 32, some 33, some 34, some 35, some 36, some 37, some 38, some 39, some 40, some 41, some 42, none] rfl ?_
   simp only [zzK, QR, QP, QQ, zz19, zz23, F_off112_0, zzH, QN, QS, F_ok75, F_ag75, F_sz75, zz8, zzD, zzC, QA, yyE, Qe, zz21, JM, b_shl, pure_shl, Int.reduceLT, Qk, F_off112_1, b_shr, pure_shr, b_or, pure_or, JC, F_zero112, F_bld112, zz7, splice, Option.getD_some, QG, zz1, zzG, zz10, F_fld112_0, F_fld112_1, zz18, F_ok112, F_sz112, shl1, shr63n, orHi hlb, orLo _ ht, hi_t _ ht, zz6, QO, ↓Qb]
   refine hK3 _ ?_; try clear hK3 K3
   refine kpA [2, 3, 5, 6, 7, 8] ?_
   refine JA fun K3 hK3 => ?_
   refine Qz F_mixed [some 43, some 44, some 7] rfl ?_
   simp only [zzK, QR, QP, QQ, JC, zz21, JM, b_shl, pure_shl, Int.reduceLT, Qk, JB, shl1, zz6, QO, ↓Qb]
   refine hK3 _ ?_; try clear hK3 K3
   refine kpA [2, 3, 5, 6, 7, 8] ?_
   refine JA fun K3 hK3 => ?_
   refine Qz F_mixed [some 45, some 46, some 47, some 48] rfl ?_
   simp only [zzK, QR, QP, QQ, F_ok112, F_ag112, F_sz112, zz8, zz23, zzD, QS, QN, zzH, zzC, QA, yyE, Qe, JE, JF, zz21, JM, zz31, gC, uw, QW, cmpG_ge, zz6, QO, ↓Qb]
   refine JT F_go68 (fun hG => gCmp_ (2 * (a / 2 ^ (d + 1) % b) + a / 2 ^ d % 2) b) (by simp [QY, QX]) (by simp) ?_
   simp only [zzK, QR, QP, QQ, F_ok112, F_ag112, F_sz112, zz8, zz23, zzD, QS, QN, zzH, zzC, QA, yyE, Qe, JE, JF, zz21, JM, zz31, gC, uw, QW, cmpG_ge, zz6, QO, ↓Qb, atsL, oksG, JV, QZ, Qa, JO, Qm, QT, QS, zz9, QB, QA, S_mem, yyF, QF, zz2]
   refine hK3 _ ?_; try clear hK3 K3
   refine kpA [2, 3, 5, 6, 7, 8, 48] ?_
   refine cnA ?_ ?_
   ·intro hb
    rw [show decide (b ≤ (2 * (a / 2 ^ (d + 1) % b) + a / 2 ^ d % 2)) = true from hb, Qd] at s1 s2
    refine JA fun K4 hK4 => ?_
    refine Qz F_mixed [some 49, some 50, some 51, none] rfl ?_
    simp only [zzK, QR, QP, QQ, F_ok112, F_ag112, F_sz112, zz8, zz23, zzD, QS, QN, zzH, zzC, QA, yyE, Qe, JE, JF, zz18, splice, QG, zz1, zzG, gC, uw, gA, QW, zz6, QO, ↓Qb]
    refine JT F_go87 (fun hG => gLess_ (2 * (a / 2 ^ (d + 1) % b) + a / 2 ^ d % 2) b (Qg hb) (by omega)) (by simp [QY, QX, gA]) (by simp) ?_
    simp only [zzK, QR, QP, QQ, F_ok112, F_ag112, F_sz112, zz8, zz23, zzD, QS, QN, zzH, zzC, QA, yyE, Qe, JE, JF, zz18, splice, QG, zz1, zzG, gC, uw, gA, QW, zz6, QO, ↓Qb, atsL, oksG, JV, QZ, Qa, JO, Qm, QT, QS, zz9, QB, QA, S_mem, yyF, QF, zz2]
    refine hK4 _ ?_; try clear hK4 K4
    refine kpA [2, 3, 5, 6, 7, 8] ?_
    refine Qz F_mixed [some 52, some 53, some 7] rfl ?_
    simp only [zzK, QR, QP, QQ, JC, zz21, JM, b_or, pure_or, JB, or1, zz6, QO, ↓Qb]
    refine hK2 _ ?_; try clear hK2 K2
    refine kpA [2, 3, 5, 6, 7, 8] ?_
    refine Qz F_mixed [some 12, some 13, some 8] rfl ?_
    simp only [zzK, QR, QP, QQ, JC, zz21, JM, zz33, JB, hd, zz6, QO, ↓Qb]
    refine ⟨d, _, by omega, le_SK id [] rfl (l' := [(2, .ptr 2 0 0), (3, .ptr 3 0 0), (5, .ptr 5 0 0), (6, .ptr 6 0 0), (7, .d (.v (.int .u64 (((a / 2 ^ d / b % 18446744073709551616) : Nat) : Int)))), (8, .d (iv (((d : Nat) : Int) - 1)))]) (m' := [(2, (⟨True, 112, 2, true, false, 2, [[.d (.v (.int .u64 ((a / 18446744073709551616 : Nat) : Int))), .d (.v (.int .u64 ((a % 18446744073709551616 : Nat) : Int)))]]⟩ : ARow)), (3, (⟨True, 112, 2, true, false, 3, [[.d (.v (.int .u64 ((b / 18446744073709551616 : Nat) : Int))), .d (.v (.int .u64 ((b % 18446744073709551616 : Nat) : Int)))]]⟩ : ARow)), (5, (⟨True, 112, 2, true, false, 5, [[.d (.v (.int .u64 0)), .d (.v (.int .u64 0))]]⟩ : ARow)), (6, (⟨True, 112, 2, true, false, 6, [[.d (.v (.int .u64 (((a / 2 ^ d % b) / 18446744073709551616 : Nat) : Int))), .d (.v (.int .u64 (((a / 2 ^ d % b) % 18446744073709551616 : Nat) : Int)))]]⟩ : ARow))]) ?_ ?_ ?_ ?_, d, by omega, rfl, rfl⟩
    ·simp only [leV, JD, QQ, Qd, Qc]; exact ⟨(by first | exact Qo rfl | exact Qq (by decide) | exact Qp | exact Qn _ | exact Qs (by simp) (by rfl) | exact Qr (by simp) (by rfl) (by first | rfl | (simp; done) | (simp; omega)) | exact Qt (by first | rfl | simp)), (by first | exact Qo rfl | exact Qq (by decide) | exact Qp | exact Qn _ | exact Qs (by simp) (by rfl) | exact Qr (by simp) (by rfl) (by first | rfl | (simp; done) | (simp; omega)) | exact Qt (by first | rfl | simp)), (by first | exact Qo rfl | exact Qq (by decide) | exact Qp | exact Qn _ | exact Qs (by simp) (by rfl) | exact Qr (by simp) (by rfl) (by first | rfl | (simp; done) | (simp; omega)) | exact Qt (by first | rfl | simp)), (by first | exact Qo rfl | exact Qq (by decide) | exact Qp | exact Qn _ | exact Qs (by simp) (by rfl) | exact Qr (by simp) (by rfl) (by first | rfl | (simp; done) | (simp; omega)) | exact Qt (by first | rfl | simp)), (Qt (by rw [s2])), (Qt (congrArg iv (wrapI (by omega) (by omega)))), trivial⟩
    ·exact ⟨fun _ => ⟨_, rfl, (by first | exact Qw (by first | rfl | simp) | exact Qx (by first | rfl | simp) (by simp) ids_data | exact Qv (by simp [QX, QY]) | exact Qu (by simp) (by simp [QX, QY]))⟩, fun h => by simp at h, fun _ => ⟨_, rfl, (by first | exact Qw (by first | rfl | simp) | exact Qx (by first | rfl | simp) (by simp) ids_data | exact Qv (by simp [QX, QY]) | exact Qu (by simp) (by simp [QX, QY]))⟩, fun h => by simp at h, fun _ => ⟨_, rfl, (by first | exact Qw (by first | rfl | simp) | exact Qx (by first | rfl | simp) (by simp) ids_data | exact Qv (by simp [QX, QY]) | exact Qu (by simp) (by simp [QX, QY]))⟩, fun h => by simp at h, fun _ => ⟨_, rfl, RowLe.cells (VLess.one_ (VLes.cons_ (Qt (by rw [s1])) (VLes.cons_ (Qt (by rw [s1])) (VLes.nil_))))⟩, fun h => by simp at h, trivial⟩
    ·simp [wfV, QY, QX, lookR, grow]
    ·exact ⟨by simp [QX, QY, lookR], by simp [QX, QY, lookR], by simp [QX, QY, lookR], by simp [QX, QY, lookR], trivial⟩
   ·intro hb
    rw [show decide (b ≤ (2 * (a / 2 ^ (d + 1) % b) + a / 2 ^ d % 2)) = false from hb, Qc] at s1 s2
    clear hb
    refine JI ?_
    simp only [zz6, QO, ↓Qb]
    refine hK2 _ ?_; try clear hK2 K2
    refine kpA [2, 3, 5, 6, 7, 8] ?_
    refine Qz F_mixed [some 12, some 13, some 8] rfl ?_
    simp only [zzK, QR, QP, QQ, JC, zz21, JM, zz33, JB, hd, zz6, QO, ↓Qb]
    refine ⟨d, _, by omega, le_SK id [] rfl (l' := [(2, .ptr 2 0 0), (3, .ptr 3 0 0), (5, .ptr 5 0 0), (6, .ptr 6 0 0), (7, .d (.v (.int .u64 (((a / 2 ^ d / b % 18446744073709551616) : Nat) : Int)))), (8, .d (iv (((d : Nat) : Int) - 1)))]) (m' := [(2, (⟨True, 112, 2, true, false, 2, [[.d (.v (.int .u64 ((a / 18446744073709551616 : Nat) : Int))), .d (.v (.int .u64 ((a % 18446744073709551616 : Nat) : Int)))]]⟩ : ARow)), (3, (⟨True, 112, 2, true, false, 3, [[.d (.v (.int .u64 ((b / 18446744073709551616 : Nat) : Int))), .d (.v (.int .u64 ((b % 18446744073709551616 : Nat) : Int)))]]⟩ : ARow)), (5, (⟨True, 112, 2, true, false, 5, [[.d (.v (.int .u64 0)), .d (.v (.int .u64 0))]]⟩ : ARow)), (6, (⟨True, 112, 2, true, false, 6, [[.d (.v (.int .u64 (((a / 2 ^ d % b) / 18446744073709551616 : Nat) : Int))), .d (.v (.int .u64 (((a / 2 ^ d % b) % 18446744073709551616 : Nat) : Int)))]]⟩ : ARow))]) ?_ ?_ ?_ ?_, d, by omega, rfl, rfl⟩
    ·simp only [leV, JD, QQ, Qd, Qc]; exact ⟨(by first | exact Qo rfl | exact Qq (by decide) | exact Qp | exact Qn _ | exact Qs (by simp) (by rfl) | exact Qr (by simp) (by rfl) (by first | rfl | (simp; done) | (simp; omega)) | exact Qt (by first | rfl | simp)), (by first | exact Qo rfl | exact Qq (by decide) | exact Qp | exact Qn _ | exact Qs (by simp) (by rfl) | exact Qr (by simp) (by rfl) (by first | rfl | (simp; done) | (simp; omega)) | exact Qt (by first | rfl | simp)), (by first | exact Qo rfl | exact Qq (by decide) | exact Qp | exact Qn _ | exact Qs (by simp) (by rfl) | exact Qr (by simp) (by rfl) (by first | rfl | (simp; done) | (simp; omega)) | exact Qt (by first | rfl | simp)), (by first | exact Qo rfl | exact Qq (by decide) | exact Qp | exact Qn _ | exact Qs (by simp) (by rfl) | exact Qr (by simp) (by rfl) (by first | rfl | (simp; done) | (simp; omega)) | exact Qt (by first | rfl | simp)), (Qt (by rw [s2]; exact congrArg (fun n : Nat => D.v (.int .u64 (n : Int))) hq0)), (Qt (congrArg iv (wrapI (by omega) (by omega)))), trivial⟩
    ·exact ⟨fun _ => ⟨_, rfl, (by first | exact Qw (by first | rfl | simp) | exact Qx (by first | rfl | simp) (by simp) ids_data | exact Qv (by simp [QX, QY]) | exact Qu (by simp) (by simp [QX, QY]))⟩, fun h => by simp at h, fun _ => ⟨_, rfl, (by first | exact Qw (by first | rfl | simp) | exact Qx (by first | rfl | simp) (by simp) ids_data | exact Qv (by simp [QX, QY]) | exact Qu (by simp) (by simp [QX, QY]))⟩, fun h => by simp at h, fun _ => ⟨_, rfl, (by first | exact Qw (by first | rfl | simp) | exact Qx (by first | rfl | simp) (by simp) ids_data | exact Qv (by simp [QX, QY]) | exact Qu (by simp) (by simp [QX, QY]))⟩, fun h => by simp at h, fun _ => ⟨_, rfl, RowLe.cells (VLess.one_ (VLes.cons_ (Qt (by rw [s1])) (VLes.cons_ (Qt (by rw [s1])) (VLes.nil_))))⟩, fun h => by simp at h, trivial⟩
    ·simp [wfV, QY, QX, lookR, grow]
    ·exact ⟨by simp [QX, QY, lookR], by simp [QX, QY, lookR], by simp [QX, QY, lookR], by simp [QX, QY, lookR], trivial⟩
 ·intro hb
  obtain rfl : m = 0 := by have := Qf hb; omega
  clear hb
  simp only [Nat.pow_zero, Nat.div_one]
  refine JK ?_
  simp only [zz6, QO, ↓Qb]
  refine hK0 _ ?_; try clear hK0 K0
  refine kpA [5, 6, 7] ?_
  refine JA fun K0 hK0 => ?_
  refine awp_draw F_mixed [some 54, some 55, some 4, none] rfl (by kernel_rfl) ?_
  simp only [zzK, QR, QP, QQ, JC, F_ok112, F_ag112, F_sz112, zz8, zz23, zzD, QS, QN, zzH, zzC, QA, yyE, Qe, JB, zz18, splice, QG, zz1, zzG, zz6, QO, ↓Qb]
  refine hK0 _ ?_; try clear hK0 K0
  refine kpA [4, 5] ?_
  refine JJ ?_
  simp only [zz6, QO, ↓Qb]
  refine done0 (by simp [resCs, resC, S, List.getD, JD, lookR, F_ag112, F_sz112, F_ok112]) ?_ (by simp [Ja, Jb, Jc, gA, uw]) (by simp [QY, QX, gA, uw])
  simp only [QD, QE, resA, JZ, S_mem, lookR_cons, lookR_nil, QR, QP, JD, QQ, Qd, Qc, JP, QI, QJ, QH, QL, QK, List.take_zero, F_ag112, F_sz112, F_ok112]
  simp [gA, uw]
theorem Mul64_ (x y : Int) (h0 : 0 ≤ x) (h1 : x < 18446744073709551616) (k0 : 0 ≤ y) (k1 : y < 18446744073709551616) : ACalls Try.prog 52 [.v (.int .u64 x), .v (.int .u64 y)] [] (.tp [.d (.v (.int .u64 (x * y / 18446744073709551616))), .d (.v (.int .u64 (x * y % 18446744073709551616)))]) := by
 refine acalls_S (rs := [.tmp 4, .tmp 5]) Try.func52 rfl rfl 51 [(0, .d (.v (.int .u64 x))), (1, .d (.v (.int .u64 y)))] rfl (by simp) rfl ?_
 refine JA fun K0 hK0 => ?_
 refine Qz F_mixed [some 4, some 5] rfl ?_
 simp only [zzK, QR, QP, QQ, JB, zz6, QO, ↓Qb]
 refine hK0 _ ?_; try clear hK0 K0
 refine kpA [0, 1] ?_
 refine JA fun K0 hK0 => ?_
 refine Qz F_mixed [some 14, some 15, some 6] rfl ?_
 simp only [zzK, QR, QP, QQ, JC, zz21, JM, b_and, pure_and, JB, mask32 h0 h1, zz6, QO, ↓Qb]
 refine hK0 _ ?_; try clear hK0 K0
 refine kpA [0, 1, 6] ?_
 refine JA fun K0 hK0 => ?_
 refine Qz F_mixed [some 16, some 17, some 7] rfl ?_
 simp only [zzK, QR, QP, QQ, JC, zz21, JM, b_shr, pure_shr, Int.reduceLT, Qk, JB, shr32 h0, zz6, QO, ↓Qb]
 refine hK0 _ ?_; try clear hK0 K0
 refine kpA [0, 1, 6, 7] ?_
 refine JA fun K0 hK0 => ?_
 refine Qz F_mixed [some 18, some 19, some 8] rfl ?_
 simp only [zzK, QR, QP, QQ, JC, zz21, JM, b_and, pure_and, JB, mask32 k0 k1, zz6, QO, ↓Qb]
 refine hK0 _ ?_; try clear hK0 K0
 refine kpA [0, 1, 6, 7, 8] ?_
 refine JA fun K0 hK0 => ?_
 refine Qz F_mixed [some 20, some 21, some 9] rfl ?_
 simp only [zzK, QR, QP, QQ, JC, zz21, JM, b_shr, pure_shr, Int.reduceLT, Qk, JB, shr32 k0, zz6, QO, ↓Qb]
 refine hK0 _ ?_; try clear hK0 K0
 refine kpA [0, 1, 6, 7, 8, 9] ?_
 refine JA fun K0 hK0 => ?_
 refine Qz F_mixed [some 22, some 23, some 24, some 10] rfl ?_
 simp only [zzK, QR, QP, QQ, JC, zz21, JM, zz36, JB, zz6, QO, ↓Qb]
 refine hK0 _ ?_; try clear hK0 K0
 refine kpA [0, 1, 6, 7, 8, 9, 10] ?_
 refine JA fun K0 hK0 => ?_
 refine Qz F_mixed [some 25, some 26, some 27, some 28, some 29, some 30, some 11] rfl ?_
 simp only [zzK, QR, QP, QQ, JC, zz21, JM, zz36, b_shr, pure_shr, Int.reduceLT, Qk, zz26, JB, shr32 (wu_nn _), zz6, QO, ↓Qb]
 refine hK0 _ ?_; try clear hK0 K0
 refine kpA [0, 1, 6, 7, 9, 11] ?_
 refine JA fun K0 hK0 => ?_
 refine Qz F_mixed [some 31, some 32, some 12] rfl ?_
 simp only [zzK, QR, QP, QQ, JC, zz21, JM, b_and, pure_and, JB, mask32 (wu_nn _) (wu_lt _), zz6, QO, ↓Qb]
 refine hK0 _ ?_; try clear hK0 K0
 refine kpA [0, 1, 6, 7, 9, 11, 12] ?_
 refine JA fun K0 hK0 => ?_
 refine Qz F_mixed [some 33, some 34, some 13] rfl ?_
 simp only [zzK, QR, QP, QQ, JC, zz21, JM, b_shr, pure_shr, Int.reduceLT, Qk, JB, shr32 (wu_nn _), zz6, QO, ↓Qb]
 refine hK0 _ ?_; try clear hK0 K0
 refine kpA [0, 1, 6, 7, 9, 12, 13] ?_
 refine JA fun K0 hK0 => ?_
 refine Qz F_mixed [some 35, some 36, some 37, some 38, some 39, some 12] rfl ?_
 simp only [zzK, QR, QP, QQ, JC, zz21, JM, zz36, zz26, JB, zz6, QO, ↓Qb]
 refine hK0 _ ?_; try clear hK0 K0
 refine kpA [0, 1, 7, 9, 12, 13] ?_
 refine JA fun K0 hK0 => ?_
 refine Qz F_mixed [some 40, some 41, some 42, some 43, some 44, some 45, some 46, some 47, some 4] rfl ?_
 simp only [zzK, QR, QP, QQ, JC, zz21, JM, zz36, zz26, b_shr, pure_shr, Int.reduceLT, Qk, JB, shr32 (wu_nn _), zz6, QO, ↓Qb]
 refine hK0 _ ?_; try clear hK0 K0
 refine kpA [0, 1, 4] ?_
 refine JA fun K0 hK0 => ?_
 refine Qz F_mixed [some 48, some 49, some 50, some 5] rfl ?_
 simp only [zzK, QR, QP, QQ, JC, zz21, JM, zz36, JB, zz6, QO, ↓Qb]
 refine hK0 _ ?_; try clear hK0 K0
 refine kpA [4, 5] ?_
 refine JJ ?_
 simp only [zz6, QO, ↓Qb]
 refine dnA ?_
 simp only [QD, QE, resA, JZ, QR, QP, JD, QQ, Qd, Qc, JP]
 rw [show x * y / 18446744073709551616 = hi64 x y from (hi64_eq h0 h1 k0 k1).symm, show x * y % 18446744073709551616 = Ql .u64 (x * y) from (wrapU_ _).symm]; rfl
theorem restCmp_ (a b : RestV) : ACalls Try.prog 67 [.agg (restC a), .agg (restC b)] [] (.d (iv (cmpG b.r a.r))) := by
 refine acalls_S (rs := [.tmp 4]) Try.func67 rfl rfl 10 [(0, .d (.agg (restC a))), (1, .d (.agg (restC b)))] rfl (by simp) rfl ?_
 refine JA fun K0 hK0 => ?_
 refine Qz F_mixed [some 2, some 3, some 4] rfl ?_
 simp only [zzK, QR, QP, QQ, zz35, JS, zz1, zzG, zzD, zzC, QA, yyE, Qe, QS, QN, zzH, JB, restC, uw, zz6, QO, ↓Qb]
 refine hK0 _ ?_; try clear hK0 K0
 refine kpA [2, 3] ?_
 refine JA fun K0 hK0 => ?_
 refine Qz F_mixed [some 5, some 6, some 7, some 8, some 9, some 4] rfl ?_
 simp only [zzK, QR, QP, QQ, zz19, zz23, F_off118_0, zzH, QN, QS, F_ok112, F_ag112, F_sz112, zz8, zzD, zzC, QA, yyE, Qe, JE, JF, JB, gC, uw, QW, zz6, QO, ↓Qb]
 refine JT F_go68 (fun hG => gCmp_ b.r a.r) (by simp [QY, QX]) (by simp) ?_
 simp only [zzK, QR, QP, QQ, zz19, zz23, F_off118_0, zzH, QN, QS, F_ok112, F_ag112, F_sz112, zz8, zzD, zzC, QA, yyE, Qe, JE, JF, JB, gC, uw, QW, zz6, QO, ↓Qb, atsL, oksG, JV, QZ, Qa, JO, Qm, QT, QS, zz9, QB, QA, S_mem, yyF, QF, zz2]
 refine hK0 _ ?_; try clear hK0 K0
 refine kpA [4] ?_
 refine JJ ?_
 simp only [zz6, QO, ↓Qb]
 refine dnA ?_
 simp only [QD, QE, resA, JZ, QR, QP, JD, QQ, Qd, Qc, JP]
 
theorem restSC : SC Try.prog 67 [] restCmp isRest 3 where
 go := ⟨_, Try.func67, rfl, rfl⟩
 call x y hx hy := by
  obtain ⟨a, rfl⟩ := hx
  obtain ⟨b, rfl⟩ := hy
  have h := restCmp_ a b
  simp only [restCmp, restD_C]
  exact h
 len x hx := by obtain ⟨b, rfl⟩ := hx; rfl
 flat x hx := by obtain ⟨b, rfl⟩ := hx; simp [restC, uw, flatDs, Jc]
 cell x hx := by obtain ⟨b, rfl⟩ := hx; simp [restC, uw, cell1s, AV.cell1, Value.oneCell']
 swo := restCmp_swo

theorem restSortC (T S : Nat) (l : List Int) (hl : l.length ≤ 19) : MCalls Try.prog 66 [.m 0, .d (.v (.func (.func 67) #[] #[]))] [⟨118, 3, (rsV T S l).map restC⟩] [⟨118, 3, (ordR T S l).map restC⟩] [] (.tp []) := by
 have e := mcalls_fn0 (sRest_sort restSC ((rsV T S l).map restC) (okM_rests _) (by simp [rsV_len]; omega))
 rw [sort_rests] at e
 exact e
theorem restFlat (L : List RestV) : ∀ x ∈ L.map restC, flatDs x := fun x hx => by
 obtain ⟨b, _, rfl⟩ := List.mem_map.1 hx
 simp [restC, uw, flatDs, Jc]

set_option maxRecDepth 100000 in
set_option maxHeartbeats 4000000 in
theorem split_ (t : Int) (l : List Int) (hl : l.length ≤ 19) : ACalls Try.prog 41 [iv t, ints l] [⟨3, 1, (splitV t l).map fun n => [iv n]⟩] (.tp [.ref 0 (splitV t l).length, .d (iv (splitE t l))]) := by
 refine acalls_S (rs := [.tmp 4, .tmp 5]) Try.func41 rfl rfl 103 [(0, .d (iv t)), (1, .d (ints l))] rfl (by simp) rfl ?_
 refine JA fun K0 hK0 => ?_
 refine Qz F_mixed [some 4, some 5] rfl ?_
 simp only [zzK, QR, QP, QQ, JB, zz6, QO, ↓Qb]
 refine hK0 _ ?_; try clear hK0 K0
 refine kpA [0, 1] ?_
 refine JA fun K0 hK0 => ?_
 refine Qz F_mixed [some 20, some 21, some 22, some 6] rfl ?_
 simp only [zzK, QR, QP, QQ, JC, JE, JF, JB, ints, zz6, QO, ↓Qb]
 refine JT F_go63 (fun hG => sRight_ t l (by omega)) (by simp [QY, QX]) (by simp) ?_
 simp only [zzK, QR, QP, QQ, JC, JE, JF, JB, ints, zz6, QO, ↓Qb, atsL, oksG, JV, QZ, Qa, JO, Qm, QT, QS, zz9, QB, QA, zzC, yyF, zzD, zz2]
 refine hK0 _ ?_; try clear hK0 K0
 refine kpA [0, 1, 6] ?_
 refine JA fun K0 hK0 => ?_
 refine JA fun K1 hK1 => ?_
 refine Qz F_mixed [some 23, some 24] rfl ?_
 simp only [zzK, QR, QP, QQ, JC, zz21, JM, zz28, zz6, QO, ↓Qb]
 refine hK1 _ ?_; try clear hK1 K1
 refine kpA [0, 1, 6, 24] ?_
 refine cnA ?_ ?_
 ·intro hb
  have hs : (sRE t l == 0) = false := by simpa using hb
  clear hb
  refine JA fun K2 hK2 => ?_
  refine Qz F_mixed [some 25, some 4, some 5] rfl ?_
  simp only [zzK, QR, QP, QQ, JC, JB, zz6, QO, ↓Qb]
  refine hK2 _ ?_; try clear hK2 K2
  refine kpA [4, 5] ?_
  refine awp_le (le_SK id [0] rfl (l' := [(4, .ref 0 0), (5, .d (iv (sRE t l)))]) (m' := [(0, (⟨True, 3, 1, true, true, 0, []⟩ : ARow))]) ?_ ?_ ?_ ?_) ?_
  ·simp only [leV, JD, QQ, Qd, Qc]; exact ⟨Qq (by decide), Qo rfl, trivial⟩
  ·exact ⟨fun h => by simp at h, fun _ => rfl, trivial⟩
  ·simp [wfV, QY, lookR]
  ·simp [wfR]
  refine JJ ?_
  simp only [zz6, QO, ↓Qb]
  rw [show splitV t l = [] by simp only [splitV, hs, Qc], show splitE t l = sRE t l by simp only [splitE, hs, Qc]]
  refine done1 0 (by simp only [resCs, resC]; trivial) ?_ (by simp [Ja, Jb, Jc]) (by simp [QY, QX]) (by rfl) trivial rfl rfl ?_ (by simp [flatDs, Jc])
  ·simp only [QD, QE, resA, JZ, QR, QP, JD, QQ, Qd, Qc, JP]; rfl
  ·rfl
 ·intro hb
  have hs : sRE t l = 0 := by simpa using hb
  clear hb
  obtain ⟨ht, hll, hl2⟩ := sRE_ok hs
  have hSl := sN_le hll
  have htt : ((t.toNat : Nat) : Int) = t := by omega
  have ht64 : Ql .u64 t = t := wrapU (by omega) (by omega)
  refine JI ?_
  simp only [zz6, QO, ↓Qb]
  refine hK0 _ ?_; try clear hK0 K0
  refine kpA [0, 1] ?_
  refine JA fun K0 hK0 => ?_
  refine Qz F_mixed [some 7] rfl ?_
  simp only [zzK, QR, QP, QQ, zz32, JS, F_zero112, zzC, QA, yyE, Qe, zzD, QS, QN, zzH, zz10, zz6, QO, ↓Qb]
  refine hK0 _ ?_; try clear hK0 K0
  refine kpA [0, 1, 7] ?_
  refine JA fun K0 hK0 => ?_
  refine JA fun K1 hK1 => ?_
  refine Qz F_mixed [some 26, some 27, some 28] rfl ?_
  simp only [zzK, QR, QP, QQ, JC, JE, zz12, F_sl90, Option.isSome_some, ints, JN, zz6, QO, ↓Qb]
  refine hK1 _ ?_; try clear hK1 K1
  refine kpA [0, 1, 7, 26, 27, 28] ?_
  refine JH ?_
  refine JL (fun m s => ∃ (pre : List Int) (post : List Int), (l = pre ++ post) ∧ m = post.length ∧ s = S 103 [(0, .d (iv t)), (1, .d (ints l)), (7, .ptr 7 0 0), (26, .d (ints l)), (27, .d (iv l.length)), (28, .d (iv pre.length))] [(7, (⟨True, 112, 2, true, false, 7, [[.d (.v (.int .u64 ((sN pre / 18446744073709551616 : Nat) : Int))), .d (.v (.int .u64 ((sN pre % 18446744073709551616 : Nat) : Int)))]]⟩ : ARow))]) (l.length) _ (le_SK id [] rfl (l' := [(0, .d (iv t)), (1, .d (ints l)), (7, .ptr 7 0 0), (26, .d (ints l)), (27, .d (iv l.length)), (28, .d (iv [].length))]) (m' := [(7, (⟨True, 112, 2, true, false, 7, [[.d (.v (.int .u64 ((sN [] / 18446744073709551616 : Nat) : Int))), .d (.v (.int .u64 ((sN [] % 18446744073709551616 : Nat) : Int)))]]⟩ : ARow))]) ?_ ?_ ?_ ?_) ⟨[], l, rfl, rfl, rfl⟩ ?_
  ·simp only [leV, JD, QQ, Qd, Qc]; exact ⟨(by first | exact Qo rfl | exact Qq (by decide) | exact Qp | exact Qn _ | exact Qs (by simp) (by rfl) | exact Qr (by simp) (by rfl) (by first | rfl | (simp; done) | (simp; omega)) | exact Qt (by first | rfl | simp)), (by first | exact Qo rfl | exact Qq (by decide) | exact Qp | exact Qn _ | exact Qs (by simp) (by rfl) | exact Qr (by simp) (by rfl) (by first | rfl | (simp; done) | (simp; omega)) | exact Qt (by first | rfl | simp)), (by first | exact Qo rfl | exact Qq (by decide) | exact Qp | exact Qn _ | exact Qs (by simp) (by rfl) | exact Qr (by simp) (by rfl) (by first | rfl | (simp; done) | (simp; omega)) | exact Qt (by first | rfl | simp)), (by first | exact Qo rfl | exact Qq (by decide) | exact Qp | exact Qn _ | exact Qs (by simp) (by rfl) | exact Qr (by simp) (by rfl) (by first | rfl | (simp; done) | (simp; omega)) | exact Qt (by first | rfl | simp)), (by first | exact Qo rfl | exact Qq (by decide) | exact Qp | exact Qn _ | exact Qs (by simp) (by rfl) | exact Qr (by simp) (by rfl) (by first | rfl | (simp; done) | (simp; omega)) | exact Qt (by first | rfl | simp)), (by first | exact Qo rfl | exact Qq (by decide) | exact Qp | exact Qn _ | exact Qs (by simp) (by rfl) | exact Qr (by simp) (by rfl) (by first | rfl | (simp; done) | (simp; omega)) | exact Qt (by first | rfl | simp)), trivial⟩
  ·exact ⟨fun _ => ⟨_, rfl, RowLe.cells (VLess.one_ (VLes.cons_ (Qt (by simp [sN])) (VLes.cons_ (Qt (by simp [sN])) (VLes.nil_))))⟩, fun h => by simp at h, trivial⟩
  ·simp [wfV, QY, QX, lookR, grow]
  ·exact ⟨by simp [QX, QY, lookR], trivial⟩
  rintro m s ⟨pre, post, hsp, rfl, rfl⟩
  have hspl := congrArg List.length hsp
  simp only [QC] at hspl
  refine JA fun K2 hK2 => ?_
  refine Qz F_mixed [some 29] rfl ?_
  simp only [zzK, QR, QP, QQ, zz21, JM, zz22, JN, zz6, QO, ↓Qb]
  refine hK2 _ ?_; try clear hK2 K2
  refine kpA [0, 1, 7, 26, 27, 28, 29] ?_
  refine JA fun K2 hK2 => ?_
  refine cnA ?_ ?_
  ·intro hb
   obtain ⟨x, post2, rfl⟩ : ∃ x t, post = x :: t := by
    cases post with
    | nil => have := Qg hb; simp at hspl; omega
    | cons x t => exact ⟨x, t, rfl⟩
   clear hb
   simp only [QF] at hspl
   have gx : (l.map (fun n => [iv n])).getD pre.length [] = [iv x] := by
    rw [hsp, List.map_append]; exact gd_mid' (A := pre.map (fun n => [iv n])) _ _ (by simp)
   have bx := ltI (show pre.length < l.length by omega)
   have hwx : Ql .i64 ((pre.length : Int) + 1) = ((pre ++ [x]).length : Int) := by rw [wrapI (by omega) (by omega)]; simp
   have hxb := hll x (by rw [hsp]; simp)
   have hx64 : Ql .u64 x = ((x.toNat : Nat) : Int) := by rw [wrapU (by omega) (by omega)]; omega
   have hsn := sN_snoc pre x
   have hsm := sN_le (l := pre) (fun y hy => hll y (by rw [hsp]; simp [hy]))
   refine JI ?_
   simp only [zz6, QO, ↓Qb]
   refine hK2 _ ?_; try clear hK2 K2
   refine kpA [0, 1, 7, 26, 27, 28] ?_
   refine JA fun K2 hK2 => ?_
   refine JH ?_
   refine JA fun K3 hK3 => ?_
   refine Qz F_mixed [some 30, some 31, some 9] rfl ?_
   simp only [zzK, QR, QP, QQ, JW, zz23, zz24, F_sl90, F_sz3, QA, zzC, yyE, Qe, F_ok3, F_ag3, zz8, zzD, QS, QN, zzH, JB, ints, gx, bx, hwx, JN, ge0, QV, QW, zz6, QO, ↓Qb]
   refine hK3 _ ?_; try clear hK3 K3
   refine kpA [0, 1, 7, 9, 26, 27, 28] ?_
   refine Qz F_mixed [some 32, some 33, some 34, some 35, none] rfl ?_
   simp only [zzK, QR, QP, QQ, F_ok112, F_ag112, F_sz112, zz8, zz23, zzD, QS, QN, zzH, zzC, QA, yyE, Qe, JC, zz27, JM, F_cv3_75, F_cvV75, JE, JF, zz18, splice, QG, zz1, zzG, hx64, gC, gA, uw, QW, zz6, QO, ↓Qb]
   refine JT F_go64 (fun hG => gPlus_ (sN pre) x.toNat (by omega) (by omega)) (by simp [QY, QX, gA]) (by simp) ?_
   simp only [zzK, QR, QP, QQ, F_ok112, F_ag112, F_sz112, zz8, zz23, zzD, QS, QN, zzH, zzC, QA, yyE, Qe, JC, zz27, JM, F_cv3_75, F_cvV75, JE, JF, zz18, splice, QG, zz1, zzG, hx64, gC, gA, uw, QW, zz6, QO, ↓Qb, atsL, oksG, JV, QZ, Qa, JO, Qm, QT, QS, zz9, QB, QA, S_mem, yyF, QF, zz2]
   try simp only [gA, uw, cellsOf_ag, cell1s_cons, cell1s_nil, cell1_int, QF, List.length_nil, splice, QH, List.take_zero]
   refine hK2 _ ?_; try clear hK2 K2
   refine kpA [0, 1, 7, 26, 27, 28] ?_
   refine Qz F_mixed [some 36, some 28] rfl ?_
   simp only [zzK, QR, QP, QQ, zz21, JM, zz26, JC, hwx, zz6, QO, ↓Qb]
   refine ⟨post2.length, _, by simp, le_SK id [] rfl (l' := [(0, .d (iv t)), (1, .d (ints l)), (7, .ptr 7 0 0), (26, .d (ints l)), (27, .d (iv l.length)), (28, .d (iv (pre ++ [x]).length))]) (m' := [(7, (⟨True, 112, 2, true, false, 7, [[.d (.v (.int .u64 ((sN (pre ++ [x]) / 18446744073709551616 : Nat) : Int))), .d (.v (.int .u64 ((sN (pre ++ [x]) % 18446744073709551616 : Nat) : Int)))]]⟩ : ARow))]) ?_ ?_ ?_ ?_, (pre ++ [x]), post2, by simp [hsp], rfl, rfl⟩
   ·simp only [leV, JD, QQ, Qd, Qc, hwx]; exact ⟨(by first | exact Qo rfl | exact Qq (by decide) | exact Qp | exact Qn _ | exact Qs (by simp) (by rfl) | exact Qr (by simp) (by rfl) (by first | rfl | (simp; done) | (simp; omega)) | exact Qt (by first | rfl | simp)), (by first | exact Qo rfl | exact Qq (by decide) | exact Qp | exact Qn _ | exact Qs (by simp) (by rfl) | exact Qr (by simp) (by rfl) (by first | rfl | (simp; done) | (simp; omega)) | exact Qt (by first | rfl | simp)), (by first | exact Qo rfl | exact Qq (by decide) | exact Qp | exact Qn _ | exact Qs (by simp) (by rfl) | exact Qr (by simp) (by rfl) (by first | rfl | (simp; done) | (simp; omega)) | exact Qt (by first | rfl | simp)), (by first | exact Qo rfl | exact Qq (by decide) | exact Qp | exact Qn _ | exact Qs (by simp) (by rfl) | exact Qr (by simp) (by rfl) (by first | rfl | (simp; done) | (simp; omega)) | exact Qt (by first | rfl | simp)), (by first | exact Qo rfl | exact Qq (by decide) | exact Qp | exact Qn _ | exact Qs (by simp) (by rfl) | exact Qr (by simp) (by rfl) (by first | rfl | (simp; done) | (simp; omega)) | exact Qt (by first | rfl | simp)), (by first | exact Qo rfl | exact Qq (by decide) | exact Qp | exact Qn _ | exact Qs (by simp) (by rfl) | exact Qr (by simp) (by rfl) (by first | rfl | (simp; done) | (simp; omega)) | exact Qt (by first | rfl | simp)), trivial⟩
   ·exact ⟨fun _ => ⟨_, rfl, RowLe.cells (VLess.one_ (VLes.cons_ (Qt (by rw [hsn])) (VLes.cons_ (Qt (by rw [hsn])) (VLes.nil_))))⟩, fun h => by simp at h, trivial⟩
   ·simp [wfV, QY, QX, lookR, grow]
   ·exact ⟨by simp [QX, QY, lookR], trivial⟩
  ·intro hb
   obtain rfl : post = [] := by
    cases post with
    | nil => rfl
    | cons x t => have := Qf hb; simp at hspl; omega
   clear hb
   simp only [QG] at hsp
   subst hsp
   refine JK ?_
   simp only [zz6, QO, ↓Qb]
   refine hK0 _ ?_; try clear hK0 K0
   refine kpA [0, 1, 7] ?_
   refine JA fun K0 hK0 => ?_
   refine JA fun K1 hK1 => ?_
   refine Qz F_mixed [some 37, some 38, some 39] rfl ?_
   simp only [zzK, QR, QP, QQ, F_ok112, F_ag112, F_sz112, zz8, zz23, zzD, QS, QN, zzH, zzC, QA, yyE, Qe, F_zero112, F_bld112, zz7, splice, Option.getD_some, QG, zz1, zzG, zz10, zz21, JM, gr_ag, gr_agg, grL_cons, grL_nil, grD_cons, grD_nil, b_eqla, b_neqa, F_eql112, uw, veqL, veq, sN_zero, Bool.and_true, zz6, QO, ↓Qb]
   refine hK1 _ ?_; try clear hK1 K1
   refine kpA [0, 1, 7, 39] ?_
   refine cnA ?_ ?_
   ·intro hb
    have hz : (sN l == 0) = true := hb
    clear hb
    refine JA fun K2 hK2 => ?_
    refine JA fun K3 hK3 => ?_
    refine Qz F_mixed [some 40, some 41] rfl ?_
    simp only [zzK, QR, QP, QQ, JC, zz21, JM, zz28, zz6, QO, ↓Qb]
    refine hK3 _ ?_; try clear hK3 K3
    refine kpA [1, 41] ?_
    refine cnA ?_ ?_
    ·intro hb
     have h0 : (t == 0) = false := by simpa using hb
     clear hb
     refine JA fun K4 hK4 => ?_
     refine Qz F_mixed [some 4, some 5] rfl ?_
     simp only [zzK, QR, QP, QQ, JB, zz6, QO, ↓Qb]
     refine hK4 _ ?_; try clear hK4 K4
     refine kpA [4, 5] ?_
     refine awp_le (le_SK id [0] rfl (l' := [(4, .ref 0 0), (5, .d (iv 2))]) (m' := [(0, (⟨True, 3, 1, true, true, 0, []⟩ : ARow))]) ?_ ?_ ?_ ?_) ?_
     ·simp only [leV, JD, QQ, Qd, Qc]; exact ⟨Qq (by decide), Qo rfl, trivial⟩
     ·exact ⟨fun h => by simp at h, fun _ => rfl, trivial⟩
     ·simp [wfV, QY, lookR]
     ·simp [wfR]
     refine JJ ?_
     simp only [zz6, QO, ↓Qb]
     rw [show splitV t l = [] by simp only [splitV, hs, hz, h0]; rfl, show splitE t l = 2 by simp only [splitE, hs, hz, h0]; rfl]
     refine done1 0 (by simp only [resCs, resC]; trivial) ?_ (by simp [Ja, Jb, Jc]) (by simp [QY, QX]) (by rfl) trivial rfl rfl ?_ (by simp [flatDs, Jc])
     ·simp only [QD, QE, resA, JZ, QR, QP, JD, QQ, Qd, Qc, JP]; rfl
     ·rfl
    ·intro hb
     have h0 : (t == 0) = true := by simpa using hb
     clear hb
     refine JI ?_
     simp only [zz6, QO, ↓Qb]
     refine hK2 _ ?_; try clear hK2 K2
     refine kpA [1] ?_
     refine JA fun K2 hK2 => ?_
     refine Qz F_mixed [some 42, some 43, some 44, some 4, some 5] rfl ?_
     simp only [zzK, QR, QP, QQ, JC, JE, zz12, F_sl90, Option.isSome_some, evS_makeSlice, msK_some, msZ_some, F_zero3, F_sz3, F_by3, JS, zz10, zzC, QA, yyE, Qe, zzD, QS, QN, zzH, JB, ints, JN, zz6, QO, ↓Qb]
     refine ⟨⟨by omega, by omega⟩, ?_⟩
     refine hK2 _ ?_; try clear hK2 K2
     refine kpA [4, 5] ?_
     refine JJ ?_
     simp only [zz6, QO, ↓Qb]
     rw [show splitV t l = zerosI l.length by simp only [splitV, hs, hz, h0]; rfl, show splitE t l = 0 by simp only [splitE, hs, hz, h0]; rfl, show (zerosI l.length).length = l.length by simp [zerosI]]
     refine done1 44 (by simp only [resCs, resC]; trivial) ?_ (by simp [Ja, Jb, Jc]) (by simp [QY, QX]) (by rfl) trivial rfl rfl ?_ (by simp [flatDs, Jc])
     ·simp only [QD, QE, resA, JZ, QR, QP, JD, QQ, Qd, Qc, JP]; rfl
     ·simp [zerosI]
   ·intro hb
    have hz : (sN l == 0) = false := hb
    clear hb
    have hS : 0 < sN l := Nat.pos_of_ne_zero (by simpa using hz)
    refine JI ?_
    simp only [zz6, QO, ↓Qb]
    refine hK0 _ ?_; try clear hK0 K0
    refine kpA [0, 1, 7] ?_
    refine JA fun K0 hK0 => ?_
    refine Qz F_mixed [some 10] rfl ?_
    simp only [zzK, QR, QP, QQ, JB, zz6, QO, ↓Qb]
    refine hK0 _ ?_; try clear hK0 K0
    refine kpA [0, 1, 7, 10] ?_
    refine JA fun K0 hK0 => ?_
    refine Qz F_mixed [some 11] rfl ?_
    simp only [zzK, QR, QP, QQ, JB, zz6, QO, ↓Qb]
    refine hK0 _ ?_; try clear hK0 K0
    refine kpA [0, 1, 7, 10, 11] ?_
    refine JA fun K0 hK0 => ?_
    refine Qz F_mixed [some 45, some 12] rfl ?_
    simp only [zzK, QR, QP, QQ, JC, JB, zz6, QO, ↓Qb]
    refine hK0 _ ?_; try clear hK0 K0
    refine kpA [0, 1, 7, 10, 11, 12] ?_
    refine JA fun K0 hK0 => ?_
    refine JA fun K1 hK1 => ?_
    refine Qz F_mixed [some 46, some 47, some 48] rfl ?_
    simp only [zzK, QR, QP, QQ, JC, JE, zz12, F_sl90, Option.isSome_some, ints, JN, zz6, QO, ↓Qb]
    refine hK1 _ ?_; try clear hK1 K1
    refine kpA [0, 7, 10, 11, 12, 46, 47, 48] ?_
    refine JH ?_
    refine JL (fun m s => ∃ (pre : List Int) (post : List Int), (l = pre ++ post) ∧ m = post.length ∧ s = S 103 [(0, .d (iv t)), (7, .ptr 7 0 0), (10, .ref 10 (qsV t.toNat (sN l) pre).length), (11, .ref 11 (rsV t.toNat (sN l) pre).length), (12, .d (iv (leftV t.toNat (sN l) pre))), (46, .d (ints l)), (47, .d (iv l.length)), (48, .d (iv pre.length))] [(7, (⟨True, 112, 2, true, false, 7, [[.d (.v (.int .u64 ((sN l / 18446744073709551616 : Nat) : Int))), .d (.v (.int .u64 ((sN l % 18446744073709551616 : Nat) : Int)))]]⟩ : ARow)), (10, grow 3 1 10 ((qsV t.toNat (sN l) pre).map fun n => [iv n])), (11, grow 118 3 11 ((rsV t.toNat (sN l) pre).map restC))]) (l.length) _ (le_SK id [10, 11] rfl (l' := [(0, .d (iv t)), (7, .ptr 7 0 0), (10, .ref 10 (qsV t.toNat (sN l) []).length), (11, .ref 11 (rsV t.toNat (sN l) []).length), (12, .d (iv (leftV t.toNat (sN l) []))), (46, .d (ints l)), (47, .d (iv l.length)), (48, .d (iv [].length))]) (m' := [(7, (⟨True, 112, 2, true, false, 7, [[.d (.v (.int .u64 ((sN l / 18446744073709551616 : Nat) : Int))), .d (.v (.int .u64 ((sN l % 18446744073709551616 : Nat) : Int)))]]⟩ : ARow)), (10, grow 3 1 10 ((qsV t.toNat (sN l) []).map fun n => [iv n])), (11, grow 118 3 11 ((rsV t.toNat (sN l) []).map restC))]) ?_ ?_ ?_ ?_) ⟨[], l, rfl, rfl, rfl⟩ ?_
    ·simp only [leV, JD, QQ, Qd, Qc]; exact ⟨(by first | exact Qo rfl | exact Qq (by decide) | exact Qp | exact Qn _ | exact Qs (by simp) (by rfl) | exact Qr (by simp) (by rfl) (by first | rfl | (simp; done) | (simp; omega)) | exact Qt (by first | rfl | simp)), (by first | exact Qo rfl | exact Qq (by decide) | exact Qp | exact Qn _ | exact Qs (by simp) (by rfl) | exact Qr (by simp) (by rfl) (by first | rfl | (simp; done) | (simp; omega)) | exact Qt (by first | rfl | simp)), (by first | exact Qo rfl | exact Qq (by decide) | exact Qp | exact Qn _ | exact Qs (by simp) (by rfl) | exact Qr (by simp) (by rfl) (by first | rfl | (simp; done) | (simp; omega)) | exact Qt (by first | rfl | simp)), (by first | exact Qo rfl | exact Qq (by decide) | exact Qp | exact Qn _ | exact Qs (by simp) (by rfl) | exact Qr (by simp) (by rfl) (by first | rfl | (simp; done) | (simp; omega)) | exact Qt (by first | rfl | simp)), (Qt (by simp [leftV, qsV, htt])), (by first | exact Qo rfl | exact Qq (by decide) | exact Qp | exact Qn _ | exact Qs (by simp) (by rfl) | exact Qr (by simp) (by rfl) (by first | rfl | (simp; done) | (simp; omega)) | exact Qt (by first | rfl | simp)), (by first | exact Qo rfl | exact Qq (by decide) | exact Qp | exact Qn _ | exact Qs (by simp) (by rfl) | exact Qr (by simp) (by rfl) (by first | rfl | (simp; done) | (simp; omega)) | exact Qt (by first | rfl | simp)), (by first | exact Qo rfl | exact Qq (by decide) | exact Qp | exact Qn _ | exact Qs (by simp) (by rfl) | exact Qr (by simp) (by rfl) (by first | rfl | (simp; done) | (simp; omega)) | exact Qt (by first | rfl | simp)), trivial⟩
    ·exact ⟨fun _ => ⟨_, rfl, (by first | exact Qw (by first | rfl | simp) | exact Qx (by first | rfl | simp) (by simp) ids_data | exact Qv (by simp [QX, QY]) | exact Qu (by simp) (by simp [QX, QY]))⟩, fun h => by simp at h, fun h => by simp at h, fun _ => rfl, fun h => by simp at h, fun _ => rfl, trivial⟩
    ·simp [wfV, QY, QX, lookR, grow]
    ·exact ⟨by simp [QX, QY, lookR], wf_data _ _, wf_data _ _, trivial⟩
    rintro m s ⟨pre, post, hsp, rfl, rfl⟩
    have hspl := congrArg List.length hsp
    simp only [QC] at hspl
    have hql := qsV_len t.toNat (sN l) pre
    have hrl := rsV_len t.toNat (sN l) pre
    refine JA fun K2 hK2 => ?_
    refine Qz F_mixed [some 49] rfl ?_
    simp only [zzK, QR, QP, QQ, zz21, JM, zz22, JN, zz6, QO, ↓Qb]
    refine hK2 _ ?_; try clear hK2 K2
    refine kpA [0, 7, 10, 11, 12, 46, 47, 48, 49] ?_
    refine JA fun K2 hK2 => ?_
    refine cnA ?_ ?_
    ·intro hb
     obtain ⟨x, post2, rfl⟩ : ∃ x t, post = x :: t := by
      cases post with
      | nil => have := Qg hb; simp at hspl; omega
      | cons x t => exact ⟨x, t, rfl⟩
     clear hb
     simp only [QF] at hspl
     have gx : (l.map (fun n => [iv n])).getD pre.length [] = [iv x] := by
      rw [hsp, List.map_append]; exact gd_mid' (A := pre.map (fun n => [iv n])) _ _ (by simp)
     have bx := ltI (show pre.length < l.length by omega)
     have hwx : Ql .i64 ((pre.length : Int) + 1) = ((pre ++ [x]).length : Int) := by rw [wrapI (by omega) (by omega)]; simp
     have hxb := hll x (by rw [hsp]; simp)
     have hx64 : Ql .u64 x = ((x.toNat : Nat) : Int) := by rw [wrapU (by omega) (by omega)]; omega
     have hxS : x.toNat ≤ sN l := w_le (by rw [hsp]; simp)
     have hqT := q_le (T := t.toNat) hxS
     have hmul : t * ((x.toNat : Nat) : Int) = ((t.toNat * x.toNat : Nat) : Int) := by rw [Int.natCast_mul, htt]
     have hhi : t * ((x.toNat : Nat) : Int) / 18446744073709551616 = ((t.toNat * x.toNat / 18446744073709551616 : Nat) : Int) := by rw [hmul]; generalize t.toNat * x.toNat = A; omega
     have hlo : t * ((x.toNat : Nat) : Int) % 18446744073709551616 = ((t.toNat * x.toNat % 18446744073709551616 : Nat) : Int) := by rw [hmul]; generalize t.toNat * x.toNat = A; omega
     have hTx : t.toNat * x.toNat < 340282366920938463463374607431768211456 := Nat.lt_of_le_of_lt (Nat.mul_le_mul (show t.toNat ≤ 4611686018427387904 by omega) (show x.toNat ≤ 4611686018427387904 by omega)) (by decide)
     have hqm : t.toNat * x.toNat / sN l % 18446744073709551616 = t.toNat * x.toNat / sN l := Nat.mod_eq_of_lt (by omega)
     have hq64 : Ql .i64 ((t.toNat * x.toNat / sN l : Nat) : Int) = ((t.toNat * x.toNat / sN l : Nat) : Int) := wrapI (by omega) (by omega)
     have hlb := left_mid (T := t.toNat) hS hsp
     have hls := leftV_snoc t.toNat (sN l) pre x
     have hlv : Ql .i64 (leftV t.toNat (sN l) pre - ((t.toNat * x.toNat / sN l : Nat) : Int)) = leftV t.toNat (sN l) (pre ++ [x]) := by
      rw [← hls]; exact wrapI (by omega) (by omega)
     refine JI ?_
     simp only [zz6, QO, ↓Qb]
     refine hK2 _ ?_; try clear hK2 K2
     refine kpA [0, 7, 10, 11, 12, 46, 47, 48] ?_
     refine JA fun K2 hK2 => ?_
     refine JH ?_
     refine JA fun K3 hK3 => ?_
     refine Qz F_mixed [some 50, some 51, some 52, some 13, some 14] rfl ?_
     simp only [zzK, QR, QP, QQ, JC, JW, zz23, zz24, F_sl90, F_sz3, QA, zzC, yyE, Qe, F_ok3, F_ag3, zz8, zzD, QS, QN, zzH, JB, ints, gx, bx, hwx, JN, ge0, QV, QW, zz6, QO, ↓Qb]
     refine hK3 _ ?_; try clear hK3 K3
     refine kpA [0, 7, 10, 11, 12, 13, 14, 46, 47, 48] ?_
     refine JA fun K3 hK3 => ?_
     refine Qz F_mixed [some 54, some 55, some 56, some 57, some 58, some 53, some 59, some 60, some 15, some 16] rfl ?_
     simp only [zzK, QR, QP, QQ, JC, zz27, JM, F_cv3_75, F_cvV75, JE, JF, zz14, zzD, QS, QN, zzF, JB, ht64, hx64, zz6, QO, ↓Qb]
     refine JT F_go52 (fun hG => Mul64_ t (x.toNat : Int) (by omega) (by omega) (by omega) (by omega)) (by simp [QY, QX]) (by simp) ?_
     simp only [zzK, QR, QP, QQ, JC, zz27, JM, F_cv3_75, F_cvV75, JE, JF, zz14, zzD, QS, QN, zzF, JB, ht64, hx64, zz6, QO, ↓Qb, atsL, oksG, JV, QZ, Qa, JO, Qm, QT, QS, zz9, QB, QA, zzC, yyF, QF, zz2]
     simp only [hhi, hlo]
     refine hK3 _ ?_; try clear hK3 K3
     refine kpA [0, 7, 10, 11, 12, 13, 15, 16, 46, 47, 48] ?_
     refine JA fun K3 hK3 => ?_
     refine Qz F_mixed [some 62, some 63, some 64, some 65, some 66, some 61, some 67, some 68, some 18, some 17, none] rfl ?_
     simp only [zzK, QR, QP, QQ, JC, F_zero112, F_bld112, zz7, splice, Option.getD_some, QG, zz1, zzG, zzD, zzC, QA, yyE, Qe, QS, QN, zzH, zz10, F_fld112_0, F_fld112_1, F_ok112, F_ag112, F_sz112, zz8, zz23, JE, JF, zz14, zz32, JS, JB, zz18, gC, gA, uw, QW, zz6, QO, ↓Qb]
     refine JT F_go65 (fun hG => gQuo_ (t.toNat * x.toNat) (sN l) hTx hS (by omega)) (by simp [QY, QX, gA]) (by simp) ?_
     simp only [zzK, QR, QP, QQ, JC, F_zero112, F_bld112, zz7, splice, Option.getD_some, QG, zz1, zzG, zzD, zzC, QA, yyE, Qe, QS, QN, zzH, zz10, F_fld112_0, F_fld112_1, F_ok112, F_ag112, F_sz112, zz8, zz23, JE, JF, zz14, zz32, JS, JB, zz18, gC, gA, uw, QW, zz6, QO, ↓Qb, atsL, oksG, JV, QZ, Qa, JO, Qm, QT, QS, zz9, QB, QA, S_mem, yyF, QF, zz2]
     simp only [gA, uw, hqm]
     refine hK3 _ ?_; try clear hK3 K3
     refine kpA [0, 7, 10, 11, 12, 13, 17, 18, 46, 47, 48] ?_
     refine JA fun K3 hK3 => ?_
     refine Qz F_mixed [some 69, some 70, some 71, some 72, some 73, some 10] rfl ?_
     simp only [zzK, QR, QP, QQ, JC, zz27, JM, F_cv75_3, F_cvV3, F_sl90, F_zero3, F_sz3, zz3, JS, zz1, zzG, zzD, zzC, QA, yyE, Qe, QS, QN, zzH, maxLen_le, QT, JE, F_by3, zz4, zz9, QB, JB, grow, unDs_map, hq64, zz6, QO, ↓Qb]
     have hm : (qsV t.toNat (sN l) pre).length + 1 ≤ 1000000 := by first | omega | (simp; omega)
     first | refine ⟨le_maxLen hm, by omega, ?_⟩ | refine ⟨by simp, le_maxLen hm, by omega, ?_⟩
     clear hm
     refine hK3 _ ?_; try clear hK3 K3
     refine kpA [0, 7, 10, 11, 12, 13, 17, 18, 46, 47, 48] ?_
     refine JA fun K3 hK3 => ?_
     refine Qz F_mixed [some 74, some 75, some 76, some 77, some 78, some 79, some 11] rfl ?_
     simp only [zzK, QR, QP, QQ, JC, F_ok112, F_ag112, F_sz112, zz8, zz23, zzD, QS, QN, zzH, zzC, QA, yyE, Qe, F_zero118, F_bld118, zz7, splice, Option.getD_some, QG, zz1, zzG, zz10, F_fld118_0, F_fld118_1, F_sl114, F_sz118, zz3, JS, maxLen_le, QT, JE, F_by118, zz4, zz9, QB, JB, grow, unDs_map, zz6, QO, ↓Qb]
     have hm : (rsV t.toNat (sN l) pre).length + 1 ≤ 1000000 := by first | omega | (simp; omega)
     first | refine ⟨le_maxLen hm, by omega, ?_⟩ | refine ⟨by simp, le_maxLen hm, by omega, ?_⟩
     clear hm
     refine hK3 _ ?_; try clear hK3 K3
     refine kpA [0, 7, 10, 11, 12, 17, 46, 47, 48] ?_
     refine Qz F_mixed [some 80, some 81, some 82, some 83, some 12] rfl ?_
     simp only [zzK, QR, QP, QQ, JC, zz27, JM, F_cv75_3, F_cvV3, zz21, zz33, JB, hq64, hlv, zz6, QO, ↓Qb]
     refine hK2 _ ?_; try clear hK2 K2
     refine kpA [0, 7, 10, 11, 12, 46, 47, 48] ?_
     refine Qz F_mixed [some 84, some 48] rfl ?_
     simp only [zzK, QR, QP, QQ, zz21, JM, zz26, JC, hwx, zz6, QO, ↓Qb]
     refine ⟨post2.length, _, by simp, le_SK (fun r => bif r == 11 then 79 else bif r == 10 then 73 else r) [] rfl (l' := [(0, .d (iv t)), (7, .ptr 7 0 0), (10, .ref 10 (qsV t.toNat (sN l) (pre ++ [x])).length), (11, .ref 11 (rsV t.toNat (sN l) (pre ++ [x])).length), (12, .d (iv (leftV t.toNat (sN l) (pre ++ [x])))), (46, .d (ints l)), (47, .d (iv l.length)), (48, .d (iv (pre ++ [x]).length))]) (m' := [(7, (⟨True, 112, 2, true, false, 7, [[.d (.v (.int .u64 ((sN l / 18446744073709551616 : Nat) : Int))), .d (.v (.int .u64 ((sN l % 18446744073709551616 : Nat) : Int)))]]⟩ : ARow)), (10, grow 3 1 10 ((qsV t.toNat (sN l) (pre ++ [x])).map fun n => [iv n])), (11, grow 118 3 11 ((rsV t.toNat (sN l) (pre ++ [x])).map restC))]) ?_ ?_ ?_ ?_, (pre ++ [x]), post2, by simp [hsp], rfl, rfl⟩
     ·simp only [leV, JD, QQ, Qd, Qc, hwx, hlv]; exact ⟨(by first | exact Qo rfl | exact Qq (by decide) | exact Qp | exact Qn _ | exact Qs (by simp) (by rfl) | exact Qr (by simp) (by rfl) (by first | rfl | (simp; done) | (simp; omega)) | exact Qt (by first | rfl | simp)), (by first | exact Qo rfl | exact Qq (by decide) | exact Qp | exact Qn _ | exact Qs (by simp) (by rfl) | exact Qr (by simp) (by rfl) (by first | rfl | (simp; done) | (simp; omega)) | exact Qt (by first | rfl | simp)), (Qr (by simp) (by rfl) (by rw [qsV_snoc]; simp)), (Qr (by simp) (by rfl) (by rw [rsV_snoc]; simp)), (by first | exact Qo rfl | exact Qq (by decide) | exact Qp | exact Qn _ | exact Qs (by simp) (by rfl) | exact Qr (by simp) (by rfl) (by first | rfl | (simp; done) | (simp; omega)) | exact Qt (by first | rfl | simp)), (by first | exact Qo rfl | exact Qq (by decide) | exact Qp | exact Qn _ | exact Qs (by simp) (by rfl) | exact Qr (by simp) (by rfl) (by first | rfl | (simp; done) | (simp; omega)) | exact Qt (by first | rfl | simp)), (by first | exact Qo rfl | exact Qq (by decide) | exact Qp | exact Qn _ | exact Qs (by simp) (by rfl) | exact Qr (by simp) (by rfl) (by first | rfl | (simp; done) | (simp; omega)) | exact Qt (by first | rfl | simp)), (by first | exact Qo rfl | exact Qq (by decide) | exact Qp | exact Qn _ | exact Qs (by simp) (by rfl) | exact Qr (by simp) (by rfl) (by first | rfl | (simp; done) | (simp; omega)) | exact Qt (by first | rfl | simp)), trivial⟩
     ·exact ⟨fun _ => ⟨_, rfl, (by first | exact Qw (by first | rfl | simp) | exact Qx (by first | rfl | simp) (by simp) ids_data | exact Qv (by simp [QX, QY]) | exact Qu (by simp) (by simp [QX, QY]))⟩, fun h => by simp at h, fun _ => ⟨_, rfl, Qw (by rw [qsV_snoc]; simp)⟩, fun h => by simp at h, fun _ => ⟨_, rfl, Qw (by rw [rsV_snoc]; simp only [List.map_append, QD, QE, restC, uw])⟩, fun h => by simp at h, trivial⟩
     ·simp [wfV, QY, QX, lookR, grow]
     ·exact ⟨by simp [QX, QY, lookR], wf_data _ _, wf_data _ _, trivial⟩
    ·intro hb
     obtain rfl : post = [] := by
      cases post with
      | nil => rfl
      | cons x t => have := Qf hb; simp at hspl; omega
     clear hb
     simp only [QG] at hsp
     subst hsp
     have hql := qsV_len t.toNat (sN l) l
     have hrl := rsV_len t.toNat (sN l) l
     have hOl := ordR_len t.toNat (sN l) l
     have hLb := left_bnd (T := t.toNat) hS
     refine awp_le (le_SK id [] rfl (l' := [(10, .ref 10 (qsV t.toNat (sN l) l).length), (11, .ref 11 (rsV t.toNat (sN l) l).length), (12, .d (iv (leftV t.toNat (sN l) l)))]) (m' := [(10, (⟨True, 3, 1, true, true, 10, ((qsV t.toNat (sN l) l).map fun n => [iv n]).map (·.map .d)⟩ : ARow)), (11, (⟨True, 118, 3, true, true, 11, ((rsV t.toNat (sN l) l).map restC).map (·.map .d)⟩ : ARow))]) ?_ ?_ ?_ ?_) ?_
     ·simp only [leV, JD, QQ, Qd, Qc]; exact ⟨(by first | exact Qo rfl | exact Qq (by decide) | exact Qp | exact Qn _ | exact Qs (by simp) (by rfl) | exact Qr (by simp) (by rfl) (by first | rfl | (simp; done) | (simp; omega)) | exact Qt (by first | rfl | simp)), (by first | exact Qo rfl | exact Qq (by decide) | exact Qp | exact Qn _ | exact Qs (by simp) (by rfl) | exact Qr (by simp) (by rfl) (by first | rfl | (simp; done) | (simp; omega)) | exact Qt (by first | rfl | simp)), (by first | exact Qo rfl | exact Qq (by decide) | exact Qp | exact Qn _ | exact Qs (by simp) (by rfl) | exact Qr (by simp) (by rfl) (by first | rfl | (simp; done) | (simp; omega)) | exact Qt (by first | rfl | simp)), trivial⟩
     ·exact ⟨fun _ => ⟨_, rfl, (by exact RowLe.uq_ (by rfl) rfl ids_data)⟩, fun h => by simp at h, fun _ => ⟨_, rfl, (by exact RowLe.uq_ (by rfl) rfl ids_data)⟩, fun h => by simp at h, trivial⟩
     ·simp [wfV, QY, QX, lookR, grow]
     ·exact ⟨wf_data _ _, wf_data _ _, trivial⟩
     refine JK ?_
     simp only [zz6, QO, ↓Qb]
     refine hK0 _ ?_; try clear hK0 K0
     refine kpA [10, 11, 12] ?_
     refine JA fun K0 hK0 => ?_
     refine awp_mut [some 85, some 86] rfl 1 rfl ?_
     simp only [zzK, QR, QP, QQ, JC, JE, JF, grow, JN, zzB, zz6, QO, ↓Qb]
     refine mut_go [11] F_go66 (restSortC t.toNat (sN l) l hl) (by simp [QY, QX, gA]) (by decide) (by first | exact ⟨by decide, by simp⟩ | rfl) ?_
     simp only [zzK, QR, QP, QQ, JC, JE, JF, grow, JN, zzB, zz6, QO, ↓Qb, mArgs_nil, asE_cl, asF_cl, asD_ptr, asG_ptr, asD_ep, asG_ep, List.mem_singleton, forall_eq, asEc_cons, asEc_nil, mArgs_d, mArgs_m, mRows_nil, mRows_cons, mNewL, nxM, mBase, mName, oksL, List.getElem?_cons_zero, List.getElem?_cons_succ, zzF, asE_ag, asE_d, asE_ref, asEc_cons, asEc_nil, asF_d, asF_ref, asF_ag, asGs, QY, QX, List.length_singleton, List.not_mem_nil, false_implies, forall_const, atsL, asD_self, asD_nil, asD_sl, asD_agg, asD_int, asD_bool, asD_func, asD_ag, asD_ref, asG_d, asG_ag, asG_ref, JV, QZ, Qa, JO, Qm, QT, QS, zz9, QB, QA, zzC, yyF, zzD, S_func, Sk_func]
     refine ⟨fun x hx => restFlat _ x hx, ?_⟩
     refine hK0 _ ?_; try clear hK0 K0
     refine kpA [10, 11, 12] ?_
     refine JA fun K0 hK0 => ?_
     refine JA fun K1 hK1 => ?_
     refine Qz F_mixed [some 87, some 88] rfl ?_
     simp only [zzK, QR, QP, QQ, JC, zz6, QO, ↓Qb]
     refine hK1 _ ?_; try clear hK1 K1
     refine kpA [10, 11, 87, 88] ?_
     refine JH ?_
     refine JL (fun m s => ∃ (A : List RestV) (B : List RestV), (ordR t.toNat (sN l) l = A ++ B) ∧ ((A.length : Int) ≤ leftV t.toNat (sN l) l) ∧ m = B.length ∧ s = S 103 [(10, .ref 10 (bumpV (qsV t.toNat (sN l) l) (A.map RestV.at_)).length), (11, .ref 11 (ordR t.toNat (sN l) l).length), (87, .d (iv (leftV t.toNat (sN l) l))), (88, .d (iv A.length))] [(10, (⟨True, 3, 1, true, true, 10, ((bumpV (qsV t.toNat (sN l) l) (A.map RestV.at_)).map fun n => [iv n]).map (·.map .d)⟩ : ARow)), (11, (⟨True, 118, 3, true, true, 11, ((ordR t.toNat (sN l) l).map restC).map (·.map .d)⟩ : ARow))]) ((ordR t.toNat (sN l) l).length) _ (le_SK id [] rfl (l' := [(10, .ref 10 (bumpV (qsV t.toNat (sN l) l) ([].map RestV.at_)).length), (11, .ref 11 (ordR t.toNat (sN l) l).length), (87, .d (iv (leftV t.toNat (sN l) l))), (88, .d (iv [].length))]) (m' := [(10, (⟨True, 3, 1, true, true, 10, ((bumpV (qsV t.toNat (sN l) l) ([].map RestV.at_)).map fun n => [iv n]).map (·.map .d)⟩ : ARow)), (11, (⟨True, 118, 3, true, true, 11, ((ordR t.toNat (sN l) l).map restC).map (·.map .d)⟩ : ARow))]) ?_ ?_ ?_ ?_) ⟨[], (ordR t.toNat (sN l) l), rfl, by simp; omega, rfl, rfl⟩ ?_
     ·simp only [leV, JD, QQ, Qd, Qc]; exact ⟨(Qr (by simp) (by rfl) (by rfl)), (Qr (by simp) (by rfl) (by rw [ordR_len, rsV_len])), (by first | exact Qo rfl | exact Qq (by decide) | exact Qp | exact Qn _ | exact Qs (by simp) (by rfl) | exact Qr (by simp) (by rfl) (by first | rfl | (simp; done) | (simp; omega)) | exact Qt (by first | rfl | simp)), (by first | exact Qo rfl | exact Qq (by decide) | exact Qp | exact Qn _ | exact Qs (by simp) (by rfl) | exact Qr (by simp) (by rfl) (by first | rfl | (simp; done) | (simp; omega)) | exact Qt (by first | rfl | simp)), trivial⟩
     ·exact ⟨fun _ => ⟨_, rfl, (by first | exact Qw (by first | rfl | simp) | exact Qx (by first | rfl | simp) (by simp) ids_data | exact Qv (by simp [QX, QY]) | exact Qu (by simp) (by simp [QX, QY]))⟩, fun h => by simp at h, fun _ => ⟨_, rfl, (by first | exact Qw (by first | rfl | simp) | exact Qx (by first | rfl | simp) (by simp) ids_data | exact Qv (by simp [QX, QY]) | exact Qu (by simp) (by simp [QX, QY]))⟩, fun h => by simp at h, trivial⟩
     ·simp [wfV, QY, QX, lookR, grow]
     ·exact ⟨wf_data _ _, wf_data _ _, trivial⟩
     rintro m s ⟨A, B, hAB, hAL, rfl, rfl⟩
     have hABl := congrArg List.length hAB
     simp only [QC] at hABl
     refine JA fun K2 hK2 => ?_
     refine Qz F_mixed [some 89] rfl ?_
     simp only [zzK, QR, QP, QQ, zz21, JM, zz22, zz6, QO, ↓Qb]
     refine hK2 _ ?_; try clear hK2 K2
     refine kpA [10, 11, 87, 88, 89] ?_
     refine JA fun K2 hK2 => ?_
     refine cnA ?_ ?_
     ·intro hb
      obtain ⟨y, B2, rfl⟩ : ∃ y t, B = y :: t := by
       cases B with
       | nil => have := Qg hb; simp at hABl; omega
       | cons y t => exact ⟨y, t, rfl⟩
      have hcL := Qg hb
      clear hb
      simp only [QF] at hABl
      obtain ⟨hy1, hy2, hy3⟩ := ord_mid (by omega) hAB
      have hwy : Ql .i64 ((A.length : Int) + 1) = ((A ++ [y]).length : Int) := by rw [wrapI (by omega) (by omega)]; simp
      have gy : (((ordR t.toNat (sN l) l).map restC).map fun x => x.map AV.d).getD A.length [] = [.d (uw (y.r / 18446744073709551616)), .d (uw (y.r % 18446744073709551616)), .d (iv (y.at_ : Int))] := by
       rw [hAB]; simp [List.getD, restC]
      have by1 := ltI (show A.length < (ordR t.toNat (sN l) l).length by omega)
      have hbl : (bumpV (qsV t.toNat (sN l) l) (A.map RestV.at_)).length = l.length := by rw [bumpV_len, qsV_len]
      have by2 := ltI (show y.at_ < (bumpV (qsV t.toNat (sN l) l) (A.map RestV.at_)).length by omega)
      have cy1 := eq_true (show A.length < (ordR t.toNat (sN l) l).length by omega)
      have cy2 := eq_true (show y.at_ < (bumpV (qsV t.toNat (sN l) l) (A.map RestV.at_)).length by omega)
      have hw1 : Ql .i64 ((bumpV (qsV t.toNat (sN l) l) (A.map RestV.at_)).getD y.at_ 0 + 1) = (bumpV (qsV t.toNat (sN l) l) (A.map RestV.at_)).getD y.at_ 0 + 1 := wrapI (by omega) (by omega)
      have gz : (((bumpV (qsV t.toNat (sN l) l) (A.map RestV.at_)).map fun n => [iv n]).map fun x => x.map AV.d).getD y.at_ [] = [.d (iv ((bumpV (qsV t.toNat (sN l) l) (A.map RestV.at_)).getD y.at_ 0))] := oneI_get (by omega)
      have hst : (((bumpV (qsV t.toNat (sN l) l) (A.map RestV.at_)).map fun n => [iv n]).map fun x => x.map AV.d).set y.at_ [.d (iv ((bumpV (qsV t.toNat (sN l) l) (A.map RestV.at_)).getD y.at_ 0 + 1))] = (((bumpV (qsV t.toNat (sN l) l) ((A ++ [y]).map RestV.at_)).map fun n => [iv n]).map fun x => x.map AV.d) := by
       rw [List.map_append, QD, QE, bumpV_snoc]; exact oneI_set _ _
      refine JI ?_
      simp only [zz6, QO, ↓Qb]
      refine hK2 _ ?_; try clear hK2 K2
      refine kpA [10, 11, 87, 88] ?_
      refine JA fun K2 hK2 => ?_
      refine JH ?_
      refine JA fun K3 hK3 => ?_
      refine Qz F_mixed [some 90, some 19] rfl ?_
      simp only [zzK, QR, QP, QQ, JC, JB, zz6, QO, ↓Qb]
      refine hK3 _ ?_; try clear hK3 K3
      refine kpA [10, 11, 19, 87, 88] ?_
      refine Qz F_mixed [some 91, some 92, some 93, some 94, some 95, some 96, some 97, some 98, some 99, some 100, none] rfl ?_
      simp only [zzK, QR, QP, QQ, JC, JW, zz23, zz24, F_sl114, F_sz118, QA, zzC, yyE, Qe, zz19, F_off118_1, zzH, QN, QS, F_ok3, F_ag3, F_sz3, zz8, zzD, F_sl90, zz21, JM, zz26, zz18, splice, QG, zz1, zzG, gy, by1, by2, cy1, cy2, gz, hw1, hst, ge0, QV, JN, QW, zz6, QO, ↓Qb]
      refine hK2 _ ?_; try clear hK2 K2
      refine kpA [10, 11, 87, 88] ?_
      refine Qz F_mixed [some 101, some 88] rfl ?_
      simp only [zzK, QR, QP, QQ, zz21, JM, zz26, JC, hwy, zz6, QO, ↓Qb]
      refine ⟨B2.length, _, by simp, le_SK id [] rfl (l' := [(10, .ref 10 (bumpV (qsV t.toNat (sN l) l) ((A ++ [y]).map RestV.at_)).length), (11, .ref 11 (ordR t.toNat (sN l) l).length), (87, .d (iv (leftV t.toNat (sN l) l))), (88, .d (iv (A ++ [y]).length))]) (m' := [(10, (⟨True, 3, 1, true, true, 10, ((bumpV (qsV t.toNat (sN l) l) ((A ++ [y]).map RestV.at_)).map fun n => [iv n]).map (·.map .d)⟩ : ARow)), (11, (⟨True, 118, 3, true, true, 11, ((ordR t.toNat (sN l) l).map restC).map (·.map .d)⟩ : ARow))]) ?_ ?_ ?_ ?_, (A ++ [y]), B2, by simp [hAB], by simp; omega, rfl, rfl⟩
      ·simp only [leV, JD, QQ, Qd, Qc, hwy]; exact ⟨(Qr (by simp) (by rfl) (by simp [bumpV_len])), (by first | exact Qo rfl | exact Qq (by decide) | exact Qp | exact Qn _ | exact Qs (by simp) (by rfl) | exact Qr (by simp) (by rfl) (by first | rfl | (simp; done) | (simp; omega)) | exact Qt (by first | rfl | simp)), (by first | exact Qo rfl | exact Qq (by decide) | exact Qp | exact Qn _ | exact Qs (by simp) (by rfl) | exact Qr (by simp) (by rfl) (by first | rfl | (simp; done) | (simp; omega)) | exact Qt (by first | rfl | simp)), (by first | exact Qo rfl | exact Qq (by decide) | exact Qp | exact Qn _ | exact Qs (by simp) (by rfl) | exact Qr (by simp) (by rfl) (by first | rfl | (simp; done) | (simp; omega)) | exact Qt (by first | rfl | simp)), trivial⟩
      ·exact ⟨fun _ => ⟨_, rfl, (by first | exact Qw (by first | rfl | simp) | exact Qx (by first | rfl | simp) (by simp) ids_data | exact Qv (by simp [QX, QY]) | exact Qu (by simp) (by simp [QX, QY]))⟩, fun h => by simp at h, fun _ => ⟨_, rfl, (by first | exact Qw (by first | rfl | simp) | exact Qx (by first | rfl | simp) (by simp) ids_data | exact Qv (by simp [QX, QY]) | exact Qu (by simp) (by simp [QX, QY]))⟩, fun h => by simp at h, trivial⟩
      ·simp [wfV, QY, QX, lookR, grow]
      ·exact ⟨wf_data _ _, wf_data _ _, trivial⟩
     ·intro hb
      have hA : A = (ordR t.toNat (sN l) l).take (leftV t.toNat (sN l) l).toNat := by
       have := Qf hb
       rw [hAB, List.take_append_of_le_length (by omega), List.take_of_length_le (by omega)]
      clear hb
      refine JK ?_
      simp only [zz6, QO, ↓Qb]
      refine hK0 _ ?_; try clear hK0 K0
      refine kpA [10] ?_
      refine JA fun K0 hK0 => ?_
      refine Qz F_mixed [some 102, some 4, some 5] rfl ?_
      simp only [zzK, QR, QP, QQ, JC, JB, zz6, QO, ↓Qb]
      refine hK0 _ ?_; try clear hK0 K0
      refine kpA [4, 5] ?_
      refine JJ ?_
      simp only [zz6, QO, ↓Qb]
      rw [show splitV t l = bumpV (qsV t.toNat (sN l) l) (A.map RestV.at_) by rw [splitV_prt hs hS, prt, atK, ← hA], splitE_prt hs hS]
      refine done1 10 (by simp only [resCs, resC]; trivial) ?_ (by simp [Ja, Jb, Jc]) (by simp [QY, QX]) (by rfl) trivial rfl rfl ?_ (by simp [flatDs, Jc])
      ·simp only [QD, QE, resA, JZ, QR, QP, JD, QQ, Qd, Qc, JP]; rfl
      ·rfl
theorem splitF21 (t : Int) (l : List Int) (hl : l.length ≤ 19) : ACalls Try.prog 41 [iv t, ints l] [] (.tp [.d (ints (splitV t l)), .d (iv (splitE t l))]) :=
 (split_ t l hl).freezeT (by simp [frzOk, frzOkL])
end Go.Proofs.Ytopifbpibkpmmaa
