import Derived.Test.YtopifbpibkpmmaaWpA
import Derived.Test.YtopifbpibkpmmaaWpC
namespace Go.Proofs.Ytopifbpibkpmmaa
open Go.RowKit
set_option linter.unusedVariables false
set_option linter.unusedSimpArgs false
open Option renaming map_some → QA, bind_some → QB
open List renaming length_append → QC, map_cons → QD, map_nil → QE, length_cons → QF, append_nil → QG, drop_zero → QH, getD_cons_zero → QI, getD_cons_succ → QJ, take_succ_cons → QK, drop_succ_cons → QL
open Nat renaming zero_add → QN, reduceEqDiff → QO, reduceLeDiff → QP, reduceBEq → QQ, reduceLT → QR, reduceAdd → QS, reduceMul → QT, reduceSub → QU
open Int renaming toNat_natCast → QV
open D.agg renaming injEq → QW
open AV renaming idsL → QX, ids → QY, ren → QZ, renL → Qa
open _root_ renaming reduceIte → Qb, cond_false → Qc, cond_true → Qd, reduceCtorEq → Qe, of_decide_eq_false → Qf, of_decide_eq_true → Qg, imp_self → Qh, imp_and → Qi, and_imp → Qj
open IntKind renaming wrap → Ql
open ORow renaming row → Qm
open VLe renaming refl → Qn, still → Qo, nild_ → Qp, nil_ → Qq, refE → Qr, ptrE → Qs, dE → Qt
open RowLe renaming same → Qu, still → Qv, data_ → Qw, uq2 → Qx
open Go.Proofs.Ytopifbpibkpmmaa renaming awp_plain → Qz, awp_seq → JA, evS_assign → JB, evS_move → JC, look_cons → JD, evS_call → JE, evC_value → JF, awp_block → JH, awp_skip → JI, awp_ret → JJ, awp_exit → JK, awp_loop → JL, gr_v → JM, len_map → JN, addRows → JO, resAll → JP, pickK_l → JQ, pickK_r → JR, newRow1 → JS, call_go → JT, freeN → JV, evS_indexAddr → JW, S_getD → JZ, flatA → Ja, flatAs → Jb, flatD → Jc
theorem F_off29_0 : offT Try.prog 29 0 = some 0 := by kernel_rfl
theorem F_off29_1 : offT Try.prog 29 1 = some 1 := by kernel_rfl
theorem F_off86_4 : offT Try.prog 86 4 = some 4 := by kernel_rfl
theorem F_off86_5 : offT Try.prog 86 5 = some 5 := by kernel_rfl
theorem F_off86_1 : offT Try.prog 86 1 = some 1 := by kernel_rfl
theorem F_off86_2 : offT Try.prog 86 2 = some 2 := by kernel_rfl
theorem F_off86_3 : offT Try.prog 86 3 = some 3 := by kernel_rfl
theorem F_zero29 : zeroT Try.prog 29 = some [(.int .i64 0), (.int .i64 0)] := by kernel_rfl
theorem F_bld29 : bldT Try.prog 29 = true := by kernel_rfl
theorem F_fld29_0 : fldT Try.prog 29 0 = some (0, 1) := by kernel_rfl
theorem F_fld29_1 : fldT Try.prog 29 1 = some (1, 1) := by kernel_rfl
theorem F_go59 : goFn Try.prog 59 := ⟨_, Try.func59, rfl, rfl⟩
theorem F_sl42 : sliceT Try.prog 42 = some 46 := by kernel_rfl
theorem F_sz46 : szT Try.prog 46 = 4 := by kernel_rfl
theorem F_ok46 : tyOk Try.prog 46 = true := by kernel_rfl
theorem F_ag46 : aggT Try.prog 46 = true := by kernel_rfl
theorem F_zero46 : zeroT Try.prog 46 = some [(.int .i64 0), (.int .i64 0), (.int .i64 0), (.int .i64 0)] := by kernel_rfl
theorem F_off46_0 : offT Try.prog 46 0 = some 0 := by kernel_rfl
theorem F_off46_1 : offT Try.prog 46 1 = some 2 := by kernel_rfl
theorem F_by3 : byT Try.prog 3 = 8 := by kernel_rfl
theorem F_go85 : goFn Try.prog 85 := ⟨_, Try.func85, rfl, rfl⟩
theorem F_off58_2 : offT Try.prog 58 2 = some 2 := by kernel_rfl
theorem F_ok42 : tyOk Try.prog 42 = true := by kernel_rfl
theorem F_ag42 : aggT Try.prog 42 = false := by kernel_rfl
theorem F_sz42 : szT Try.prog 42 = 1 := by kernel_rfl
theorem F_ok29 : tyOk Try.prog 29 = true := by kernel_rfl
theorem F_ag29 : aggT Try.prog 29 = true := by kernel_rfl
theorem F_sz29 : szT Try.prog 29 = 2 := by kernel_rfl
theorem F_off46_2 : offT Try.prog 46 2 = some 3 := by kernel_rfl
theorem F_go60 : goFn Try.prog 60 := ⟨_, Try.func60, rfl, rfl⟩
theorem F_off58_1 : offT Try.prog 58 1 = some 1 := by kernel_rfl
theorem F_ok56 : tyOk Try.prog 56 = true := by kernel_rfl
theorem F_ag56 : aggT Try.prog 56 = false := by kernel_rfl
theorem F_sz56 : szT Try.prog 56 = 1 := by kernel_rfl
theorem F_sl56 : sliceT Try.prog 56 = some 86 := by kernel_rfl
theorem F_sz86 : szT Try.prog 86 = 7 := by kernel_rfl
theorem F_ok86 : tyOk Try.prog 86 = true := by kernel_rfl
theorem F_ag86 : aggT Try.prog 86 = true := by kernel_rfl
theorem F_zero86 : zeroT Try.prog 86 = some [(.int .i64 0), (.int .i64 0), (.int .i64 0), (.int .i64 0), (.int .i64 0), (.int .i64 0), (.bool false)] := by kernel_rfl
theorem F_off86_0 : offT Try.prog 86 0 = some 0 := by kernel_rfl
theorem F_off58_0 : offT Try.prog 58 0 = some 0 := by kernel_rfl
theorem F_go61 : goFn Try.prog 61 := ⟨_, Try.func61, rfl, rfl⟩
theorem F_go62 : goFn Try.prog 62 := ⟨_, Try.func62, rfl, rfl⟩
theorem F_go95 : goFn Try.prog 95 := ⟨_, Try.func95, rfl, rfl⟩
theorem F_bld46 : bldT Try.prog 46 = true := by kernel_rfl
theorem F_fld46_0 : fldT Try.prog 46 0 = some (0, 2) := by kernel_rfl
theorem F_fld46_1 : fldT Try.prog 46 1 = some (2, 1) := by kernel_rfl
theorem F_fld46_2 : fldT Try.prog 46 2 = some (3, 1) := by kernel_rfl
theorem F_go84 : goFn Try.prog 84 := ⟨_, Try.func84, rfl, rfl⟩
theorem F_ag58 : aggT Try.prog 58 = true := by kernel_rfl
theorem F_sz58 : szT Try.prog 58 = 3 := by kernel_rfl
theorem F_ok58 : tyOk Try.prog 58 = true := by kernel_rfl
theorem F_zero58 : zeroT Try.prog 58 = some [(.int .i64 0), (.slice none 0 0), (.slice none 0 0)] := by kernel_rfl
theorem F_bld58 : bldT Try.prog 58 = true := by kernel_rfl
theorem F_fld58_0 : fldT Try.prog 58 0 = some (0, 1) := by kernel_rfl
theorem F_fld58_1 : fldT Try.prog 58 1 = some (1, 1) := by kernel_rfl
theorem F_fld58_2 : fldT Try.prog 58 2 = some (2, 1) := by kernel_rfl
theorem F_go93 : goFn Try.prog 93 := ⟨_, Try.func93, rfl, rfl⟩
theorem F_go94 : goFn Try.prog 94 := ⟨_, Try.func94, rfl, rfl⟩
theorem F_eqi29 (a0 b0 : Int) (a1 b1 : Int) (w : World) : (Op.equalIn 10000 29 (.agg #[.int .i64 a0, .int .i64 a1]) (.agg #[.int .i64 b0, .int .i64 b1])).run Try.prog w = .ok (veqL [.int .i64 a0, .int .i64 a1] [.int .i64 b0, .int .i64 b1]) w := by
 have u3 := Try.underlying3
 have g3 := Try.isAgg3
 have z3 := Try.sizeOf3
 have hS : Try.prog.underlying 29 = some (.struct (Try.prog.fieldsOf 29)) := by kernel_rfl
 have hp : Try.prog.stoodInHeld 29 = false := by kernel_rfl
 rw [show (10000 : Nat) = 9999 + 1 from rfl, run_equalIn_agg w 9999 29 _ _ hS hp]
 simp only [Program.fieldsOf, Try.underlying29]
 go_simp
 by_cases h0 : a0 = b0 <;> by_cases h1 : a1 = b1 <;> simp [veqL, veq, h0, h1]
theorem F_eql29 (a0 b0 : Int) (a1 b1 : Int) (x y : Operand) : pureBin Try.prog .eql 29 x y (.agg #[.int .i64 a0, .int .i64 a1]) (.agg #[.int .i64 b0, .int .i64 b1]) = True := by
 have hm : Try.prog.eqGuardType Try.prog.depth 29 = false := by kernel_rfl
 simp only [pureBin, Pure, eq_iff_iff, iff_true]
 intro w
 simp only [Sem.run_bind, run_eqGuard_agg w .eql 29 x y _ _ hm, Result.andThen_ok, run_eql_struct, F_eqi29, binV]
theorem F_sl145 : sliceT Try.prog 145 = some 42 := by kernel_rfl
theorem F_zero42 : zeroT Try.prog 42 = some [(.slice none 0 0)] := by kernel_rfl
theorem F_by46 : byT Try.prog 46 = 32 := by kernel_rfl
theorem F_go102 : goFn Try.prog 102 := ⟨_, Try.func102, rfl, rfl⟩
theorem keyOk_ (w n : Int) : ACalls Try.prog 59 [.agg [iv w, iv n]] [] (bv (keyOk w n)) := by
 refine acalls_S (rs := [.tmp 2]) Try.func59 rfl rfl 21 [(0, .d (.agg [iv w, iv n]))] rfl (by simp) rfl ?_
 refine JA fun K0 hK0 => ?_
 refine Qz F_mixed [some 1, some 2] rfl ?_
 simp only [zzK, QR, QP, QQ, zz35, JS, zz1, zzG, zzD, zzC, QA, yyE, Qe, QS, QN, zzH, JB, zz6, QO, ↓Qb]
 refine hK0 _ ?_; try clear hK0 K0
 refine kpA [1] ?_
 refine JA fun K0 hK0 => ?_
 refine Qz F_mixed [some 3, some 4, some 5, some 6, some 7, some 8, some 9, some 10, some 11, some 12, some 13, some 14, some 15, some 16, some 17, some 18, some 19, some 20, some 2] rfl ?_
 simp only [zzK, QR, QP, QQ, QU, JZ, zz5, Qj, Qi, Qh, zz19, zz23, F_off29_0, zzH, QN, QS, F_ok3, F_ag3, F_sz3, zz8, zzD, zzC, QA, yyE, Qe, zz21, JM, zz31, JC, b_leq, pure_leq, zz13, JQ, JR, F_off29_1, JB, zz6, QO, ↓Qb]
 refine hK0 _ ?_; try clear hK0 K0
 refine kpA [2] ?_
 refine JJ ?_
 simp only [zz6, QO, ↓Qb]
 refine dnA ?_
 simp only [QD, QE, resA, JZ, QR, QP, JD, QQ, Qd, Qc, JP]
 simp only [keyOk]
theorem bless_ (a b c d : Int) : ACalls Try.prog 60 [.agg [iv a, iv b], .agg [iv c, iv d]] [] (bv (keyLt a b c d)) := by
 refine acalls_S (rs := [.tmp 4]) Try.func60 rfl rfl 24 [(0, .d (.agg [iv a, iv b])), (1, .d (.agg [iv c, iv d]))] rfl (by simp) rfl ?_
 refine JA fun K0 hK0 => ?_
 refine Qz F_mixed [some 2, some 3, some 4] rfl ?_
 simp only [zzK, QR, QP, QQ, zz35, JS, zz1, zzG, zzD, zzC, QA, yyE, Qe, QS, QN, zzH, JB, zz6, QO, ↓Qb]
 refine hK0 _ ?_; try clear hK0 K0
 refine kpA [2, 3] ?_
 refine JA fun K0 hK0 => ?_
 refine Qz F_mixed [some 5, some 6, some 7, some 8, some 9, some 10, some 11, some 12, some 13, some 14, some 15, some 16, some 17, some 18, some 19, some 20, some 21, some 22, some 23, some 4] rfl ?_
 simp only [zzK, QR, QP, QQ, QU, JZ, zz5, Qj, Qi, Qh, zz19, zz23, F_off29_0, zzH, QN, QS, F_ok3, F_ag3, F_sz3, zz8, zzD, zzC, QA, yyE, Qe, zz21, JM, zz22, JC, zz34, F_off29_1, zz13, JQ, JR, JB, zz6, QO, ↓Qb]
 refine hK0 _ ?_; try clear hK0 K0
 refine kpA [4] ?_
 refine JJ ?_
 simp only [zz6, QO, ↓Qb]
 refine dnA ?_
 simp only [QD, QE, resA, JZ, QR, QP, JD, QQ, Qd, Qc, JP]
 simp only [keyLt]
theorem rtOk_ (t : TradeV) : ACalls Try.prog 61 [.agg (tradeC t)] [] (bv (rtOk t)) := by
 refine acalls_S (rs := [.tmp 2]) Try.func61 rfl rfl 44 [(0, .d (.agg (tradeC t)))] rfl (by simp) rfl ?_
 refine JA fun K0 hK0 => ?_
 refine Qz F_mixed [some 1, some 2] rfl ?_
 simp only [zzK, QR, QP, QQ, zz35, JS, zz1, zzG, zzD, zzC, QA, yyE, Qe, QS, QN, zzH, JB, tradeC, zz6, QO, ↓Qb]
 refine hK0 _ ?_; try clear hK0 K0
 refine kpA [1] ?_
 refine JA fun K0 hK0 => ?_
 refine Qz F_mixed [some 3, some 4, some 5, some 6, some 7, some 8, some 9, some 10, some 11, some 12, some 13, some 14, some 15, some 16, some 17, some 18, some 19, some 20, some 21, some 22, some 23, some 24, some 25, some 26, some 27, some 28, some 29, some 30, some 31, some 32, some 33, some 34, some 35, some 36, some 37, some 38, some 39, some 40, some 41, some 42, some 43, some 2] rfl ?_
 simp only [zzK, QR, QP, QQ, QU, JZ, zz5, Qj, Qi, Qh, zz19, zz23, F_off86_4, zzH, QN, QS, F_ok3, F_ag3, F_sz3, zz8, zzD, zzC, QA, yyE, Qe, zz21, JM, zz31, JC, b_leq, pure_leq, zz13, JQ, JR, F_off86_5, F_off86_1, F_off86_2, zz28, F_off86_3, F_zero29, F_bld29, zz7, splice, Option.getD_some, QG, zz1, zzG, zz10, F_fld29_0, F_fld29_1, JE, JF, JB, QW, zz6, QO, ↓Qb]
 refine JT F_go59 (fun hG => keyOk_ t.buyer t.inst) (by simp [QY, QX]) (by simp) ?_
 simp only [zzK, QR, QP, QQ, QU, JZ, zz5, Qj, Qi, Qh, zz19, zz23, F_off86_4, zzH, QN, QS, F_ok3, F_ag3, F_sz3, zz8, zzD, zzC, QA, yyE, Qe, zz21, JM, zz31, JC, b_leq, pure_leq, zz13, JQ, JR, F_off86_5, F_off86_1, F_off86_2, zz28, F_off86_3, F_zero29, F_bld29, zz7, splice, Option.getD_some, QG, zz1, zzG, zz10, F_fld29_0, F_fld29_1, JE, JF, JB, QW, zz6, QO, ↓Qb, atsL, oksG, JV, QZ, Qa, JO, Qm, QT, QS, zz9, QB, QA, S_mem, yyF, QF, zz2]
 refine JT F_go59 (fun hG => keyOk_ t.seller t.inst) (by simp [QY, QX]) (by simp) ?_
 simp only [zzK, QR, QP, QQ, QU, JZ, zz5, Qj, Qi, Qh, zz19, zz23, F_off86_4, zzH, QN, QS, F_ok3, F_ag3, F_sz3, zz8, zzD, zzC, QA, yyE, Qe, zz21, JM, zz31, JC, b_leq, pure_leq, zz13, JQ, JR, F_off86_5, F_off86_1, F_off86_2, zz28, F_off86_3, F_zero29, F_bld29, zz7, splice, Option.getD_some, QG, zz1, zzG, zz10, F_fld29_0, F_fld29_1, JE, JF, JB, QW, zz6, QO, ↓Qb, atsL, oksG, JV, QZ, Qa, JO, Qm, QT, QS, zz9, QB, QA, S_mem, yyF, QF, zz2]
 refine hK0 _ ?_; try clear hK0 K0
 refine kpA [2] ?_
 refine JJ ?_
 simp only [zz6, QO, ↓Qb]
 refine dnA ?_
 simp only [QD, QE, resA, JZ, QR, QP, JD, QQ, Qd, Qc, JP]
 simp only [rtOk]
theorem level_ (l : List PosV) (hl : l.length ≤ 500000) : ACalls Try.prog 62 [poss l] [] (bv (levelOk l)) := by
 refine acalls_S (rs := [.tmp 2]) Try.func62 rfl rfl 41 [(0, .d (poss l))] rfl (by simp) rfl ?_
 refine JA fun K0 hK0 => ?_
 refine Qz F_mixed [some 2] rfl ?_
 simp only [zzK, QR, QP, QQ, JB, zz6, QO, ↓Qb]
 refine hK0 _ ?_; try clear hK0 K0
 refine kpA [0] ?_
 refine JA fun K0 hK0 => ?_
 refine JA fun K1 hK1 => ?_
 refine Qz F_mixed [some 3] rfl ?_
 simp only [zzK, QR, QP, QQ, JB, zz6, QO, ↓Qb]
 refine hK1 _ ?_; try clear hK1 K1
 refine kpA [0, 3] ?_
 refine JH ?_
 refine JL (fun m s => ∃ k : Nat, k ≤ 8 ∧ levelTo l k = true ∧ m = 8 - k ∧ s = S 41 [(0, .d (poss l)), (3, .d (iv ((k : Nat) + 1 : Int)))] []) 8 _ (le_S0 (l' := [(0, .d (poss l)), (3, .d (iv ((0 : Nat) + 1 : Int)))]) ?_ ?_) ⟨0, by decide, rfl, rfl, rfl⟩ ?_
 ·simp only [leL, JD, QQ, Qd, Qc]; trivial
 ·simp [wfV, QY]
 rintro m s ⟨k, hk8, hlv, rfl, rfl⟩
 refine JA fun K2 hK2 => ?_
 refine JA fun K3 hK3 => ?_
 refine Qz F_mixed [some 9, some 10] rfl ?_
 simp only [zzK, QR, QP, QQ, JC, zz21, JM, b_leq, pure_leq, zz6, QO, ↓Qb]
 refine hK3 _ ?_; try clear hK3 K3
 refine kpA [0, 3, 10] ?_
 refine cnA ?_ ?_
 ·intro hb
  have hk : k < 8 := by simp at hb; omega
  clear hb
  have hw : Ql .i64 (((k : Nat) : Int) + 1 + 1) = (((k + 1 : Nat) : Int) + 1) := by rw [wrapI (by omega) (by omega)]; omega
  refine JI ?_
  simp only [zz6, QO, ↓Qb]
  refine hK2 _ ?_; try clear hK2 K2
  refine kpA [0, 3] ?_
  refine JA fun K2 hK2 => ?_
  refine JH ?_
  refine JA fun K3 hK3 => ?_
  refine Qz F_mixed [some 4] rfl ?_
  simp only [zzK, QR, QP, QQ, JB, zz6, QO, ↓Qb]
  refine hK3 _ ?_; try clear hK3 K3
  refine kpA [0, 3, 4] ?_
  refine JA fun K3 hK3 => ?_
  refine JA fun K4 hK4 => ?_
  refine Qz F_mixed [some 13, some 14, some 15] rfl ?_
  simp only [zzK, QR, QP, QQ, JC, JE, zz12, F_sl42, Option.isSome_some, poss, JN, zz6, QO, ↓Qb]
  refine hK4 _ ?_; try clear hK4 K4
  refine kpA [0, 3, 4, 13, 14, 15] ?_
  refine JH ?_
  refine JL (fun m s => ∃ pre post : List PosV, l = pre ++ post ∧ m = post.length ∧ s = S 41 [(0, .d (poss (pre ++ post))), (3, .d (iv ((k : Nat) + 1 : Int))), (4, .ref 4 (levelQ pre (k + 1)).length), (13, .d (poss (pre ++ post))), (14, .d (iv (pre ++ post).length)), (15, .d (iv pre.length))] [(4, grow 3 1 4 ((levelQ pre (k + 1)).map fun n => [iv n]))]) l.length _ (le_SK id [4] rfl (l' := [(0, .d (poss (([] : List PosV) ++ l))), (3, .d (iv ((k : Nat) + 1 : Int))), (4, .ref 4 (levelQ ([] : List PosV) (k + 1)).length), (13, .d (poss (([] : List PosV) ++ l))), (14, .d (iv (([] : List PosV) ++ l).length)), (15, .d (iv ([] : List PosV).length))]) (m' := [(4, grow 3 1 4 ((levelQ ([] : List PosV) (k + 1)).map fun n => [iv n]))]) ?_ ?_ ?_ ?_) ⟨[], l, rfl, rfl, rfl⟩ ?_
  ·simp only [leV, JD, QQ, Qd, Qc, poss, JN, List.nil_append]; exact ⟨Qo rfl, Qo rfl, Qq (by decide), Qo rfl, Qo rfl, Qo rfl, trivial⟩
  ·exact ⟨fun h => by simp at h, fun _ => rfl, trivial⟩
  ·simp [wfV, QY, lookR]
  ·simp [wfR, grow, levelQ]
  rintro m s ⟨pre, post, hsp, rfl, rfl⟩
  have hql := levelQ_len pre (k + 1)
  refine JA fun K5 hK5 => ?_
  refine Qz F_mixed [some 16] rfl ?_
  simp only [zzK, QR, QP, QQ, zz21, JM, zz22, zz6, QO, ↓Qb]
  refine hK5 _ ?_; try clear hK5 K5
  refine kpA [0, 3, 4, 13, 14, 15, 16] ?_
  refine JA fun K5 hK5 => ?_
  refine cnA ?_ ?_
  ·intro hb
   obtain ⟨x, post, rfl⟩ := more_of hb; clear hb
   refine JI ?_
   simp only [zz6, QO, ↓Qb]
   refine hK5 _ ?_; try clear hK5 K5
   refine kpA [0, 3, 4, 13, 14, 15] ?_
   refine JA fun K5 hK5 => ?_
   refine JH ?_
   refine JA fun K6 hK6 => ?_
   refine Qz F_mixed [some 17, some 18, some 6, none] rfl ?_
   simp only [zzK, QR, QP, QQ, JW, zz23, zz24, F_sl42, F_sz46, QA, zzC, yyE, Qe, F_ok46, F_ag46, zz8, zzD, QS, QN, zzH, zz32, JS, F_zero46, zz10, zz18, splice, QG, zz1, zzG, poss, posC, getD_mid, JN, lt_mid, ge_mid, zz6, QO, ↓Qb]
   refine hK6 _ ?_; try clear hK6 K6
   refine kpA [0, 3, 4, 6, 13, 14, 15] ?_
   refine JA fun K6 hK6 => ?_
   refine Qz F_mixed [some 19, some 20, some 21, some 22, some 23] rfl ?_
   simp only [zzK, QR, QP, QQ, zz19, zz23, F_off46_0, zzH, QN, QS, F_off29_1, F_ok3, F_ag3, F_sz3, zz8, zzD, zzC, QA, yyE, Qe, JC, zz21, JM, zz34, zz6, QO, ↓Qb]
   refine hK6 _ ?_; try clear hK6 K6
   refine kpA [0, 3, 4, 6, 13, 14, 15, 23] ?_
   refine cnA ?_ ?_
   ·intro hb
    have hs : (x.inst == ((k : Nat) + 1 : Int)) = true := hb
    clear hb
    refine Qz F_mixed [some 24, some 25, some 26, some 27, some 28, some 4] rfl ?_
    simp only [zzK, QR, QP, QQ, JC, zz19, zz23, F_off46_1, zzH, QN, QS, F_ok3, F_ag3, F_sz3, zz8, zzD, zzC, QA, yyE, Qe, F_sl90, F_zero3, zz3, JS, zz1, zzG, maxLen_le, QT, JE, F_by3, zz4, zz9, QB, JB, poss, posC, getD_mid, JN, lt_mid, ge_mid, grow, unDs_map, zz6, QO, ↓Qb]
    have hm : (levelQ pre (k + 1)).length + 1 ≤ 1000000 := by have e := congrArg List.length hsp; simp only [QC, QF] at e; omega
    first | refine ⟨le_maxLen hm, by omega, ?_⟩ | refine ⟨by simp, le_maxLen hm, by omega, ?_⟩
    clear hm
    refine hK5 _ ?_; try clear hK5 K5
    refine kpA [0, 3, 4, 13, 14, 15] ?_
    refine Qz F_mixed [some 29, some 15] rfl ?_
    simp only [zzK, QR, QP, QQ, zz21, JM, zz26, JC, zz6, QO, ↓Qb]
    refine ⟨post.length, _, by simp, le_SK (fun r => bif r == 4 then 28 else r) [] rfl (l' := [(0, .d (poss ((pre ++ [x]) ++ post))), (3, .d (iv ((k : Nat) + 1 : Int))), (4, .ref 4 (levelQ (pre ++ [x]) (k + 1)).length), (13, .d (poss ((pre ++ [x]) ++ post))), (14, .d (iv ((pre ++ [x]) ++ post).length)), (15, .d (iv (pre ++ [x]).length))]) (m' := [(4, grow 3 1 4 ((levelQ (pre ++ [x]) (k + 1)).map fun n => [iv n]))]) ?_ ?_ ?_ ?_, pre ++ [x], post, by simp [hsp], rfl, rfl⟩
    ·simp only [leV, JD, QQ, Qd, Qc, poss, JN, List.append_assoc, List.singleton_append, wrap_len pre x (by have e := congrArg List.length hsp; simp only [QC, QF, List.length_map] at e; omega)]
     refine ⟨Qo rfl, Qo rfl, ?_, Qo rfl, Qo rfl, Qo rfl, trivial⟩
     rw [levelQ_yes hs]
     rw [show (AV.ref 28 _ : AV) = .ref ((fun r => bif r == 4 then 28 else r) 4) (levelQ pre (k + 1) ++ [x.qty]).length from by simp]; try exact VLe.ref_ (f := (fun r => bif r == 4 then 28 else r)) (r := 4) (by simp)
    ·exact ⟨fun _ => ⟨_, rfl, Qw (by rw [levelQ_yes hs] <;> simp)⟩, fun h => by simp at h, trivial⟩
    ·simp [wfV, QY, lookR, grow]
    ·exact ⟨wf_data _ _, trivial⟩
   ·intro hb
    have hs : (x.inst == ((k : Nat) + 1 : Int)) = false := hb
    clear hb
    refine JI ?_
    simp only [zz6, QO, ↓Qb]
    refine hK5 _ ?_; try clear hK5 K5
    refine kpA [0, 3, 4, 13, 14, 15] ?_
    refine Qz F_mixed [some 29, some 15] rfl ?_
    simp only [zzK, QR, QP, QQ, zz21, JM, zz26, JC, zz6, QO, ↓Qb]
    refine ⟨post.length, _, by simp, le_SK (fun r => bif r == 4 then 4 else r) [] rfl (l' := [(0, .d (poss ((pre ++ [x]) ++ post))), (3, .d (iv ((k : Nat) + 1 : Int))), (4, .ref 4 (levelQ (pre ++ [x]) (k + 1)).length), (13, .d (poss ((pre ++ [x]) ++ post))), (14, .d (iv ((pre ++ [x]) ++ post).length)), (15, .d (iv (pre ++ [x]).length))]) (m' := [(4, grow 3 1 4 ((levelQ (pre ++ [x]) (k + 1)).map fun n => [iv n]))]) ?_ ?_ ?_ ?_, pre ++ [x], post, by simp [hsp], rfl, rfl⟩
    ·simp only [leV, JD, QQ, Qd, Qc, poss, JN, List.append_assoc, List.singleton_append, wrap_len pre x (by have e := congrArg List.length hsp; simp only [QC, QF, List.length_map] at e; omega)]
     refine ⟨Qo rfl, Qo rfl, ?_, Qo rfl, Qo rfl, Qo rfl, trivial⟩
     rw [levelQ_no hs]
     rw [show (AV.ref 4 _ : AV) = .ref ((fun r => bif r == 4 then 4 else r) 4) (levelQ pre (k + 1)).length from by simp]; try exact VLe.ref_ (f := (fun r => bif r == 4 then 4 else r)) (r := 4) (by simp)
    ·exact ⟨fun _ => ⟨_, rfl, Qw (by rw [levelQ_no hs] <;> simp)⟩, fun h => by simp at h, trivial⟩
    ·simp [wfV, QY, lookR, grow]
    ·exact ⟨wf_data _ _, trivial⟩
  ·intro hb
   obtain rfl := none_of hb; clear hb
   simp only [QG] at hsp ⊢
   obtain rfl : l = pre := hsp
   refine JK ?_
   simp only [zz6, QO, ↓Qb]
   refine hK3 _ ?_; try clear hK3 K3
   refine kpA [0, 3, 4] ?_
   refine JA fun K3 hK3 => ?_
   refine Qz F_mixed [some 31, some 32, some 30, some 33, some 34, some 7, some 8] rfl ?_
   simp only [zzK, QR, QP, QQ, JC, JE, JF, zz14, zzD, QS, QN, zzF, JB, ints, grow, JN, zz6, QO, ↓Qb]
   refine JT F_go85 (fun hG => Sum_ (levelQ l (k + 1)) (by omega)) (by simp [QY, QX]) (by simp) ?_
   simp only [zzK, QR, QP, QQ, JC, JE, JF, zz14, zzD, QS, QN, zzF, JB, ints, grow, JN, zz6, QO, ↓Qb, atsL, oksG, JV, QZ, Qa, JO, Qm, QT, QS, zz9, QB, QA, zzC, yyF, QF, zz2]
   try refine ⟨by simp, ?_⟩
   refine hK3 _ ?_; try clear hK3 K3
   refine kpA [0, 3, 7, 8] ?_
   refine JA fun K3 hK3 => ?_
   refine Qz F_mixed [some 35, some 36, some 37, some 38, some 39, some 40] rfl ?_
   simp only [zzK, QR, QP, QQ, QU, JZ, zz5, Qj, Qi, Qh, and_self, JC, zz21, JM, zz28, zz13, JQ, JR, zz6, QO, ↓Qb]
   refine hK3 _ ?_; try clear hK3 K3
   refine kpA [0, 3, 40] ?_
   refine cnA ?_ ?_
   ·intro hb
    have hli : levelI l (k + 1) = false := lev_f hb
    clear hb
    refine JA fun K4 hK4 => ?_
    refine Qz F_mixed [some 2] rfl ?_
    simp only [zzK, QR, QP, QQ, JB, zz6, QO, ↓Qb]
    refine hK4 _ ?_; try clear hK4 K4
    refine kpA [2] ?_
    refine JJ ?_
    simp only [zz6, QO, ↓Qb]
    refine dnA ?_
    simp only [QD, QE, resA, JZ, QR, QP, JD, QQ, Qd, Qc, JP]
    rw [levelTo_false hk hli]
   ·intro hb
    have hli : levelI l (k + 1) = true := lev_t hb
    clear hb
    refine JI ?_
    simp only [zz6, QO, ↓Qb]
    refine hK2 _ ?_; try clear hK2 K2
    refine kpA [0, 3] ?_
    refine Qz F_mixed [some 11, some 12, some 3] rfl ?_
    simp only [zzK, QR, QP, QQ, JC, zz21, JM, zz26, JB, zz6, QO, ↓Qb]
    refine ⟨8 - (k + 1), _, by omega, le_S0 (l' := [(0, .d (poss l)), (3, .d (iv (((k + 1) : Nat) + 1 : Int)))]) ?_ ?_, k + 1, by omega, by rw [levelTo_succ, hlv, hli]; rfl, rfl, rfl⟩
    ·simp only [leL, JD, QQ, Qd, Qc, hw]; trivial
    ·simp [wfV, QY]
 ·intro hb
  have hk : k = 8 := by simp at hb; omega
  clear hb
  subst hk
  refine JK ?_
  simp only [zz6, QO, ↓Qb]
  refine hK0 _ ?_; try clear hK0 K0
  refine kpA [] ?_
  refine JA fun K0 hK0 => ?_
  refine Qz F_mixed [some 2] rfl ?_
  simp only [zzK, QR, QP, QQ, JB, zz6, QO, ↓Qb]
  refine hK0 _ ?_; try clear hK0 K0
  refine kpA [2] ?_
  refine JJ ?_
  simp only [zz6, QO, ↓Qb]
  refine dnA ?_
  simp only [QD, QE, resA, JZ, QR, QP, JD, QQ, Qd, Qc, JP]
  rw [show levelOk l = true from hlv]
set_option maxRecDepth 100000 in
set_option maxHeartbeats 4000000 in
theorem bCheck_ (nx : Int) (ts : List TradeV) (ps : List PosV) (ht : ts.length ≤ 500000) (hp : ps.length ≤ 500000) : ACalls Try.prog 39 [.agg (bookC ⟨nx, ts, ps⟩)] [] (.d (iv (bookE ⟨nx, ts, ps⟩))) := by
 refine acalls_S (rs := [.tmp 2]) Try.func39 rfl rfl 124 [(0, .d (.agg (bookC ⟨nx, ts, ps⟩)))] rfl (by simp) rfl ?_
 refine JA fun K0 hK0 => ?_
 refine Qz F_mixed [some 1, some 2] rfl ?_
 simp only [zzK, QR, QP, QQ, zz35, JS, zz1, zzG, zzD, zzC, QA, yyE, Qe, QS, QN, zzH, JB, bookC, tradesB, poss, zz6, QO, ↓Qb]
 refine hK0 _ ?_; try clear hK0 K0
 refine kpA [1] ?_
 refine JA fun K0 hK0 => ?_
 refine JA fun K1 hK1 => ?_
 refine Qz F_mixed [some 7, some 8, some 9, some 10] rfl ?_
 simp only [zzK, QR, QP, QQ, zz19, zz23, F_off58_2, zzH, QN, QS, F_ok42, F_ag42, F_sz42, zz8, zzD, zzC, QA, yyE, Qe, JE, zz12, F_sl42, Option.isSome_some, JC, JN, zz6, QO, ↓Qb]
 refine hK1 _ ?_; try clear hK1 K1
 refine kpA [1, 8, 9, 10] ?_
 refine JH ?_
 refine JL (fun m s => ∃ pre post : List PosV, ps = pre ++ post ∧ chkR posOk pLt none ps = chkR posOk pLt pre.getLast? post ∧ m = post.length ∧ s = S 124 [(1, .ptr 1 0 0), (8, .d (.sl 4 (ps.map posC))), (9, .d (iv ps.length)), (10, .d (iv pre.length))] [(1, (⟨True, 58, 3, true, false, 1, [[.d (iv nx), .d (.sl 7 (ts.map tradeC)), .d (.sl 4 (ps.map posC))]]⟩ : ARow))]) ps.length _ (le_SK id [] rfl (l' := [(1, .ptr 1 0 0), (8, .d (.sl 4 (ps.map posC))), (9, .d (iv ps.length)), (10, .d (iv ([] : List PosV).length))]) (m' := [(1, (⟨True, 58, 3, true, false, 1, [[.d (iv nx), .d (.sl 7 (ts.map tradeC)), .d (.sl 4 (ps.map posC))]]⟩ : ARow))]) ?_ ?_ ?_ ?_) ⟨[], ps, rfl, rfl, rfl, rfl⟩ ?_
 ·simp only [leV, JD, QQ, Qd, Qc, JN]; exact ⟨Qn _, Qn _, Qn _, Qn _, trivial⟩
 ·exact ⟨fun _ => ⟨_, rfl, ⟨id, rfl, rfl, fun _ => rfl, id, .inl, VLess.refl _⟩⟩, fun h => by simp at h, trivial⟩
 ·simp [wfV, QY, QX, lookR]
 ·simp [wfR, QX, QY]
 rintro m s ⟨pre, post, rfl, hck, rfl, rfl⟩
 refine JA fun K2 hK2 => ?_
 refine Qz F_mixed [some 11] rfl ?_
 simp only [zzK, QR, QP, QQ, zz21, JM, zz22, zz6, QO, ↓Qb]
 refine hK2 _ ?_; try clear hK2 K2
 refine kpA [1, 8, 9, 10, 11] ?_
 refine JA fun K2 hK2 => ?_
 refine cnA ?_ ?_
 ·intro hb
  obtain ⟨x, post, rfl⟩ := more_of hb; clear hb
  have hpp : pre.length < 4611686018427387904 := by simp at hp; omega
  have hpg := prev_get posC pre post x [] hpp
  refine JI ?_
  simp only [zz6, QO, ↓Qb]
  refine hK2 _ ?_; try clear hK2 K2
  refine kpA [1, 8, 9, 10] ?_
  refine JA fun K2 hK2 => ?_
  refine JH ?_
  refine JA fun K3 hK3 => ?_
  refine Qz F_mixed [some 12, some 13, some 14, some 4, some 3, none] rfl ?_
  simp only [zzK, QR, QP, QQ, JC, JW, zz23, zz24, F_sl42, F_sz46, QA, zzC, yyE, Qe, F_ok46, F_ag46, zz8, zzD, QS, QN, zzH, zz32, JS, F_zero46, zz10, JB, zz18, splice, QG, zz1, zzG, posC, getD_mid, JN, lt_mid, ge_mid, zz6, QO, ↓Qb]
  refine hK3 _ ?_; try clear hK3 K3
  refine kpA [1, 3, 4, 8, 9, 10] ?_
  refine JA fun K3 hK3 => ?_
  refine awp_draw F_mixed [some 15, some 16, some 17, some 18, some 19, some 20, some 21, some 22, some 23, some 24, some 25, some 26, some 27, some 28, some 29, some 30, some 31, some 32, some 33, some 34, some 35, some 36, some 37, some 38, some 39, some 40, some 41, some 42, some 43, some 44, some 45, some 46, some 47, some 48, some 49, some 50, some 51, some 52, some 53, some 54, some 55, some 56, some 57, some 58, some 59, some 60, some 61, some 62] rfl (by kernel_rfl) ?_
  simp only [zzK, QR, QP, QQ, QU, JZ, zz5, Qj, Qi, Qh, zz19, zz23, F_off46_0, zzH, QN, QS, F_ok29, F_ag29, F_sz29, zz8, zzD, zzC, QA, yyE, Qe, JE, JF, zz29, JM, zz30, JC, F_off46_1, F_ok3, F_ag3, F_sz3, zz21, zz22, zz13, JQ, JR, zz25, F_off46_2, F_sl90, F_zero3, zz3, JS, zz1, zzG, maxLen_le, QT, zz34, F_off58_2, F_ok42, F_ag42, F_sz42, zz33, JW, zz24, F_sl42, F_sz46, ints, unDs_map, D.sl.injEq, QW, posC, hpg, getD_mid, JN, lt_mid, ge_mid, zz6, QO, ↓Qb]
  refine JT F_go59 (fun hG => keyOk_ x.who x.inst) (by simp [QY, QX]) (by simp) ?_
  simp only [zzK, QR, QP, QQ, QU, JZ, zz5, Qj, Qi, Qh, zz19, zz23, F_off46_0, zzH, QN, QS, F_ok29, F_ag29, F_sz29, zz8, zzD, zzC, QA, yyE, Qe, JE, JF, zz29, JM, zz30, JC, F_off46_1, F_ok3, F_ag3, F_sz3, zz21, zz22, zz13, JQ, JR, zz25, F_off46_2, F_sl90, F_zero3, zz3, JS, zz1, zzG, maxLen_le, QT, zz34, F_off58_2, F_ok42, F_ag42, F_sz42, zz33, JW, zz24, F_sl42, F_sz46, ints, unDs_map, QW, posC, hpg, getD_mid, JN, lt_mid, ge_mid, zz6, QO, ↓Qb, atsL, oksG, JV, QZ, Qa, JO, Qm, QT, QS, zz9, QB, QA, S_mem, yyF, QF, zz2]
  refine JT F_go51 (fun hG => Right_ [x.cost] (by simp)) (by simp [QY, QX]) (by simp) ?_
  simp only [zzK, QR, QP, QQ, QU, JZ, zz5, Qj, Qi, Qh, zz19, zz23, F_off46_0, zzH, QN, QS, F_ok29, F_ag29, F_sz29, zz8, zzD, zzC, QA, yyE, Qe, JE, JF, zz29, JM, zz30, JC, F_off46_1, F_ok3, F_ag3, F_sz3, zz21, zz22, zz13, JQ, JR, zz25, F_off46_2, F_sl90, F_zero3, zz3, JS, zz1, zzG, maxLen_le, QT, zz34, F_off58_2, F_ok42, F_ag42, F_sz42, zz33, JW, zz24, F_sl42, F_sz46, ints, unDs_map, QW, posC, hpg, getD_mid, JN, lt_mid, ge_mid, zz6, QO, ↓Qb, atsL, oksG, JV, QZ, Qa, JO, Qm, QT, QS, zz9, QB, QA, S_mem, yyF, QF, zz2]
  refine ⟨⟨fun _ hp2 => prev_ok pre hpp hp2, fun _ _ => prev_lt pre post x hpp⟩, ?_⟩
  refine JT F_go60 (fun hG => bless_ (lastOr x pre).who (lastOr x pre).inst x.who x.inst) (by simp [QY, QX]) (by simp) ?_
  simp only [zzK, QR, QP, QQ, QU, JZ, zz5, Qj, Qi, Qh, zz19, zz23, F_off46_0, zzH, QN, QS, F_ok29, F_ag29, F_sz29, zz8, zzD, zzC, QA, yyE, Qe, JE, JF, zz29, JM, zz30, JC, F_off46_1, F_ok3, F_ag3, F_sz3, zz21, zz22, zz13, JQ, JR, zz25, F_off46_2, F_sl90, F_zero3, zz3, JS, zz1, zzG, maxLen_le, QT, zz34, F_off58_2, F_ok42, F_ag42, F_sz42, zz33, JW, zz24, F_sl42, F_sz46, ints, unDs_map, QW, posC, hpg, getD_mid, JN, lt_mid, ge_mid, zz6, QO, ↓Qb, atsL, oksG, JV, QZ, Qa, JO, Qm, QT, QS, zz9, QB, QA, S_mem, yyF, QF, zz2]
  refine hK3 _ ?_; try clear hK3 K3
  refine kpA [1, 8, 9, 10, 62] ?_
  refine cnA ?_ ?_
  ·intro hb
   have hs : (!posOk x || (decide ((pre.length : Int) > 0) && !pLt (lastOr x pre) x)) = true := by simpa only [posOk, posBad, pLt, Bool.not_not] using hb
   clear hb
   refine JA fun K4 hK4 => ?_
   refine Qz F_mixed [some 2] rfl ?_
   simp only [zzK, QR, QP, QQ, JB, zz6, QO, ↓Qb]
   refine hK4 _ ?_; try clear hK4 K4
   refine kpA [2] ?_
   refine JJ ?_
   simp only [zz6, QO, ↓Qb]
   refine dnA ?_
   simp only [QD, QE, resA, JZ, QR, QP, JD, QQ, Qd, Qc, JP]
   have e : bookOk ⟨nx, ts, pre ++ x :: post⟩ = false := by simp only [bookOk]; rw [hck, chkR_step, hs]; rfl
   simp only [bookE, e, Qc]
  ·intro hb
   have hs : (!posOk x || (decide ((pre.length : Int) > 0) && !pLt (lastOr x pre) x)) = false := by simpa only [posOk, posBad, pLt, Bool.not_not] using hb
   clear hb
   refine JI ?_
   simp only [zz6, QO, ↓Qb]
   refine hK2 _ ?_; try clear hK2 K2
   refine kpA [1, 8, 9, 10] ?_
   refine Qz F_mixed [some 63, some 10] rfl ?_
   simp only [zzK, QR, QP, QQ, zz21, JM, zz26, JC, zz6, QO, ↓Qb]
   refine ⟨post.length, _, by simp, le_SK id [] rfl (l' := [(1, .ptr 1 0 0), (8, .d (.sl 4 ((pre ++ x :: post).map posC))), (9, .d (iv (pre ++ x :: post).length)), (10, .d (iv (pre ++ [x]).length))]) (m' := [(1, (⟨True, 58, 3, true, false, 1, [[.d (iv nx), .d (.sl 7 (ts.map tradeC)), .d (.sl 4 ((pre ++ x :: post).map posC))]]⟩ : ARow))]) ?_ ?_ ?_ ?_, pre ++ [x], post, by simp, by rw [hck, chkR_step, hs]; simp, rfl, rfl⟩
   ·simp only [leV, JD, QQ, Qd, Qc, JN, wrap_len pre x (by simp at hp; omega)]; exact ⟨Qn _, Qn _, Qn _, Qn _, trivial⟩
   ·exact ⟨fun _ => ⟨_, rfl, ⟨id, rfl, rfl, fun _ => rfl, id, .inl, VLess.refl _⟩⟩, fun h => by simp at h, trivial⟩
   ·simp [wfV, QY, QX, lookR]
   ·simp [wfR, QX, QY]
 ·intro hb
  obtain rfl := none_of hb; clear hb
  simp only [QG] at hck hp ⊢
  have hk0 := hck; clear hck
  obtain ⟨ps, eps⟩ : ∃ x, x = pre := ⟨_, rfl⟩
  subst eps
  refine JK ?_
  simp only [zz6, QO, ↓Qb]
  refine hK0 _ ?_; try clear hK0 K0
  refine kpA [1] ?_
  refine JA fun K0 hK0 => ?_
  refine JA fun K1 hK1 => ?_
  refine Qz F_mixed [some 64, some 65, some 66, some 67] rfl ?_
  simp only [zzK, QR, QP, QQ, zz19, zz23, F_off58_1, zzH, QN, QS, F_ok56, F_ag56, F_sz56, zz8, zzD, zzC, QA, yyE, Qe, JE, zz12, F_sl56, Option.isSome_some, JC, JN, zz6, QO, ↓Qb]
  refine hK1 _ ?_; try clear hK1 K1
  refine kpA [1, 65, 66, 67] ?_
  refine JH ?_
  refine JL (fun m s => ∃ pre post : List TradeV, ts = pre ++ post ∧ chkR (trOk nx) tLt none ts = chkR (trOk nx) tLt pre.getLast? post ∧ m = post.length ∧ s = S 124 [(1, .ptr 1 0 0), (65, .d (.sl 7 (ts.map tradeC))), (66, .d (iv ts.length)), (67, .d (iv pre.length))] [(1, (⟨True, 58, 3, true, false, 1, [[.d (iv nx), .d (.sl 7 (ts.map tradeC)), .d (.sl 4 (ps.map posC))]]⟩ : ARow))]) ts.length _ (le_SK id [] rfl (l' := [(1, .ptr 1 0 0), (65, .d (.sl 7 (ts.map tradeC))), (66, .d (iv ts.length)), (67, .d (iv ([] : List TradeV).length))]) (m' := [(1, (⟨True, 58, 3, true, false, 1, [[.d (iv nx), .d (.sl 7 (ts.map tradeC)), .d (.sl 4 (ps.map posC))]]⟩ : ARow))]) ?_ ?_ ?_ ?_) ⟨[], ts, rfl, rfl, rfl, rfl⟩ ?_
  ·simp only [leV, JD, QQ, Qd, Qc, JN]; exact ⟨Qn _, Qn _, Qn _, Qn _, trivial⟩
  ·exact ⟨fun _ => ⟨_, rfl, ⟨id, rfl, rfl, fun _ => rfl, id, .inl, VLess.refl _⟩⟩, fun h => by simp at h, trivial⟩
  ·simp [wfV, QY, QX, lookR]
  ·simp [wfR, QX, QY]
  rintro m s ⟨pre, post, rfl, hck, rfl, rfl⟩
  refine JA fun K2 hK2 => ?_
  refine Qz F_mixed [some 68] rfl ?_
  simp only [zzK, QR, QP, QQ, zz21, JM, zz22, zz6, QO, ↓Qb]
  refine hK2 _ ?_; try clear hK2 K2
  refine kpA [1, 65, 66, 67, 68] ?_
  refine JA fun K2 hK2 => ?_
  refine cnA ?_ ?_
  ·intro hb
   obtain ⟨x, post, rfl⟩ := more_of hb; clear hb
   have hpp : pre.length < 4611686018427387904 := by simp at ht; omega
   have hpg := prev_get tradeC pre post x [] hpp
   refine JI ?_
   simp only [zz6, QO, ↓Qb]
   refine hK2 _ ?_; try clear hK2 K2
   refine kpA [1, 65, 66, 67] ?_
   refine JA fun K2 hK2 => ?_
   refine JH ?_
   refine JA fun K3 hK3 => ?_
   refine Qz F_mixed [some 69, some 70, some 71, some 6, some 5, none] rfl ?_
   simp only [zzK, QR, QP, QQ, JC, JW, zz23, zz24, F_sl56, F_sz86, QA, zzC, yyE, Qe, F_ok86, F_ag86, zz8, zzD, QS, QN, zzH, zz32, JS, F_zero86, zz10, JB, zz18, splice, QG, zz1, zzG, tradeC, getD_mid, JN, lt_mid, ge_mid, zz6, QO, ↓Qb]
   refine hK3 _ ?_; try clear hK3 K3
   refine kpA [1, 5, 6, 65, 66, 67] ?_
   refine JA fun K3 hK3 => ?_
   refine awp_draw F_mixed [some 72, some 73, some 74, some 75, some 76, some 77, some 78, some 79, some 80, some 81, some 82, some 83, some 84, some 85, some 86, some 87, some 88, some 89, some 90, some 91, some 92, some 93, some 94, some 95, some 96, some 97, some 98, some 99, some 100, some 101, some 102] rfl (by kernel_rfl) ?_
   simp only [zzK, QR, QP, QQ, QU, JZ, zz5, Qj, Qi, Qh, F_ok86, F_ag86, F_sz86, zz8, zz23, zzD, QS, QN, zzH, zzC, QA, yyE, Qe, JE, JF, zz29, JM, zz30, JC, zz19, F_off86_0, F_ok3, F_ag3, F_sz3, zz21, zz22, zz13, JQ, JR, F_off58_0, zz25, F_off58_1, F_ok56, F_ag56, F_sz56, zz33, JW, zz24, F_sl56, zz31, tradeC, QW, hpg, getD_mid, JN, lt_mid, ge_mid, zz6, QO, ↓Qb]
   refine JT F_go61 (fun hG => rtOk_ x) (by simp [QY, QX]) (by simp) ?_
   simp only [zzK, QR, QP, QQ, QU, JZ, zz5, Qj, Qi, Qh, F_ok86, F_ag86, F_sz86, zz8, zz23, zzD, QS, QN, zzH, zzC, QA, yyE, Qe, JE, JF, zz29, JM, zz30, JC, zz19, F_off86_0, F_ok3, F_ag3, F_sz3, zz21, zz22, zz13, JQ, JR, F_off58_0, zz25, F_off58_1, F_ok56, F_ag56, F_sz56, zz33, JW, zz24, F_sl56, zz31, tradeC, QW, hpg, getD_mid, JN, lt_mid, ge_mid, zz6, QO, ↓Qb, atsL, oksG, JV, QZ, Qa, JO, Qm, QT, QS, zz9, QB, QA, S_mem, yyF, QF, zz2]
   refine ⟨⟨fun _ hp2 => prev_ok pre hpp hp2, fun _ _ => prev_lt pre post x hpp⟩, ?_⟩
   refine hK3 _ ?_; try clear hK3 K3
   refine kpA [1, 65, 66, 67, 102] ?_
   refine cnA ?_ ?_
   ·intro hb
    have hs : (!trOk nx x || (decide ((pre.length : Int) > 0) && !tLt (lastOr x pre) x)) = true := by simpa only [trOk, trBad, tLt, Bool.not_not] using hb
    clear hb
    refine JA fun K4 hK4 => ?_
    refine Qz F_mixed [some 2] rfl ?_
    simp only [zzK, QR, QP, QQ, JB, zz6, QO, ↓Qb]
    refine hK4 _ ?_; try clear hK4 K4
    refine kpA [2] ?_
    refine JJ ?_
    simp only [zz6, QO, ↓Qb]
    try simp only [QG]
    refine dnA ?_
    simp only [QD, QE, resA, JZ, QR, QP, JD, QQ, Qd, Qc, JP]
    have e : bookOk ⟨nx, pre ++ x :: post, ps⟩ = false := by simp only [bookOk]; rw [hk0, hck, chkR_step, hs]; rfl
    simp only [bookE, e, Qc]
   ·intro hb
    have hs : (!trOk nx x || (decide ((pre.length : Int) > 0) && !tLt (lastOr x pre) x)) = false := by simpa only [trOk, trBad, tLt, Bool.not_not] using hb
    clear hb
    refine JI ?_
    simp only [zz6, QO, ↓Qb]
    refine hK2 _ ?_; try clear hK2 K2
    refine kpA [1, 65, 66, 67] ?_
    refine Qz F_mixed [some 103, some 67] rfl ?_
    simp only [zzK, QR, QP, QQ, zz21, JM, zz26, JC, zz6, QO, ↓Qb]
    refine ⟨post.length, _, by simp, le_SK id [] rfl (l' := [(1, .ptr 1 0 0), (65, .d (.sl 7 ((pre ++ x :: post).map tradeC))), (66, .d (iv (pre ++ x :: post).length)), (67, .d (iv (pre ++ [x]).length))]) (m' := [(1, (⟨True, 58, 3, true, false, 1, [[.d (iv nx), .d (.sl 7 ((pre ++ x :: post).map tradeC)), .d (.sl 4 (ps.map posC))]]⟩ : ARow))]) ?_ ?_ ?_ ?_, pre ++ [x], post, by simp, by rw [hck, chkR_step, hs]; simp, rfl, rfl⟩
    ·simp only [leV, JD, QQ, Qd, Qc, JN, wrap_len pre x (by simp at ht; omega)]; exact ⟨Qn _, Qn _, Qn _, Qn _, trivial⟩
    ·exact ⟨fun _ => ⟨_, rfl, ⟨id, rfl, rfl, fun _ => rfl, id, .inl, VLess.refl _⟩⟩, fun h => by simp at h, trivial⟩
    ·simp [wfV, QY, QX, lookR]
    ·simp [wfR, QX, QY]
  ·intro hb
   obtain rfl := none_of hb; clear hb
   simp only [QG] at hck ht ⊢
   have hk1 := hck; clear hck
   obtain ⟨ts, ets⟩ : ∃ x, x = pre := ⟨_, rfl⟩
   subst ets
   refine JK ?_
   simp only [zz6, QO, ↓Qb]
   refine hK0 _ ?_; try clear hK0 K0
   refine kpA [1] ?_
   refine JA fun K0 hK0 => ?_
   refine JA fun K1 hK1 => ?_
   refine Qz F_mixed [some 104, some 105, some 106, some 107, some 108, some 109, some 110, some 111, some 112, some 113, some 114, some 115, some 116, some 117, some 118, some 119, some 120, some 121, some 122, some 123] rfl ?_
   simp only [zzK, QR, QP, QQ, QU, JZ, zz5, Qj, Qi, Qh, zz19, zz23, F_off58_2, zzH, QN, QS, F_ok42, F_ag42, F_sz42, zz8, zzD, zzC, QA, yyE, Qe, JE, JF, zz29, JM, zz30, JC, F_off58_1, F_ok56, F_ag56, F_sz56, zz12, F_sl56, Option.isSome_some, zz21, zz25, zz13, JQ, JR, F_off58_0, F_ok3, F_ag3, F_sz3, zz22, poss, JN, zz6, QO, ↓Qb]
   refine JT F_go62 (fun hG => level_ ps hp) (by simp [QY, QX]) (by simp) ?_
   simp only [zzK, QR, QP, QQ, QU, JZ, zz5, Qj, Qi, Qh, zz19, zz23, F_off58_2, zzH, QN, QS, F_ok42, F_ag42, F_sz42, zz8, zzD, zzC, QA, yyE, Qe, JE, JF, zz29, JM, zz30, JC, F_off58_1, F_ok56, F_ag56, F_sz56, zz12, F_sl56, Option.isSome_some, zz21, zz25, zz13, JQ, JR, F_off58_0, F_ok3, F_ag3, F_sz3, zz22, poss, JN, zz6, QO, ↓Qb, atsL, oksG, JV, QZ, Qa, JO, Qm, QT, QS, zz9, QB, QA, S_mem, yyF, QF, zz2]
   refine hK1 _ ?_; try clear hK1 K1
   refine kpA [123] ?_
   refine cnA ?_ ?_
   ·intro hb
    have hs : bookTail ⟨nx, ts, ps⟩ = true := hb
    clear hb
    refine JA fun K2 hK2 => ?_
    refine Qz F_mixed [some 2] rfl ?_
    simp only [zzK, QR, QP, QQ, JB, zz6, QO, ↓Qb]
    refine hK2 _ ?_; try clear hK2 K2
    refine kpA [2] ?_
    refine JJ ?_
    simp only [zz6, QO, ↓Qb]
    try simp only [QG]
    refine dnA ?_
    simp only [QD, QE, resA, JZ, QR, QP, JD, QQ, Qd, Qc, JP]
    have e : bookOk ⟨nx, ts, ps⟩ = false := by simp only [bookOk, hs, Bool.not_true, Bool.and_false]
    simp only [bookE, e, Qc]
   ·intro hb
    have hs : bookTail ⟨nx, ts, ps⟩ = false := hb
    clear hb
    refine JI ?_
    simp only [zz6, QO, ↓Qb]
    refine hK0 _ ?_; try clear hK0 K0
    refine kpA [] ?_
    refine JA fun K0 hK0 => ?_
    refine Qz F_mixed [some 2] rfl ?_
    simp only [zzK, QR, QP, QQ, JB, zz6, QO, ↓Qb]
    refine hK0 _ ?_; try clear hK0 K0
    refine kpA [2] ?_
    refine JJ ?_
    simp only [zz6, QO, ↓Qb]
    try simp only [QG]
    refine dnA ?_
    simp only [QD, QE, resA, JZ, QR, QP, JD, QQ, Qd, Qc, JP]
    have e : bookOk ⟨nx, ts, ps⟩ = true := by simp only [bookOk]; rw [hk0, hk1, hs]; rfl
    simp only [bookE, e, Qd]
theorem tSum_ (l : List PosV) (hl : l.length ≤ 1000000) : ACalls Try.prog 102 [poss l] [] (.tp [.d (iv (tsQ l)), .d (iv (tsC l)), .d (iv (tsE l))]) := by
 refine acalls_S (rs := [.tmp 2, .tmp 3, .tmp 4]) Try.func102 rfl rfl 52 [(0, .d (poss l))] rfl (by simp) rfl ?_
 refine JA fun K0 hK0 => ?_
 refine Qz F_mixed [some 2, some 3, some 4] rfl ?_
 simp only [zzK, QR, QP, QQ, JB, zz6, QO, ↓Qb]
 refine hK0 _ ?_; try clear hK0 K0
 refine kpA [0] ?_
 refine JA fun K0 hK0 => ?_
 refine Qz F_mixed [some 5, some 6] rfl ?_
 simp only [zzK, QR, QP, QQ, JB, zz6, QO, ↓Qb]
 refine hK0 _ ?_; try clear hK0 K0
 refine kpA [0, 5, 6] ?_
 refine JA fun K0 hK0 => ?_
 refine JA fun K1 hK1 => ?_
 refine Qz F_mixed [some 9, some 10, some 11] rfl ?_
 simp only [zzK, QR, QP, QQ, JC, JE, zz12, F_sl42, Option.isSome_some, poss, JN, zz6, QO, ↓Qb]
 refine hK1 _ ?_; try clear hK1 K1
 refine kpA [5, 6, 9, 10, 11] ?_
 refine JH ?_
 refine JL (fun m s => ∃ pre post : List PosV, l = pre ++ post ∧ m = post.length ∧ s = S 52 [(5, .ref 5 pre.length), (6, .ref 6 pre.length), (9, .d (poss l)), (10, .d (iv l.length)), (11, .d (iv pre.length))] [(5, grow 3 1 5 ((pre.map PosV.qty).map fun n => [iv n])), (6, grow 3 1 6 ((pre.map PosV.cost).map fun n => [iv n]))]) l.length _ (le_SK id [5, 6] rfl (l' := [(5, .ref 5 ([] : List PosV).length), (6, .ref 6 ([] : List PosV).length), (9, .d (poss l)), (10, .d (iv l.length)), (11, .d (iv ([] : List PosV).length))]) (m' := [(5, grow 3 1 5 ((([] : List PosV).map PosV.qty).map fun n => [iv n])), (6, grow 3 1 6 ((([] : List PosV).map PosV.cost).map fun n => [iv n]))]) ?_ ?_ ?_ ?_) ⟨[], l, rfl, rfl, rfl⟩ ?_
 ·simp only [leV, JD, QQ, Qd, Qc, poss, JN]; exact ⟨Qq (by decide), Qq (by decide), VLe.data_ _, VLe.data_ _, VLe.data_ _, trivial⟩
 ·simp [leR, grow]
 ·simp [wfV, QY, lookR]
 ·simp [wfR, grow]
 rintro m s ⟨pre, post, rfl, rfl, rfl⟩
 refine JA fun K2 hK2 => ?_
 refine Qz F_mixed [some 12] rfl ?_
 simp only [zzK, QR, QP, QQ, zz21, JM, zz22, zz6, QO, ↓Qb]
 refine hK2 _ ?_; try clear hK2 K2
 refine kpA [5, 6, 9, 10, 11, 12] ?_
 refine JA fun K2 hK2 => ?_
 refine cnA ?_ ?_
 ·intro hb
  obtain ⟨x, post, rfl⟩ := more_of hb; clear hb
  refine JI ?_
  simp only [zz6, QO, ↓Qb]
  refine hK2 _ ?_; try clear hK2 K2
  refine kpA [5, 6, 9, 10, 11] ?_
  refine JA fun K2 hK2 => ?_
  refine JH ?_
  refine JA fun K3 hK3 => ?_
  refine Qz F_mixed [some 13, some 14, some 8, none] rfl ?_
  simp only [zzK, QR, QP, QQ, JW, zz23, zz24, F_sl42, F_sz46, QA, zzC, yyE, Qe, F_ok46, F_ag46, zz8, zzD, QS, QN, zzH, zz32, JS, F_zero46, zz10, zz18, splice, QG, zz1, zzG, poss, posC, getD_mid, JN, lt_mid, ge_mid, zz6, QO, ↓Qb]
  refine hK3 _ ?_; try clear hK3 K3
  refine kpA [5, 6, 8, 9, 10, 11] ?_
  refine awp_draw F_mixed [some 15, some 16, some 17, some 18, some 19, some 20, some 21, some 22, some 23, some 24, some 5, some 6] rfl (by kernel_rfl) ?_
  simp only [zzK, QR, QP, QQ, JC, zz19, zz23, F_off46_1, zzH, QN, QS, F_ok3, F_ag3, F_sz3, zz8, zzD, zzC, QA, yyE, Qe, F_sl90, F_zero3, zz3, JS, zz1, zzG, maxLen_le, QT, JE, F_by3, zz4, zz9, QB, F_off46_2, JB, grow, JN, zz6, QO, ↓Qb]
  have hm : pre.length + 1 ≤ 1000000 := by simp at hl; omega
  refine ⟨by rw [maxLen_le _ hm]; trivial, by omega, by rw [maxLen_le _ hm]; trivial, by omega, ?_⟩
  clear hm
  refine hK2 _ ?_; try clear hK2 K2
  refine kpA [5, 6, 9, 10, 11] ?_
  refine Qz F_mixed [some 25, some 11] rfl ?_
  simp only [zzK, QR, QP, QQ, zz21, JM, zz26, JC, zz6, QO, ↓Qb]
  refine ⟨post.length, _, by simp, le_SK (fun r => bif r == 5 then 19 else 24) [] rfl (l' := [(5, .ref 5 (pre ++ [x]).length), (6, .ref 6 (pre ++ [x]).length), (9, .d (poss (pre ++ x :: post))), (10, .d (iv (pre ++ x :: post).length)), (11, .d (iv (pre ++ [x]).length))]) (m' := [(5, grow 3 1 5 (((pre ++ [x]).map PosV.qty).map fun n => [iv n])), (6, grow 3 1 6 (((pre ++ [x]).map PosV.cost).map fun n => [iv n]))]) ?_ ?_ ?_ ?_, pre ++ [x], post, by simp, rfl, rfl⟩
  ·simp only [leV, JD, QQ, Qd, Qc, poss, JN, wrap_len pre x (by simp at hl; omega)]
   refine ⟨?_, ?_, VLe.data_ _, VLe.data_ _, VLe.data_ _, trivial⟩
   ·rw [show pre.length + 1 = (pre ++ [x]).length from by simp]; exact VLe.ref_ (f := fun r => bif r == 5 then 19 else 24) (r := 5) (by simp)
   ·rw [show pre.length + 1 = (pre ++ [x]).length from by simp]; exact VLe.ref_ (f := fun r => bif r == 5 then 19 else 24) (r := 6) (by simp)
  ·refine ⟨fun _ => ⟨_, rfl, Qw (by simp)⟩, fun h => by simp at h, fun _ => ⟨_, rfl, Qw (by simp)⟩, fun h => by simp at h, trivial⟩
  ·simp [wfV, QY, lookR, grow]
  ·exact ⟨wf_data _ _, wf_data _ _, trivial⟩
 ·intro hb
  obtain rfl := none_of hb; clear hb
  simp only [QG] at hl ⊢
  refine JK ?_
  simp only [zz6, QO, ↓Qb]
  refine hK0 _ ?_; try clear hK0 K0
  refine kpA [5, 6] ?_
  refine JA fun K0 hK0 => ?_
  refine JA fun K1 hK1 => ?_
  refine Qz F_mixed [some 26, some 27, some 28, some 29, some 30, some 31, some 32, some 33] rfl ?_
  simp only [zzK, QR, QP, QQ, QU, JZ, zz5, Qj, Qi, Qh, and_self, JC, JE, JF, zz29, JM, zz30, zz13, JQ, JR, ints, JN, grow, zz6, QO, ↓Qb]
  refine JT F_go51 (fun hG => Right_ (pre.map PosV.qty) (by simp; omega)) (by simp [QY, QX]) (by simp) ?_
  simp only [zzK, QR, QP, QQ, QU, JZ, zz5, Qj, Qi, Qh, and_self, JC, JE, JF, zz29, JM, zz30, zz13, JQ, JR, ints, JN, grow, zz6, QO, ↓Qb, atsL, oksG, JV, QZ, Qa, JO, Qm, QT, QS, zz9, QB, QA, zzC, yyF, zzD, zz2]
  refine JT F_go51 (fun hG => Right_ (pre.map PosV.cost) (by simp; omega)) (by simp [QY, QX]) (by simp) ?_
  simp only [zzK, QR, QP, QQ, QU, JZ, zz5, Qj, Qi, Qh, and_self, JC, JE, JF, zz29, JM, zz30, zz13, JQ, JR, ints, JN, grow, zz6, QO, ↓Qb, atsL, oksG, JV, QZ, Qa, JO, Qm, QT, QS, zz9, QB, QA, zzC, yyF, zzD, zz2]
  refine hK1 _ ?_; try clear hK1 K1
  refine kpA [5, 6, 33] ?_
  refine cnA ?_ ?_
  ·intro hb
   refine JA fun K2 hK2 => ?_
   refine Qz F_mixed [some 2, some 3, some 4] rfl ?_
   simp only [zzK, QR, QP, QQ, JB, zz6, QO, ↓Qb]
   refine hK2 _ ?_; try clear hK2 K2
   refine kpA [2, 3, 4] ?_
   refine JJ ?_
   simp only [zz6, QO, ↓Qb]
   refine dnA ?_
   simp only [QD, QE, resA, JZ, QR, QP, JD, QQ, Qd, Qc, JP]
   rcases hA : (pre.map PosV.qty).all rightN <;> rcases hB : (pre.map PosV.cost).all rightN <;> simp [hA, hB, tsQ, tsC, tsE, tsA, tsB] at hb ⊢
  ·intro hb
   have hall : (pre.map PosV.qty).all rightN = true ∧ (pre.map PosV.cost).all rightN = true := by simpa only [Bool.or_eq_false_iff, Bool.not_eq_false'] using hb
   clear hb
   obtain ⟨hA, hB⟩ := hall
   refine JI ?_
   simp only [zz6, QO, ↓Qb]
   refine hK0 _ ?_; try clear hK0 K0
   refine kpA [5, 6] ?_
   refine JA fun K0 hK0 => ?_
   refine Qz F_mixed [some 35, some 36, some 34, some 37, some 38, some 2, some 4] rfl ?_
   simp only [zzK, QR, QP, QQ, JC, JE, JF, zz14, zzD, QS, QN, zzF, JB, ints, JN, grow, zz6, QO, ↓Qb]
   refine JT F_go85 (fun hG => Sum_ (pre.map PosV.qty) (by simp; omega)) (by simp [QY, QX]) (by simp) ?_
   simp only [zzK, QR, QP, QQ, JC, JE, JF, zz14, zzD, QS, QN, zzF, JB, ints, JN, grow, zz6, QO, ↓Qb, atsL, oksG, JV, QZ, Qa, JO, Qm, QT, QS, zz9, QB, QA, zzC, yyF, QF, zz2]
   refine hK0 _ ?_; try clear hK0 K0
   refine kpA [2, 4, 6] ?_
   refine JA fun K0 hK0 => ?_
   refine JA fun K1 hK1 => ?_
   refine Qz F_mixed [some 39, some 40] rfl ?_
   simp only [zzK, QR, QP, QQ, JC, zz21, JM, zz28, zz6, QO, ↓Qb]
   refine hK1 _ ?_; try clear hK1 K1
   refine kpA [2, 4, 6, 40] ?_
   refine cnA ?_ ?_
   ·intro hb
    refine JA fun K2 hK2 => ?_
    refine Qz F_mixed [some 41, some 2, some 3, some 4] rfl ?_
    simp only [zzK, QR, QP, QQ, JC, JB, zz6, QO, ↓Qb]
    refine hK2 _ ?_; try clear hK2 K2
    refine kpA [2, 3, 4] ?_
    refine JJ ?_
    simp only [zz6, QO, ↓Qb]
    refine dnA ?_
    simp only [QD, QE, resA, JZ, QR, QP, JD, QQ, Qd, Qc, JP]
    rcases hq : rightN (pre.map PosV.qty).sum <;> simp [hA, hB, hq, sumE, tsQ, tsC, tsE, tsA, tsB] at hb ⊢
   ·intro hb
    have hq : rightN (pre.map PosV.qty).sum = true := by
     rcases hq : rightN (pre.map PosV.qty).sum
     ·simp [hA, hq, sumE] at hb
     ·rfl
    clear hb
    refine JI ?_
    simp only [zz6, QO, ↓Qb]
    refine hK0 _ ?_; try clear hK0 K0
    refine kpA [2, 6] ?_
    refine JA fun K0 hK0 => ?_
    refine Qz F_mixed [some 43, some 44, some 42, some 45, some 46, some 3, some 4] rfl ?_
    simp only [zzK, QR, QP, QQ, JC, JE, JF, zz14, zzD, QS, QN, zzF, JB, ints, JN, grow, zz6, QO, ↓Qb]
    refine JT F_go85 (fun hG => Sum_ (pre.map PosV.cost) (by simp; omega)) (by simp [QY, QX]) (by simp) ?_
    simp only [zzK, QR, QP, QQ, JC, JE, JF, zz14, zzD, QS, QN, zzF, JB, ints, JN, grow, zz6, QO, ↓Qb, atsL, oksG, JV, QZ, Qa, JO, Qm, QT, QS, zz9, QB, QA, zzC, yyF, QF, zz2]
    refine hK0 _ ?_; try clear hK0 K0
    refine kpA [2, 3, 4] ?_
    refine JA fun K0 hK0 => ?_
    refine JA fun K1 hK1 => ?_
    refine Qz F_mixed [some 47, some 48] rfl ?_
    simp only [zzK, QR, QP, QQ, JC, zz21, JM, zz28, zz6, QO, ↓Qb]
    refine hK1 _ ?_; try clear hK1 K1
    refine kpA [2, 3, 4, 48] ?_
    refine cnA ?_ ?_
    ·intro hb
     refine JA fun K2 hK2 => ?_
     refine Qz F_mixed [some 49, some 2, some 3, some 4] rfl ?_
     simp only [zzK, QR, QP, QQ, JC, JB, zz6, QO, ↓Qb]
     refine hK2 _ ?_; try clear hK2 K2
     refine kpA [2, 3, 4] ?_
     refine JJ ?_
     simp only [zz6, QO, ↓Qb]
     refine dnA ?_
     simp only [QD, QE, resA, JZ, QR, QP, JD, QQ, Qd, Qc, JP]
     rcases hc : rightN (pre.map PosV.cost).sum <;> simp [hA, hB, hq, hc, sumE, tsQ, tsC, tsE, tsA, tsB] at hb ⊢
    ·intro hb
     have hc : rightN (pre.map PosV.cost).sum = true := by
      rcases hc : rightN (pre.map PosV.cost).sum
      ·simp [hB, hc, sumE] at hb
      ·rfl
     clear hb
     refine JI ?_
     simp only [zz6, QO, ↓Qb]
     refine hK0 _ ?_; try clear hK0 K0
     refine kpA [2, 3] ?_
     refine JA fun K0 hK0 => ?_
     refine Qz F_mixed [some 50, some 51, some 2, some 3, some 4] rfl ?_
     simp only [zzK, QR, QP, QQ, JC, JB, zz6, QO, ↓Qb]
     refine hK0 _ ?_; try clear hK0 K0
     refine kpA [2, 3, 4] ?_
     refine JJ ?_
     simp only [zz6, QO, ↓Qb]
     refine dnA ?_
     simp only [QD, QE, resA, JZ, QR, QP, JD, QQ, Qd, Qc, JP]
     simp [hA, hB, hq, hc, sumV, tsQ, tsC, tsE, tsA, tsB]
theorem right_ (t : TradeV) : ACalls Try.prog 95 [.agg (tradeC t)] [] (bv (tradeOk t)) := by
 refine acalls_S (rs := [.tmp 2]) Try.func95 rfl rfl 21 [(0, .d (.agg (tradeC t)))] rfl (by simp) rfl ?_
 refine JA fun K0 hK0 => ?_
 refine Qz F_mixed [some 1, some 2] rfl ?_
 simp only [zzK, QR, QP, QQ, zz35, JS, zz1, zzG, zzD, zzC, QA, yyE, Qe, QS, QN, zzH, JB, tradeC, zz6, QO, ↓Qb]
 refine hK0 _ ?_; try clear hK0 K0
 refine kpA [1] ?_
 refine JA fun K0 hK0 => ?_
 refine Qz F_mixed [some 3, some 4, some 5, some 6, some 7, some 8, some 9, some 10, some 11, some 12, some 13, some 14, some 15, some 16, some 17, some 18, some 19, some 20, some 2] rfl ?_
 simp only [zzK, QR, QP, QQ, QU, JZ, zz5, Qj, Qi, Qh, zz19, zz23, F_off86_4, zzH, QN, QS, F_ok3, F_ag3, F_sz3, zz8, zzD, zzC, QA, yyE, Qe, zz21, JM, zz31, JC, b_leq, pure_leq, zz13, JQ, JR, F_off86_5, JB, zz6, QO, ↓Qb]
 refine hK0 _ ?_; try clear hK0 K0
 refine kpA [2] ?_
 refine JJ ?_
 simp only [zz6, QO, ↓Qb]
 refine dnA ?_
 simp only [QD, QE, resA, JZ, QR, QP, JD, QQ, Qd, Qc, JP]
 simp only [tradeOk]
theorem Legs_yes (t : TradeV) (h : tradeOk t = true) : ACalls Try.prog 84 [.agg (tradeC t)] [⟨46, 4, legsC t⟩] (.ref 0 2) := by
 refine acalls_S (rs := [.tmp 2]) Try.func84 rfl rfl 33 [(0, .d (.agg (tradeC t)))] rfl (by simp) rfl ?_
 refine JA fun K0 hK0 => ?_
 refine Qz F_mixed [some 1, some 2] rfl ?_
 simp only [zzK, QR, QP, QQ, zz35, JS, zz1, zzG, zzD, zzC, QA, yyE, Qe, QS, QN, zzH, JB, tradeC, zz6, QO, ↓Qb]
 refine hK0 _ ?_; try clear hK0 K0
 refine kpA [1] ?_
 refine JA fun K0 hK0 => ?_
 refine JA fun K1 hK1 => ?_
 refine Qz F_mixed [some 4, some 5, some 6] rfl ?_
 simp only [zzK, QR, QP, QQ, F_ok86, F_ag86, F_sz86, zz8, zz23, zzD, QS, QN, zzH, zzC, QA, yyE, Qe, JE, JF, zz29, JM, zz30, tradeC, QW, zz6, QO, ↓Qb]
 refine JT F_go95 (fun hG => right_ t) (by simp [QY, QX]) (by simp) ?_
 simp only [zzK, QR, QP, QQ, F_ok86, F_ag86, F_sz86, zz8, zz23, zzD, QS, QN, zzH, zzC, QA, yyE, Qe, JE, JF, zz29, JM, zz30, tradeC, QW, zz6, QO, ↓Qb, atsL, oksG, JV, QZ, Qa, JO, Qm, QT, QS, zz9, QB, QA, S_mem, yyF, QF, zz2]
 refine hK1 _ ?_; try clear hK1 K1
 refine kpA [1, 6] ?_
 refine cnA ?_ ?_
 ·intro hb
  simp only [h] at hb; cases hb
 ·intro hb
  clear hb
  refine JI ?_
  simp only [zz6, QO, ↓Qb]
  refine hK0 _ ?_; try clear hK0 K0
  refine kpA [1] ?_
  refine JA fun K0 hK0 => ?_
  refine Qz F_mixed [some 7, some 8, some 9, some 10, some 11, some 3] rfl ?_
  simp only [zzK, QR, QP, QQ, zz19, zz23, F_off86_4, zzH, QN, QS, F_ok3, F_ag3, F_sz3, zz8, zzD, zzC, QA, yyE, Qe, F_off86_5, zz21, JM, zz36, JB, zz6, QO, ↓Qb]
  refine hK0 _ ?_; try clear hK0 K0
  refine kpA [1, 3] ?_
  refine JA fun K0 hK0 => ?_
  refine Qz F_mixed [some 12, some 13, some 14, some 15, some 16, some 17, some 18, some 19, some 20, some 21, some 22, some 23, some 24, some 25, some 26, some 27, some 28, some 29, some 30, some 31, some 32, some 2] rfl ?_
  simp only [zzK, QR, QP, QQ, zz19, zz23, F_off86_1, zzH, QN, QS, F_ok3, F_ag3, F_sz3, zz8, zzD, zzC, QA, yyE, Qe, F_off86_3, F_zero29, F_bld29, zz7, splice, Option.getD_some, QG, zz1, zzG, zz10, F_fld29_0, F_fld29_1, F_off86_4, JC, F_zero46, F_bld46, F_fld46_0, F_fld46_1, F_fld46_2, F_off86_2, zz29, JM, zz37, F_sl42, F_sz46, zz3, JS, maxLen_le, QT, JB, zz6, QO, ↓Qb]
  refine hK0 _ ?_; try clear hK0 K0
  refine kpA [2] ?_
  refine JJ ?_
  simp only [zz6, QO, ↓Qb]
  refine done1 32 (by simp only [resCs, resC]; trivial) ?_ (by simp [Ja, Jb, Jc, legsC, posC]) (by simp [QY, QX, legsC, posC]) (by rfl) trivial rfl rfl ?_ (by simp [flatDs, Jc, legsC, posC])
  ·simp only [QD, QE, resA, JZ, QR, QP, JD, QQ, Qd, Qc, JP]; rfl
  ·simp only [QD, QE, legsC, posC, legA, legB]
theorem Legs_no (t : TradeV) (h : tradeOk t = false) : ACalls Try.prog 84 [.agg (tradeC t)] [] (.d (.v (.slice none 0 0))) := by
 refine acalls_S (rs := [.tmp 2]) Try.func84 rfl rfl 33 [(0, .d (.agg (tradeC t)))] rfl (by simp) rfl ?_
 refine JA fun K0 hK0 => ?_
 refine Qz F_mixed [some 1, some 2] rfl ?_
 simp only [zzK, QR, QP, QQ, zz35, JS, zz1, zzG, zzD, zzC, QA, yyE, Qe, QS, QN, zzH, JB, tradeC, zz6, QO, ↓Qb]
 refine hK0 _ ?_; try clear hK0 K0
 refine kpA [1] ?_
 refine JA fun K0 hK0 => ?_
 refine JA fun K1 hK1 => ?_
 refine Qz F_mixed [some 4, some 5, some 6] rfl ?_
 simp only [zzK, QR, QP, QQ, F_ok86, F_ag86, F_sz86, zz8, zz23, zzD, QS, QN, zzH, zzC, QA, yyE, Qe, JE, JF, zz29, JM, zz30, tradeC, QW, zz6, QO, ↓Qb]
 refine JT F_go95 (fun hG => right_ t) (by simp [QY, QX]) (by simp) ?_
 simp only [zzK, QR, QP, QQ, F_ok86, F_ag86, F_sz86, zz8, zz23, zzD, QS, QN, zzH, zzC, QA, yyE, Qe, JE, JF, zz29, JM, zz30, tradeC, QW, zz6, QO, ↓Qb, atsL, oksG, JV, QZ, Qa, JO, Qm, QT, QS, zz9, QB, QA, S_mem, yyF, QF, zz2]
 refine hK1 _ ?_; try clear hK1 K1
 refine kpA [1, 6] ?_
 refine cnA ?_ ?_
 ·intro hb
  clear hb
  refine JA fun K2 hK2 => ?_
  refine Qz F_mixed [some 2] rfl ?_
  simp only [zzK, QR, QP, QQ, JB, zz6, QO, ↓Qb]
  refine hK2 _ ?_; try clear hK2 K2
  refine kpA [2] ?_
  refine JJ ?_
  simp only [zz6, QO, ↓Qb]
  refine dnA ?_
  simp only [QD, QE, resA, JZ, QR, QP, JD, QQ, Qd, Qc, JP]
  
 ·intro hb
  simp only [h] at hb; cases hb
theorem Undo_yes (t : TradeV) (h : tradeOk t = true) : ACalls Try.prog 81 [.agg (tradeC t)] [⟨46, 4, undoC t⟩] (.ref 0 2) := by
 refine acalls_S (rs := [.tmp 2]) Try.func81 rfl rfl 34 [(0, .d (.agg (tradeC t)))] rfl (by simp) rfl ?_
 refine JA fun K0 hK0 => ?_
 refine Qz F_mixed [some 1, some 2] rfl ?_
 simp only [zzK, QR, QP, QQ, zz35, JS, zz1, zzG, zzD, zzC, QA, yyE, Qe, QS, QN, zzH, JB, tradeC, zz6, QO, ↓Qb]
 refine hK0 _ ?_; try clear hK0 K0
 refine kpA [1] ?_
 refine JA fun K0 hK0 => ?_
 refine Qz F_mixed [some 5, some 6, some 3] rfl ?_
 simp only [zzK, QR, QP, QQ, F_ok86, F_ag86, F_sz86, zz8, zz23, zzD, QS, QN, zzH, zzC, QA, yyE, Qe, JE, JF, JB, tradeC, QW, legsC, posC, zz6, QO, ↓Qb]
 refine JT F_go84 (fun hG => Legs_yes t h) (by simp [QY, QX]) (by simp) ?_
 simp only [zzK, QR, QP, QQ, F_ok86, F_ag86, F_sz86, zz8, zz23, zzD, QS, QN, zzH, zzC, QA, yyE, Qe, JE, JF, JB, tradeC, QW, legsC, posC, zz6, QO, ↓Qb, atsL, oksG, JV, QZ, Qa, JO, Qm, QT, QS, zz9, QB, QA, S_mem, yyF, QF, zz2]
 refine hK0 _ ?_; try clear hK0 K0
 refine kpA [3] ?_
 refine JA fun K0 hK0 => ?_
 refine JA fun K1 hK1 => ?_
 refine Qz F_mixed [some 7, some 8, some 9] rfl ?_
 simp only [zzK, QR, QP, QQ, JC, JE, zz12, F_sl42, Option.isSome_some, cast2, zz6, QO, ↓Qb]
 refine hK1 _ ?_; try clear hK1 K1
 refine kpA [3, 8, 9] ?_
 refine JH ?_
 refine JL (fun m s => (m = 2 ∧ s = S 34 [(3, .ref 7000 2), (8, .d (iv 2)), (9, .d (iv 0))] [(7000, (⟨True, 46, 4, true, true, 7000, [[.d (iv (legA t).who), .d (iv (legA t).inst), .d (iv (legA t).qty), .d (iv (legA t).cost)], [.d (iv (legB t).who), .d (iv (legB t).inst), .d (iv (legB t).qty), .d (iv (legB t).cost)]]⟩ : ARow))]) ∨ (m = 1 ∧ s = S 34 [(3, .ref 7000 2), (8, .d (iv 2)), (9, .d (iv 1))] [(7000, (⟨True, 46, 4, true, true, 7000, [[.d (iv (legA t).who), .d (iv (legA t).inst), .d (iv (Ql .i64 (0 - (legA t).qty))), .d (iv (Ql .i64 (0 - (legA t).cost)))], [.d (iv (legB t).who), .d (iv (legB t).inst), .d (iv (legB t).qty), .d (iv (legB t).cost)]]⟩ : ARow))]) ∨ (m = 0 ∧ s = S 34 [(3, .ref 7000 2), (8, .d (iv 2)), (9, .d (iv 2))] [(7000, (⟨True, 46, 4, true, true, 7000, [[.d (iv (legA t).who), .d (iv (legA t).inst), .d (iv (Ql .i64 (0 - (legA t).qty))), .d (iv (Ql .i64 (0 - (legA t).cost)))], [.d (iv (legB t).who), .d (iv (legB t).inst), .d (iv (Ql .i64 (0 - (legB t).qty))), .d (iv (Ql .i64 (0 - (legB t).cost)))]]⟩ : ARow))])) 2 _ (le_SK id [] rfl (l' := [(3, .ref 7000 2), (8, .d (iv 2)), (9, .d (iv 0))]) (m' := [(7000, (⟨True, 46, 4, true, true, 7000, [[.d (iv (legA t).who), .d (iv (legA t).inst), .d (iv (legA t).qty), .d (iv (legA t).cost)], [.d (iv (legB t).who), .d (iv (legB t).inst), .d (iv (legB t).qty), .d (iv (legB t).cost)]]⟩ : ARow))]) ?_ ?_ ?_ ?_) (.inl ⟨rfl, rfl⟩) ?_
 ·simp only [leV, JD, QQ, Qd, Qc]; exact ⟨Qn _, Qn _, Qn _, trivial⟩
 ·exact ⟨fun _ => ⟨_, rfl, ⟨id, rfl, rfl, fun _ => rfl, id, .inl, VLess.refl _⟩⟩, fun h => by simp at h, trivial⟩
 ·simp [wfV, QY, lookR]
 ·simp [wfR, QX, QY]
 rintro m s (⟨rfl, rfl⟩ | ⟨rfl, rfl⟩ | ⟨rfl, rfl⟩)
 ·skip
  refine JA fun K2 hK2 => ?_
  refine Qz F_mixed [some 10] rfl ?_
  simp only [zzK, QR, QP, QQ, zz21, JM, zz22, zz6, QO, ↓Qb]
  refine hK2 _ ?_; try clear hK2 K2
  refine kpA [3, 8, 9, 10] ?_
  refine JA fun K2 hK2 => ?_
  refine cnA ?_ ?_
  ·intro hb
   clear hb
   refine JI ?_
   simp only [zz6, QO, ↓Qb]
   refine hK2 _ ?_; try clear hK2 K2
   refine kpA [3, 8, 9] ?_
   refine JA fun K2 hK2 => ?_
   refine JH ?_
   refine JA fun K3 hK3 => ?_
   refine Qz F_mixed [some 11, some 4] rfl ?_
   simp only [zzK, QR, QP, QQ, JC, JB, zz6, QO, ↓Qb]
   refine hK3 _ ?_; try clear hK3 K3
   refine kpA [3, 4, 8, 9] ?_
   refine awp_draw F_mixed [some 12, some 13, some 14, some 15, some 16, some 17, some 18, some 19, some 20, some 21, some 22, some 23, some 24, some 25, some 26, some 27, some 28, some 29, none, some 30, some 31, none] rfl (by kernel_rfl) ?_
   simp only [zzK, QR, QP, QQ, JC, JW, zz23, zz24, F_sl42, F_sz46, QA, zzC, yyE, Qe, zz19, F_off46_1, zzH, QN, QS, F_ok3, F_ag3, F_sz3, zz8, zzD, zz29, JM, zz37, F_off46_2, zz18, splice, QG, zz1, zzG, Int.reduceToNat, cast2, Int.reduceLT, Int.reduceLE, zz6, QO, ↓Qb]
   refine hK2 _ ?_; try clear hK2 K2
   refine kpA [3, 8, 9] ?_
   refine Qz F_mixed [some 32, some 9] rfl ?_
   simp only [zzK, QR, QP, QQ, zz21, JM, zz26, JC, Int.reduceAdd, zz6, QO, ↓Qb]
   refine ⟨1, _, by decide, le_SK id [] rfl (l' := [(3, .ref 7000 2), (8, .d (iv 2)), (9, .d (iv 1))]) (m' := [(7000, (⟨True, 46, 4, true, true, 7000, [[.d (iv (legA t).who), .d (iv (legA t).inst), .d (iv (Ql .i64 (0 - (legA t).qty))), .d (iv (Ql .i64 (0 - (legA t).cost)))], [.d (iv (legB t).who), .d (iv (legB t).inst), .d (iv (legB t).qty), .d (iv (legB t).cost)]]⟩ : ARow))]) ?_ ?_ ?_ ?_, .inr (.inl ⟨rfl, rfl⟩)⟩
   ·simp only [leV, JD, QQ, Qd, Qc]; exact ⟨Qn _, Qn _, Qn _, trivial⟩
   ·exact ⟨fun _ => ⟨_, rfl, ⟨id, rfl, rfl, fun _ => rfl, id, .inl, VLess.refl _⟩⟩, fun h => by simp at h, trivial⟩
   ·simp [wfV, QY, lookR]
   ·simp [wfR, QX, QY]
  ·intro hb
   simp at hb
 ·skip
  refine JA fun K2 hK2 => ?_
  refine Qz F_mixed [some 10] rfl ?_
  simp only [zzK, QR, QP, QQ, zz21, JM, zz22, zz6, QO, ↓Qb]
  refine hK2 _ ?_; try clear hK2 K2
  refine kpA [3, 8, 9, 10] ?_
  refine JA fun K2 hK2 => ?_
  refine cnA ?_ ?_
  ·intro hb
   clear hb
   refine JI ?_
   simp only [zz6, QO, ↓Qb]
   refine hK2 _ ?_; try clear hK2 K2
   refine kpA [3, 8, 9] ?_
   refine JA fun K2 hK2 => ?_
   refine JH ?_
   refine JA fun K3 hK3 => ?_
   refine Qz F_mixed [some 11, some 4] rfl ?_
   simp only [zzK, QR, QP, QQ, JC, JB, zz6, QO, ↓Qb]
   refine hK3 _ ?_; try clear hK3 K3
   refine kpA [3, 4, 8, 9] ?_
   refine awp_draw F_mixed [some 12, some 13, some 14, some 15, some 16, some 17, some 18, some 19, some 20, some 21, some 22, some 23, some 24, some 25, some 26, some 27, some 28, some 29, none, some 30, some 31, none] rfl (by kernel_rfl) ?_
   simp only [zzK, QR, QP, QQ, JC, JW, zz23, zz24, F_sl42, F_sz46, QA, zzC, yyE, Qe, zz19, F_off46_1, zzH, QN, QS, F_ok3, F_ag3, F_sz3, zz8, zzD, zz29, JM, zz37, F_off46_2, zz18, splice, QG, zz1, zzG, Int.reduceToNat, cast2, Int.reduceLT, Int.reduceLE, zz6, QO, ↓Qb]
   refine hK2 _ ?_; try clear hK2 K2
   refine kpA [3, 8, 9] ?_
   refine Qz F_mixed [some 32, some 9] rfl ?_
   simp only [zzK, QR, QP, QQ, zz21, JM, zz26, JC, Int.reduceAdd, zz6, QO, ↓Qb]
   refine ⟨0, _, by decide, le_SK id [] rfl (l' := [(3, .ref 7000 2), (8, .d (iv 2)), (9, .d (iv 2))]) (m' := [(7000, (⟨True, 46, 4, true, true, 7000, [[.d (iv (legA t).who), .d (iv (legA t).inst), .d (iv (Ql .i64 (0 - (legA t).qty))), .d (iv (Ql .i64 (0 - (legA t).cost)))], [.d (iv (legB t).who), .d (iv (legB t).inst), .d (iv (Ql .i64 (0 - (legB t).qty))), .d (iv (Ql .i64 (0 - (legB t).cost)))]]⟩ : ARow))]) ?_ ?_ ?_ ?_, .inr (.inr ⟨rfl, rfl⟩)⟩
   ·simp only [leV, JD, QQ, Qd, Qc]; exact ⟨Qn _, Qn _, Qn _, trivial⟩
   ·exact ⟨fun _ => ⟨_, rfl, ⟨id, rfl, rfl, fun _ => rfl, id, .inl, VLess.refl _⟩⟩, fun h => by simp at h, trivial⟩
   ·simp [wfV, QY, lookR]
   ·simp [wfR, QX, QY]
  ·intro hb
   simp at hb
 ·skip
  refine JA fun K2 hK2 => ?_
  refine Qz F_mixed [some 10] rfl ?_
  simp only [zzK, QR, QP, QQ, zz21, JM, zz22, zz6, QO, ↓Qb]
  refine hK2 _ ?_; try clear hK2 K2
  refine kpA [3, 8, 9, 10] ?_
  refine JA fun K2 hK2 => ?_
  refine cnA ?_ ?_
  ·intro hb
   simp at hb
  ·intro hb
   clear hb
   refine JK ?_
   simp only [zz6, QO, ↓Qb]
   refine hK0 _ ?_; try clear hK0 K0
   refine kpA [3] ?_
   refine JA fun K0 hK0 => ?_
   refine Qz F_mixed [some 33, some 2] rfl ?_
   simp only [zzK, QR, QP, QQ, JC, JB, zz6, QO, ↓Qb]
   refine hK0 _ ?_; try clear hK0 K0
   refine kpA [2] ?_
   refine JJ ?_
   simp only [zz6, QO, ↓Qb]
   refine done1 7000 (by simp only [resCs, resC]; trivial) ?_ (by simp [Ja, Jb, Jc, undoC, posC]) (by simp [QY, QX, undoC, posC]) (by rfl) trivial rfl rfl ?_ (by simp [flatDs, Jc, undoC, posC])
   ·simp only [QD, QE, resA, JZ, QR, QP, JD, QQ, Qd, Qc, JP]; rfl
   ·simp only [QD, QE, undoC, posC, unLeg]
theorem Undo_no (t : TradeV) (h : tradeOk t = false) : ACalls Try.prog 81 [.agg (tradeC t)] [] (.d (.v (.slice none 0 0))) := by
 refine acalls_S (rs := [.tmp 2]) Try.func81 rfl rfl 34 [(0, .d (.agg (tradeC t)))] rfl (by simp) rfl ?_
 refine JA fun K0 hK0 => ?_
 refine Qz F_mixed [some 1, some 2] rfl ?_
 simp only [zzK, QR, QP, QQ, zz35, JS, zz1, zzG, zzD, zzC, QA, yyE, Qe, QS, QN, zzH, JB, tradeC, zz6, QO, ↓Qb]
 refine hK0 _ ?_; try clear hK0 K0
 refine kpA [1] ?_
 refine JA fun K0 hK0 => ?_
 refine Qz F_mixed [some 5, some 6, some 3] rfl ?_
 simp only [zzK, QR, QP, QQ, F_ok86, F_ag86, F_sz86, zz8, zz23, zzD, QS, QN, zzH, zzC, QA, yyE, Qe, JE, JF, JB, tradeC, QW, zz6, QO, ↓Qb]
 refine JT F_go84 (fun hG => Legs_no t h) (by simp [QY, QX]) (by simp) ?_
 simp only [zzK, QR, QP, QQ, F_ok86, F_ag86, F_sz86, zz8, zz23, zzD, QS, QN, zzH, zzC, QA, yyE, Qe, JE, JF, JB, tradeC, QW, zz6, QO, ↓Qb, atsL, oksG, JV, QZ, Qa, JO, Qm, QT, QS, zz9, QB, QA, S_mem, yyF, QF, zz2]
 refine hK0 _ ?_; try clear hK0 K0
 refine kpA [3] ?_
 refine JA fun K0 hK0 => ?_
 refine JA fun K1 hK1 => ?_
 refine Qz F_mixed [some 7, some 8, some 9] rfl ?_
 simp only [zzK, QR, QP, QQ, JC, JE, zz12, F_sl42, Option.isSome_some, zz6, QO, ↓Qb]
 refine hK1 _ ?_; try clear hK1 K1
 refine kpA [3, 8, 9] ?_
 refine JH ?_
 refine JL (fun m s => s = S 34 [(3, .d (.v (.slice none 0 0))), (8, .d (iv 0)), (9, .d (iv 0))] []) 0 _ (le_S0 (l' := [(3, .d (.v (.slice none 0 0))), (8, .d (iv 0)), (9, .d (iv 0))]) ?_ ?_) rfl ?_
 ·simp only [leL, JD, QQ, Qd, Qc]; trivial
 ·simp [wfV, QY]
 rintro m s rfl
 refine JA fun K2 hK2 => ?_
 refine Qz F_mixed [some 10] rfl ?_
 simp only [zzK, QR, QP, QQ, zz21, JM, zz22, zz6, QO, ↓Qb]
 refine hK2 _ ?_; try clear hK2 K2
 refine kpA [3, 8, 9, 10] ?_
 refine JA fun K2 hK2 => ?_
 refine cnA ?_ ?_
 ·intro hb
  simp at hb
 ·intro hb
  clear hb
  refine JK ?_
  simp only [zz6, QO, ↓Qb]
  refine hK0 _ ?_; try clear hK0 K0
  refine kpA [3] ?_
  refine JA fun K0 hK0 => ?_
  refine Qz F_mixed [some 33, some 2] rfl ?_
  simp only [zzK, QR, QP, QQ, JC, JB, zz6, QO, ↓Qb]
  refine hK0 _ ?_; try clear hK0 K0
  refine kpA [2] ?_
  refine JJ ?_
  simp only [zz6, QO, ↓Qb]
  refine dnA ?_
  simp only [QD, QE, resA, JZ, QR, QP, JD, QQ, Qd, Qc, JP]
  
theorem Legs_u (t : TradeV) : ACalls Try.prog 84 [.agg (tradeC t)] [⟨46, 4, (legs t).map posC⟩] (.ref 0 (legs t).length) := by
 unfold legs
 cases h : tradeOk t
 ·exact ACalls.nil_row _ _ (Legs_no t h)
 ·exact Legs_yes t h
theorem Undo_u (t : TradeV) : ACalls Try.prog 81 [.agg (tradeC t)] [⟨46, 4, (undo t).map posC⟩] (.ref 0 (undo t).length) := by
 unfold undo legs
 cases h : tradeOk t
 ·exact ACalls.nil_row _ _ (Undo_no t h)
 ·exact Undo_yes t h
theorem twinB_ (nx : Int) (ts : List TradeV) (ps : List PosV) (ht : ts.length ≤ 1000000) (hp : ps.length ≤ 1000000) : ACalls Try.prog 83 [.agg (bookC ⟨nx, ts, ps⟩)] [⟨86, 7, ts.map tradeC⟩, ⟨46, 4, ps.map posC⟩] (.ag [.d (iv nx), .ref 0 ts.length, .ref 1 ps.length]) := by
 refine acalls_S (rs := [.cell 2 58]) Try.func83 rfl rfl 12 [(0, .d (.agg (bookC ⟨nx, ts, ps⟩)))] rfl (by simp) rfl ?_
 refine JA fun K0 hK0 => ?_
 refine Qz F_mixed [some 1, some 2] rfl ?_
 simp only [zzK, QR, QP, QQ, zz35, JS, zz1, zzG, zzD, zzC, QA, yyE, Qe, QS, QN, zzH, zz32, F_zero58, zz10, bookC, tradesB, poss, zz6, QO, ↓Qb]
 refine hK0 _ ?_; try clear hK0 K0
 refine kpA [1, 2] ?_
 refine JA fun K0 hK0 => ?_
 refine awp_draw F_mixed [some 3, some 4, some 5, some 6, some 7, some 8, some 9, some 10, some 11, none] rfl (by kernel_rfl) ?_
 simp only [zzK, QR, QP, QQ, zz19, zz23, F_off58_0, zzH, QN, QS, F_ok3, F_ag3, F_sz3, zz8, zzD, zzC, QA, yyE, Qe, F_off58_1, F_ok56, F_ag56, F_sz56, JE, JF, F_off58_2, F_ok42, F_ag42, F_sz42, F_zero58, F_bld58, zz7, splice, Option.getD_some, QG, zz1, zzG, zz10, F_fld58_0, F_fld58_1, F_fld58_2, zz18, F_ok58, F_sz58, tradesB, poss, JN, D.sl.injEq, zz6, QO, ↓Qb]
 refine JT F_go93 (fun hG => cloneTr (ts.map tradeC) (by simp [flatDs, Jc, tradeC]) (by simpa using ht)) (by simp [QY, QX]) (by simp) ?_
 simp only [zzK, QR, QP, QQ, zz19, zz23, F_off58_0, zzH, QN, QS, F_ok3, F_ag3, F_sz3, zz8, zzD, zzC, QA, yyE, Qe, F_off58_1, F_ok56, F_ag56, F_sz56, JE, JF, F_off58_2, F_ok42, F_ag42, F_sz42, F_zero58, F_bld58, zz7, splice, Option.getD_some, QG, zz1, zzG, zz10, F_fld58_0, F_fld58_1, F_fld58_2, zz18, F_ok58, F_sz58, tradesB, poss, JN, zz6, QO, ↓Qb, atsL, oksG, JV, QZ, Qa, JO, Qm, QT, QS, zz9, QB, QA, S_mem, yyF, QF, zz2]
 refine JT F_go94 (fun hG => clonePo (ps.map posC) (by simp [flatDs, Jc, posC]) (by simpa using hp)) (by simp [QY, QX]) (by simp) ?_
 simp only [zzK, QR, QP, QQ, zz19, zz23, F_off58_0, zzH, QN, QS, F_ok3, F_ag3, F_sz3, zz8, zzD, zzC, QA, yyE, Qe, F_off58_1, F_ok56, F_ag56, F_sz56, JE, JF, F_off58_2, F_ok42, F_ag42, F_sz42, F_zero58, F_bld58, zz7, splice, Option.getD_some, QG, zz1, zzG, zz10, F_fld58_0, F_fld58_1, F_fld58_2, zz18, F_ok58, F_sz58, tradesB, poss, JN, zz6, QO, ↓Qb, atsL, oksG, JV, QZ, Qa, JO, Qm, QT, QS, zz9, QB, QA, S_mem, yyF, QF, zz2]
 refine hK0 _ ?_; try clear hK0 K0
 refine kpA [2] ?_
 refine JJ ?_
 simp only [zz6, QO, ↓Qb]
 try simp only [JN]
 refine doneN [8000, 11000] (by simp [resCs, resC, S, List.getD, JD, lookR, F_ag58, F_sz58, F_ok58]) ?_ (by simp [Ja, Jb, Jc, ]) (by simp [QY, QX, ]) (by decide) ?_
 ·simp only [QD, QE, resA, JZ, S_mem, lookR_cons, lookR_nil, QR, QP, JD, QQ, Qd, Qc, JP, QI, QJ, QH, QL, QK, List.take_zero, F_ag58, F_sz58, F_ok58]; rfl
 ·exact ⟨⟨_, rfl, trivial, rfl, rfl, rfl, rfl⟩, by simp [flatDs, Jc, tradeC], ⟨_, rfl, trivial, rfl, rfl, rfl, rfl⟩, by simp [flatDs, Jc, posC], trivial⟩
theorem bOf_ (nx : Int) (ts : List TradeV) (ps : List PosV) (w n : Int) (hp : ps.length ≤ 1000000) : ACalls Try.prog 40 [.agg (bookC ⟨nx, ts, ps⟩), .agg [iv w, iv n]] [] (posA (ofP w n ps)) := by
 refine acalls_S (rs := [.cell 4 46]) Try.func40 rfl rfl 22 [(0, .d (.agg (bookC ⟨nx, ts, ps⟩))), (1, .d (.agg [iv w, iv n]))] rfl (by simp) rfl ?_
 refine JA fun K0 hK0 => ?_
 refine Qz F_mixed [some 2, some 3, some 4] rfl ?_
 simp only [zzK, QR, QP, QQ, zz35, JS, zz1, zzG, zzD, zzC, QA, yyE, Qe, QS, QN, zzH, zz32, F_zero46, zz10, bookC, tradesB, poss, zz6, QO, ↓Qb]
 refine hK0 _ ?_; try clear hK0 K0
 refine kpA [2, 3, 4] ?_
 refine JA fun K0 hK0 => ?_
 refine JA fun K1 hK1 => ?_
 refine Qz F_mixed [some 7, some 8, some 9, some 10] rfl ?_
 simp only [zzK, QR, QP, QQ, zz19, zz23, F_off58_2, zzH, QN, QS, F_ok42, F_ag42, F_sz42, zz8, zzD, zzC, QA, yyE, Qe, JE, zz12, F_sl42, Option.isSome_some, JC, JN, zz6, QO, ↓Qb]
 refine hK1 _ ?_; try clear hK1 K1
 refine kpA [3, 4, 8, 9, 10] ?_
 refine JH ?_
 refine JL (fun m s => ∃ (pre : List PosV) (post : List PosV), (ps = pre ++ post) ∧ (ofP w n ps = ofP w n post) ∧ m = post.length ∧ s = S 22 [(3, .ptr 3 0 0), (4, .ptr 4 0 0), (8, .d (poss ps)), (9, .d (iv ps.length)), (10, .d (iv pre.length))] [(3, (⟨True, 29, 2, true, false, 3, [[.d (iv w), .d (iv n)]]⟩ : ARow)), (4, (⟨True, 46, 4, true, false, 4, [[.d (iv 0), .d (iv 0), .d (iv 0), .d (iv 0)]]⟩ : ARow))]) (ps.length) _ (le_SK id [] rfl (l' := [(3, .ptr 3 0 0), (4, .ptr 4 0 0), (8, .d (poss ps)), (9, .d (iv ps.length)), (10, .d (iv [].length))]) (m' := [(3, (⟨True, 29, 2, true, false, 3, [[.d (iv w), .d (iv n)]]⟩ : ARow)), (4, (⟨True, 46, 4, true, false, 4, [[.d (iv 0), .d (iv 0), .d (iv 0), .d (iv 0)]]⟩ : ARow))]) ?_ ?_ ?_ ?_) ⟨[], ps, rfl, rfl, rfl, rfl⟩ ?_
 ·simp only [leV, JD, QQ, Qd, Qc]; exact ⟨(by first | exact Qo rfl | exact Qq (by decide) | exact Qp | exact Qn _ | exact Qs (by simp) (by rfl) | exact Qr (by simp) (by rfl) (by first | rfl | (simp; done) | (simp; omega)) | exact Qt (by first | rfl | simp)), (by first | exact Qo rfl | exact Qq (by decide) | exact Qp | exact Qn _ | exact Qs (by simp) (by rfl) | exact Qr (by simp) (by rfl) (by first | rfl | (simp; done) | (simp; omega)) | exact Qt (by first | rfl | simp)), (by first | exact Qo rfl | exact Qq (by decide) | exact Qp | exact Qn _ | exact Qs (by simp) (by rfl) | exact Qr (by simp) (by rfl) (by first | rfl | (simp; done) | (simp; omega)) | exact Qt (by first | rfl | simp)), (by first | exact Qo rfl | exact Qq (by decide) | exact Qp | exact Qn _ | exact Qs (by simp) (by rfl) | exact Qr (by simp) (by rfl) (by first | rfl | (simp; done) | (simp; omega)) | exact Qt (by first | rfl | simp)), (by first | exact Qo rfl | exact Qq (by decide) | exact Qp | exact Qn _ | exact Qs (by simp) (by rfl) | exact Qr (by simp) (by rfl) (by first | rfl | (simp; done) | (simp; omega)) | exact Qt (by first | rfl | simp)), trivial⟩
 ·exact ⟨fun _ => ⟨_, rfl, (by first | exact Qw (by first | rfl | simp) | exact Qx (by first | rfl | simp) (by simp) ids_data | exact Qv (by simp [QX, QY]) | exact Qu (by simp) (by simp [QX, QY]))⟩, fun h => by simp at h, fun _ => ⟨_, rfl, (by first | exact Qw (by first | rfl | simp) | exact Qx (by first | rfl | simp) (by simp) ids_data | exact Qv (by simp [QX, QY]) | exact Qu (by simp) (by simp [QX, QY]))⟩, fun h => by simp at h, trivial⟩
 ·simp [wfV, QY, QX, lookR, grow]
 ·exact ⟨by simp [QX, QY, lookR], by simp [QX, QY, lookR], trivial⟩
 rintro m s ⟨pre, post, hsp, ho, rfl, rfl⟩
 have hspl := congrArg List.length hsp
 simp only [QC] at hspl
 refine JA fun K2 hK2 => ?_
 refine Qz F_mixed [some 11] rfl ?_
 simp only [zzK, QR, QP, QQ, zz21, JM, zz22, zz6, QO, ↓Qb]
 refine hK2 _ ?_; try clear hK2 K2
 refine kpA [3, 4, 8, 9, 10, 11] ?_
 refine JA fun K2 hK2 => ?_
 refine cnA ?_ ?_
 ·intro hb
  obtain ⟨x, post2, rfl⟩ : ∃ x t, post = x :: t := by
   cases post with
   | nil => have := Qg hb; simp at hspl; omega
   | cons x t => exact ⟨x, t, rfl⟩
  clear hb
  simp only [QF] at hspl
  have gx : (ps.map posC).getD pre.length [] = [iv x.who, iv x.inst, iv x.qty, iv x.cost] := by
   rw [hsp, List.map_append]; exact gd_mid' (A := pre.map posC) _ _ (by simp)
  have bx := ltI (show pre.length < ps.length by omega)
  have hwx : Ql .i64 ((pre.length : Int) + 1) = ((pre ++ [x]).length : Int) := by rw [wrapI (by omega) (by omega)]; simp
  refine JI ?_
  simp only [zz6, QO, ↓Qb]
  refine hK2 _ ?_; try clear hK2 K2
  refine kpA [3, 4, 8, 9, 10] ?_
  refine JA fun K2 hK2 => ?_
  refine JH ?_
  refine JA fun K3 hK3 => ?_
  refine Qz F_mixed [some 12, some 13, some 6, none] rfl ?_
  simp only [zzK, QR, QP, QQ, JW, zz23, zz24, F_sl42, F_sz46, QA, zzC, yyE, Qe, F_ok46, F_ag46, zz8, zzD, QS, QN, zzH, zz32, JS, F_zero46, zz10, zz18, splice, QG, zz1, zzG, poss, posC, gx, bx, hwx, JN, ge0, QV, QW, zz6, QO, ↓Qb]
  refine hK3 _ ?_; try clear hK3 K3
  refine kpA [3, 4, 6, 8, 9, 10] ?_
  refine JA fun K3 hK3 => ?_
  refine Qz F_mixed [some 14, some 15, some 16, some 17] rfl ?_
  simp only [zzK, QR, QP, QQ, zz19, zz23, F_off46_0, zzH, QN, QS, F_ok29, F_ag29, F_sz29, zz8, zzD, zzC, QA, yyE, Qe, zz21, JM, gr_ag, gr_agg, grL_cons, grL_nil, grD_cons, grD_nil, b_eqla, b_neqa, F_eql29, posC, QW, veqL, veq, zz6, QO, ↓Qb]
  refine hK3 _ ?_; try clear hK3 K3
  refine kpA [3, 4, 6, 8, 9, 10, 17] ?_
  refine cnA ?_ ?_
  ·intro hb
   have hs : kSame w n x = true := by simpa [kSame] using hb
   clear hb
   refine JA fun K4 hK4 => ?_
   refine Qz F_mixed [some 18, none] rfl ?_
   simp only [zzK, QR, QP, QQ, F_ok46, F_ag46, F_sz46, zz8, zz23, zzD, QS, QN, zzH, zzC, QA, yyE, Qe, zz18, splice, QG, zz1, zzG, posC, QW, zz6, QO, ↓Qb]
   refine hK4 _ ?_; try clear hK4 K4
   refine kpA [4] ?_
   refine JJ ?_
   simp only [zz6, QO, ↓Qb]
   refine done0 (by simp [resCs, resC, S, List.getD, JD, lookR, F_ag46, F_sz46, F_ok46]) ?_ (by simp [Ja, Jb, Jc, posA]) (by simp [QY, QX, posA])
   simp only [QD, QE, resA, JZ, S_mem, lookR_cons, lookR_nil, QR, QP, JD, QQ, Qd, Qc, JP, QI, QJ, QH, QL, QK, List.take_zero, F_ag46, F_sz46, F_ok46]
   rw [ho, ofP, hs]; rfl
  ·intro hb
   have hs : kSame w n x = false := by simpa [kSame] using hb
   clear hb
   refine JI ?_
   simp only [zz6, QO, ↓Qb]
   refine hK2 _ ?_; try clear hK2 K2
   refine kpA [3, 4, 8, 9, 10] ?_
   refine Qz F_mixed [some 19, some 10] rfl ?_
   simp only [zzK, QR, QP, QQ, zz21, JM, zz26, JC, hwx, zz6, QO, ↓Qb]
   refine ⟨post2.length, _, by simp, le_SK id [] rfl (l' := [(3, .ptr 3 0 0), (4, .ptr 4 0 0), (8, .d (poss ps)), (9, .d (iv ps.length)), (10, .d (iv (pre ++ [x]).length))]) (m' := [(3, (⟨True, 29, 2, true, false, 3, [[.d (iv w), .d (iv n)]]⟩ : ARow)), (4, (⟨True, 46, 4, true, false, 4, [[.d (iv 0), .d (iv 0), .d (iv 0), .d (iv 0)]]⟩ : ARow))]) ?_ ?_ ?_ ?_, (pre ++ [x]), post2, by simp [hsp], by rw [ho, ofP, hs]; rfl, rfl, rfl⟩
   ·simp only [leV, JD, QQ, Qd, Qc, hwx]; exact ⟨(by first | exact Qo rfl | exact Qq (by decide) | exact Qp | exact Qn _ | exact Qs (by simp) (by rfl) | exact Qr (by simp) (by rfl) (by first | rfl | (simp; done) | (simp; omega)) | exact Qt (by first | rfl | simp)), (by first | exact Qo rfl | exact Qq (by decide) | exact Qp | exact Qn _ | exact Qs (by simp) (by rfl) | exact Qr (by simp) (by rfl) (by first | rfl | (simp; done) | (simp; omega)) | exact Qt (by first | rfl | simp)), (by first | exact Qo rfl | exact Qq (by decide) | exact Qp | exact Qn _ | exact Qs (by simp) (by rfl) | exact Qr (by simp) (by rfl) (by first | rfl | (simp; done) | (simp; omega)) | exact Qt (by first | rfl | simp)), (by first | exact Qo rfl | exact Qq (by decide) | exact Qp | exact Qn _ | exact Qs (by simp) (by rfl) | exact Qr (by simp) (by rfl) (by first | rfl | (simp; done) | (simp; omega)) | exact Qt (by first | rfl | simp)), (by first | exact Qo rfl | exact Qq (by decide) | exact Qp | exact Qn _ | exact Qs (by simp) (by rfl) | exact Qr (by simp) (by rfl) (by first | rfl | (simp; done) | (simp; omega)) | exact Qt (by first | rfl | simp)), trivial⟩
   ·exact ⟨fun _ => ⟨_, rfl, (by first | exact Qw (by first | rfl | simp) | exact Qx (by first | rfl | simp) (by simp) ids_data | exact Qv (by simp [QX, QY]) | exact Qu (by simp) (by simp [QX, QY]))⟩, fun h => by simp at h, fun _ => ⟨_, rfl, (by first | exact Qw (by first | rfl | simp) | exact Qx (by first | rfl | simp) (by simp) ids_data | exact Qv (by simp [QX, QY]) | exact Qu (by simp) (by simp [QX, QY]))⟩, fun h => by simp at h, trivial⟩
   ·simp [wfV, QY, QX, lookR, grow]
   ·exact ⟨by simp [QX, QY, lookR], by simp [QX, QY, lookR], trivial⟩
 ·intro hb
  obtain rfl : post = [] := by
   cases post with
   | nil => rfl
   | cons x t => have := Qf hb; simp at hspl; omega
  clear hb
  simp only [QG] at hsp
  subst hsp
  refine JK ?_
  simp only [zz6, QO, ↓Qb]
  refine hK0 _ ?_; try clear hK0 K0
  refine kpA [3, 4] ?_
  refine JA fun K0 hK0 => ?_
  refine Qz F_mixed [some 20, some 21, none] rfl ?_
  simp only [zzK, QR, QP, QQ, F_ok29, F_ag29, F_sz29, zz8, zz23, zzD, QS, QN, zzH, zzC, QA, yyE, Qe, F_zero46, F_bld46, zz7, splice, Option.getD_some, QG, zz1, zzG, zz10, F_fld46_0, zz18, F_ok46, F_sz46, zz6, QO, ↓Qb]
  refine hK0 _ ?_; try clear hK0 K0
  refine kpA [4] ?_
  refine JJ ?_
  simp only [zz6, QO, ↓Qb]
  refine done0 (by simp [resCs, resC, S, List.getD, JD, lookR, F_ag46, F_sz46, F_ok46]) ?_ (by simp [Ja, Jb, Jc, posA]) (by simp [QY, QX, posA])
  simp only [QD, QE, resA, JZ, S_mem, lookR_cons, lookR_nil, QR, QP, JD, QQ, Qd, Qc, JP, QI, QJ, QH, QL, QK, List.take_zero, F_ag46, F_sz46, F_ok46]
  rw [ho]; rfl
set_option maxRecDepth 100000 in
set_option maxHeartbeats 4000000 in
theorem joined_ (w n : Int) (ps g : List PosV) (hp : ps.length ≤ 200000) (hg : g.length ≤ 200000) : ACalls Try.prog 92 [.agg [iv w, iv n], poss ps, poss g] [] (.tp [posA (jPos (ps ++ g) (w, n)), .d (iv (jErr (ps ++ g) (w, n)))]) := by
 refine acalls_S (rs := [.cell 6 46, .tmp 7]) Try.func92 rfl rfl 61 [(0, .d (.agg [iv w, iv n])), (1, .d (poss ps)), (2, .d (poss g))] rfl (by simp) rfl ?_
 refine JA fun K0 hK0 => ?_
 refine Qz F_mixed [some 3, some 6, some 7] rfl ?_
 simp only [zzK, QR, QP, QQ, zz35, JS, zz1, zzG, zzD, zzC, QA, yyE, Qe, QS, QN, zzH, zz32, F_zero46, zz10, JB, zz6, QO, ↓Qb]
 refine hK0 _ ?_; try clear hK0 K0
 refine kpA [1, 2, 3, 6] ?_
 refine JA fun K0 hK0 => ?_
 refine Qz F_mixed [some 8] rfl ?_
 simp only [zzK, QR, QP, QQ, JB, zz6, QO, ↓Qb]
 refine hK0 _ ?_; try clear hK0 K0
 refine kpA [1, 2, 3, 6, 8] ?_
 refine JA fun K0 hK0 => ?_
 refine JA fun K1 hK1 => ?_
 refine Qz F_mixed [some 16, some 17, some 18, some 19, some 20] rfl ?_
 simp only [zzK, QR, QP, QQ, JC, F_sl145, F_zero42, F_sz42, zz3, JS, zz1, zzG, zzD, zzC, QA, yyE, Qe, QS, QN, zzH, maxLen_le, QT, JE, zz12, Option.isSome_some, poss, zz6, QO, ↓Qb]
 refine hK1 _ ?_; try clear hK1 K1
 refine kpA [3, 6, 8, 18, 19, 20] ?_
 refine JH ?_
 refine JL (fun m s => ∃ (c : Nat), (c ≤ 2) ∧ m = 2 - c ∧ s = S 61 [(3, .ptr 3 0 0), (6, .ptr 6 0 0), (8, .ref 8 (jp w n ps g c).length), (18, .ref 18 2), (19, .d (iv 2)), (20, .d (iv ((c : Nat) : Int)))] [(3, (⟨True, 29, 2, true, false, 3, [[.d (iv w), .d (iv n)]]⟩ : ARow)), (6, (⟨True, 46, 4, true, false, 6, [[.d (iv 0), .d (iv 0), .d (iv 0), .d (iv 0)]]⟩ : ARow)), (18, (⟨True, 42, 1, true, true, 18, [[.d (poss ps)], [.d (poss g)]]⟩ : ARow)), (8, grow 46 4 8 ((jp w n ps g c).map posC))]) (2) _ (le_SK id [8] rfl (l' := [(3, .ptr 3 0 0), (6, .ptr 6 0 0), (8, .ref 8 (jp w n ps g 0).length), (18, .ref 18 2), (19, .d (iv 2)), (20, .d (iv ((0 : Nat) : Int)))]) (m' := [(3, (⟨True, 29, 2, true, false, 3, [[.d (iv w), .d (iv n)]]⟩ : ARow)), (6, (⟨True, 46, 4, true, false, 6, [[.d (iv 0), .d (iv 0), .d (iv 0), .d (iv 0)]]⟩ : ARow)), (18, (⟨True, 42, 1, true, true, 18, [[.d (poss ps)], [.d (poss g)]]⟩ : ARow)), (8, grow 46 4 8 ((jp w n ps g 0).map posC))]) ?_ ?_ ?_ ?_) ⟨0, by omega, rfl, rfl⟩ ?_
 ·simp only [leV, JD, QQ, Qd, Qc]; exact ⟨(by first | exact Qo rfl | exact Qq (by decide) | exact Qp | exact Qn _ | exact Qs (by simp) (by rfl) | exact Qr (by simp) (by rfl) (by first | rfl | (simp; done) | (simp; omega)) | exact Qt (by first | rfl | simp)), (by first | exact Qo rfl | exact Qq (by decide) | exact Qp | exact Qn _ | exact Qs (by simp) (by rfl) | exact Qr (by simp) (by rfl) (by first | rfl | (simp; done) | (simp; omega)) | exact Qt (by first | rfl | simp)), (by first | exact Qo rfl | exact Qq (by decide) | exact Qp | exact Qn _ | exact Qs (by simp) (by rfl) | exact Qr (by simp) (by rfl) (by first | rfl | (simp; done) | (simp; omega)) | exact Qt (by first | rfl | simp)), (by first | exact Qo rfl | exact Qq (by decide) | exact Qp | exact Qn _ | exact Qs (by simp) (by rfl) | exact Qr (by simp) (by rfl) (by first | rfl | (simp; done) | (simp; omega)) | exact Qt (by first | rfl | simp)), (by first | exact Qo rfl | exact Qq (by decide) | exact Qp | exact Qn _ | exact Qs (by simp) (by rfl) | exact Qr (by simp) (by rfl) (by first | rfl | (simp; done) | (simp; omega)) | exact Qt (by first | rfl | simp)), (by first | exact Qo rfl | exact Qq (by decide) | exact Qp | exact Qn _ | exact Qs (by simp) (by rfl) | exact Qr (by simp) (by rfl) (by first | rfl | (simp; done) | (simp; omega)) | exact Qt (by first | rfl | simp)), trivial⟩
 ·exact ⟨fun _ => ⟨_, rfl, (by first | exact Qw (by first | rfl | simp) | exact Qx (by first | rfl | simp) (by simp) ids_data | exact Qv (by simp [QX, QY]) | exact Qu (by simp) (by simp [QX, QY]))⟩, fun h => by simp at h, fun _ => ⟨_, rfl, (by first | exact Qw (by first | rfl | simp) | exact Qx (by first | rfl | simp) (by simp) ids_data | exact Qv (by simp [QX, QY]) | exact Qu (by simp) (by simp [QX, QY]))⟩, fun h => by simp at h, fun _ => ⟨_, rfl, Qu rfl (by simp [QX, QY])⟩, fun h => by simp at h, fun h => by simp at h, fun _ => rfl, trivial⟩
 ·simp [wfV, QY, QX, lookR, grow]
 ·exact ⟨by simp [QX, QY, lookR], by simp [QX, QY, lookR], by simp [QX, QY, lookR], wf_data _ _, trivial⟩
 rintro m s ⟨c, hc2, rfl, rfl⟩
 refine JA fun K2 hK2 => ?_
 refine Qz F_mixed [some 21] rfl ?_
 simp only [zzK, QR, QP, QQ, zz21, JM, zz22, zz6, QO, ↓Qb]
 refine hK2 _ ?_; try clear hK2 K2
 refine kpA [3, 6, 8, 18, 19, 20, 21] ?_
 refine JA fun K2 hK2 => ?_
 refine cnA ?_ ?_
 ·intro hb
  have hlt : c < 2 := by have := Qg hb; omega
  clear hb
  have hwc : Ql .i64 ((c : Int) + 1) = ((c + 1 : Nat) : Int) := by rw [wrapI (by omega) (by omega)]; omega
  have hjs := jp_step w n ps g hlt
  have gl : ([[AV.d (.sl 4 (ps.map posC))], [AV.d (.sl 4 (g.map posC))]] : List (List AV)).getD c [] = [AV.d (.sl 4 ((lcc ps g c).map posC))] := by
   have : c = 0 ∨ c = 1 := by omega
   rcases this with rfl | rfl <;> rfl
  have bl : ((c : Int) < ((2 : Nat) : Int)) = True := ltI hlt
  have hjl := jp_len w n ps g c
  have hll := lcc_len ps g c
  refine JI ?_
  simp only [zz6, QO, ↓Qb]
  refine hK2 _ ?_; try clear hK2 K2
  refine kpA [3, 6, 8, 18, 19, 20] ?_
  refine JA fun K2 hK2 => ?_
  refine JH ?_
  refine JA fun K3 hK3 => ?_
  refine Qz F_mixed [some 22, some 23, some 10] rfl ?_
  simp only [zzK, QR, QP, QQ, JW, zz23, zz24, F_sl145, F_sz42, QA, zzC, yyE, Qe, F_ok42, F_ag42, zz8, zzD, QS, QN, zzH, JB, poss, gl, bl, ge0, QV, zz6, QO, ↓Qb]
  first | refine ⟨by omega, ?_⟩ | refine ⟨⟨by omega, by simp⟩, ?_⟩ | skip
  refine hK3 _ ?_; try clear hK3 K3
  refine kpA [3, 6, 8, 10, 18, 19, 20] ?_
  refine JA fun K3 hK3 => ?_
  refine Qz F_mixed [some 24, some 25, some 26] rfl ?_
  simp only [zzK, QR, QP, QQ, JC, JE, zz12, F_sl42, Option.isSome_some, JN, zz6, QO, ↓Qb]
  refine hK3 _ ?_; try clear hK3 K3
  refine kpA [3, 6, 8, 18, 19, 20, 24, 25, 26] ?_
  refine JH ?_
  refine JL (fun m s => ∃ (kp : List PosV) (kq : List PosV), (lcc ps g c = kp ++ kq) ∧ m = kq.length ∧ s = S 61 [(3, .ptr 3 0 0), (6, .ptr 6 0 0), (8, .ref 8 (jp w n ps g c ++ kF w n kp).length), (18, .ref 18 2), (19, .d (iv 2)), (20, .d (iv ((c : Nat) : Int))), (24, .d (poss (lcc ps g c))), (25, .d (iv (lcc ps g c).length)), (26, .d (iv kp.length))] [(3, (⟨True, 29, 2, true, false, 3, [[.d (iv w), .d (iv n)]]⟩ : ARow)), (6, (⟨True, 46, 4, true, false, 6, [[.d (iv 0), .d (iv 0), .d (iv 0), .d (iv 0)]]⟩ : ARow)), (18, (⟨True, 42, 1, true, true, 18, [[.d (poss ps)], [.d (poss g)]]⟩ : ARow)), (8, grow 46 4 8 ((jp w n ps g c ++ kF w n kp).map posC))]) ((lcc ps g c).length) _ (le_SK id [] rfl (l' := [(3, .ptr 3 0 0), (6, .ptr 6 0 0), (8, .ref 8 (jp w n ps g c ++ kF w n []).length), (18, .ref 18 2), (19, .d (iv 2)), (20, .d (iv ((c : Nat) : Int))), (24, .d (poss (lcc ps g c))), (25, .d (iv (lcc ps g c).length)), (26, .d (iv [].length))]) (m' := [(3, (⟨True, 29, 2, true, false, 3, [[.d (iv w), .d (iv n)]]⟩ : ARow)), (6, (⟨True, 46, 4, true, false, 6, [[.d (iv 0), .d (iv 0), .d (iv 0), .d (iv 0)]]⟩ : ARow)), (18, (⟨True, 42, 1, true, true, 18, [[.d (poss ps)], [.d (poss g)]]⟩ : ARow)), (8, grow 46 4 8 ((jp w n ps g c ++ kF w n []).map posC))]) ?_ ?_ ?_ ?_) ⟨[], (lcc ps g c), rfl, rfl, rfl⟩ ?_
  ·simp only [leV, JD, QQ, Qd, Qc]; exact ⟨(by first | exact Qo rfl | exact Qq (by decide) | exact Qp | exact Qn _ | exact Qs (by simp) (by rfl) | exact Qr (by simp) (by rfl) (by first | rfl | (simp; done) | (simp; omega)) | exact Qt (by first | rfl | simp)), (by first | exact Qo rfl | exact Qq (by decide) | exact Qp | exact Qn _ | exact Qs (by simp) (by rfl) | exact Qr (by simp) (by rfl) (by first | rfl | (simp; done) | (simp; omega)) | exact Qt (by first | rfl | simp)), (Qr (by simp) rfl (by simp [kF])), (by first | exact Qo rfl | exact Qq (by decide) | exact Qp | exact Qn _ | exact Qs (by simp) (by rfl) | exact Qr (by simp) (by rfl) (by first | rfl | (simp; done) | (simp; omega)) | exact Qt (by first | rfl | simp)), (by first | exact Qo rfl | exact Qq (by decide) | exact Qp | exact Qn _ | exact Qs (by simp) (by rfl) | exact Qr (by simp) (by rfl) (by first | rfl | (simp; done) | (simp; omega)) | exact Qt (by first | rfl | simp)), (by first | exact Qo rfl | exact Qq (by decide) | exact Qp | exact Qn _ | exact Qs (by simp) (by rfl) | exact Qr (by simp) (by rfl) (by first | rfl | (simp; done) | (simp; omega)) | exact Qt (by first | rfl | simp)), (by first | exact Qo rfl | exact Qq (by decide) | exact Qp | exact Qn _ | exact Qs (by simp) (by rfl) | exact Qr (by simp) (by rfl) (by first | rfl | (simp; done) | (simp; omega)) | exact Qt (by first | rfl | simp)), (by first | exact Qo rfl | exact Qq (by decide) | exact Qp | exact Qn _ | exact Qs (by simp) (by rfl) | exact Qr (by simp) (by rfl) (by first | rfl | (simp; done) | (simp; omega)) | exact Qt (by first | rfl | simp)), (by first | exact Qo rfl | exact Qq (by decide) | exact Qp | exact Qn _ | exact Qs (by simp) (by rfl) | exact Qr (by simp) (by rfl) (by first | rfl | (simp; done) | (simp; omega)) | exact Qt (by first | rfl | simp)), trivial⟩
  ·exact ⟨fun _ => ⟨_, rfl, (by first | exact Qw (by first | rfl | simp) | exact Qx (by first | rfl | simp) (by simp) ids_data | exact Qv (by simp [QX, QY]) | exact Qu (by simp) (by simp [QX, QY]))⟩, fun h => by simp at h, fun _ => ⟨_, rfl, (by first | exact Qw (by first | rfl | simp) | exact Qx (by first | rfl | simp) (by simp) ids_data | exact Qv (by simp [QX, QY]) | exact Qu (by simp) (by simp [QX, QY]))⟩, fun h => by simp at h, fun _ => ⟨_, rfl, Qu rfl (by simp [QX, QY])⟩, fun h => by simp at h, fun _ => ⟨_, rfl, Qw (by simp [kF])⟩, fun h => by simp at h, trivial⟩
  ·simp [wfV, QY, QX, lookR, grow]
  ·exact ⟨by simp [QX, QY, lookR], by simp [QX, QY, lookR], by simp [QX, QY, lookR], wf_data _ _, trivial⟩
  rintro m s ⟨kp, kq, hks, rfl, rfl⟩
  have hksl := congrArg List.length hks
  simp only [QC] at hksl
  have hkl := kF_len w n kp
  refine JA fun K4 hK4 => ?_
  refine Qz F_mixed [some 27] rfl ?_
  simp only [zzK, QR, QP, QQ, zz21, JM, zz22, zz6, QO, ↓Qb]
  refine hK4 _ ?_; try clear hK4 K4
  refine kpA [3, 6, 8, 18, 19, 20, 24, 25, 26, 27] ?_
  refine JA fun K4 hK4 => ?_
  refine cnA ?_ ?_
  ·intro hb
   obtain ⟨x, kq2, rfl⟩ : ∃ x t, kq = x :: t := by
    cases kq with
    | nil => have := Qg hb; simp at hksl; omega
    | cons x t => exact ⟨x, t, rfl⟩
   clear hb
   simp only [QF] at hksl
   have gx : ((lcc ps g c).map posC).getD kp.length [] = [iv x.who, iv x.inst, iv x.qty, iv x.cost] := by
    rw [hks, List.map_append]; exact gd_mid' (A := kp.map posC) _ _ (by simp)
   have bx := ltI (show kp.length < (lcc ps g c).length by omega)
   have hwx : Ql .i64 ((kp.length : Int) + 1) = ((kp ++ [x]).length : Int) := by rw [wrapI (by omega) (by omega)]; simp
   refine JI ?_
   simp only [zz6, QO, ↓Qb]
   refine hK4 _ ?_; try clear hK4 K4
   refine kpA [3, 6, 8, 18, 19, 20, 24, 25, 26] ?_
   refine JA fun K4 hK4 => ?_
   refine JH ?_
   refine JA fun K5 hK5 => ?_
   refine Qz F_mixed [some 28, some 29, some 12, none] rfl ?_
   simp only [zzK, QR, QP, QQ, JW, zz23, zz24, F_sl42, F_sz46, QA, zzC, yyE, Qe, F_ok46, F_ag46, zz8, zzD, QS, QN, zzH, zz32, JS, F_zero46, zz10, zz18, splice, QG, zz1, zzG, poss, posC, gx, bx, hwx, JN, ge0, QV, QW, zz6, QO, ↓Qb]
   refine hK5 _ ?_; try clear hK5 K5
   refine kpA [3, 6, 8, 12, 18, 19, 20, 24, 25, 26] ?_
   refine JA fun K5 hK5 => ?_
   refine Qz F_mixed [some 30, some 31, some 32, some 33] rfl ?_
   simp only [zzK, QR, QP, QQ, zz19, zz23, F_off46_0, zzH, QN, QS, F_ok29, F_ag29, F_sz29, zz8, zzD, zzC, QA, yyE, Qe, zz21, JM, gr_ag, gr_agg, grL_cons, grL_nil, grD_cons, grD_nil, b_eqla, b_neqa, F_eql29, posC, QW, veqL, veq, zz6, QO, ↓Qb]
   refine hK5 _ ?_; try clear hK5 K5
   refine kpA [3, 6, 8, 12, 18, 19, 20, 24, 25, 26, 33] ?_
   refine cnA ?_ ?_
   ·intro hb
    have hs : kSame w n x = true := by simpa [kSame] using hb
    clear hb
    have hsl : jp w n ps g c ++ kF w n (kp ++ [x]) = (jp w n ps g c ++ kF w n kp) ++ [x] := by rw [kF_yes hs, List.append_assoc]
    refine Qz F_mixed [some 34, some 35, some 36, some 37, some 8] rfl ?_
    simp only [zzK, QR, QP, QQ, JC, F_ok46, F_ag46, F_sz46, zz8, zz23, zzD, QS, QN, zzH, zzC, QA, yyE, Qe, F_sl42, F_zero46, zz3, JS, zz1, zzG, maxLen_le, QT, JE, F_by46, zz4, zz9, QB, JB, posC, grow, unDs_map, QW, zz6, QO, ↓Qb]
    have hm : (jp w n ps g c ++ kF w n kp).length + 1 ≤ 1000000 := by first | omega | (simp; omega)
    first | refine ⟨le_maxLen hm, by omega, ?_⟩ | refine ⟨by simp, le_maxLen hm, by omega, ?_⟩
    clear hm
    refine hK4 _ ?_; try clear hK4 K4
    refine kpA [3, 6, 8, 18, 19, 20, 24, 25, 26] ?_
    refine Qz F_mixed [some 38, some 26] rfl ?_
    simp only [zzK, QR, QP, QQ, zz21, JM, zz26, JC, hwx, zz6, QO, ↓Qb]
    refine ⟨kq2.length, _, by simp, le_SK (fun r => bif r == 8 then 37 else r) [] rfl (l' := [(3, .ptr 3 0 0), (6, .ptr 6 0 0), (8, .ref 8 (jp w n ps g c ++ kF w n (kp ++ [x])).length), (18, .ref 18 2), (19, .d (iv 2)), (20, .d (iv ((c : Nat) : Int))), (24, .d (poss (lcc ps g c))), (25, .d (iv (lcc ps g c).length)), (26, .d (iv (kp ++ [x]).length))]) (m' := [(3, (⟨True, 29, 2, true, false, 3, [[.d (iv w), .d (iv n)]]⟩ : ARow)), (6, (⟨True, 46, 4, true, false, 6, [[.d (iv 0), .d (iv 0), .d (iv 0), .d (iv 0)]]⟩ : ARow)), (18, (⟨True, 42, 1, true, true, 18, [[.d (poss ps)], [.d (poss g)]]⟩ : ARow)), (8, grow 46 4 8 ((jp w n ps g c ++ kF w n (kp ++ [x])).map posC))]) ?_ ?_ ?_ ?_, (kp ++ [x]), kq2, by simp [hks], rfl, rfl⟩
    ·simp only [leV, JD, QQ, Qd, Qc, hwx, hsl]; exact ⟨(by first | exact Qo rfl | exact Qq (by decide) | exact Qp | exact Qn _ | exact Qs (by simp) (by rfl) | exact Qr (by simp) (by rfl) (by first | rfl | (simp; done) | (simp; omega)) | exact Qt (by first | rfl | simp)), (by first | exact Qo rfl | exact Qq (by decide) | exact Qp | exact Qn _ | exact Qs (by simp) (by rfl) | exact Qr (by simp) (by rfl) (by first | rfl | (simp; done) | (simp; omega)) | exact Qt (by first | rfl | simp)), (by first | exact Qo rfl | exact Qq (by decide) | exact Qp | exact Qn _ | exact Qs (by simp) (by rfl) | exact Qr (by simp) (by rfl) (by first | rfl | (simp; done) | (simp; omega)) | exact Qt (by first | rfl | simp)), (by first | exact Qo rfl | exact Qq (by decide) | exact Qp | exact Qn _ | exact Qs (by simp) (by rfl) | exact Qr (by simp) (by rfl) (by first | rfl | (simp; done) | (simp; omega)) | exact Qt (by first | rfl | simp)), (by first | exact Qo rfl | exact Qq (by decide) | exact Qp | exact Qn _ | exact Qs (by simp) (by rfl) | exact Qr (by simp) (by rfl) (by first | rfl | (simp; done) | (simp; omega)) | exact Qt (by first | rfl | simp)), (by first | exact Qo rfl | exact Qq (by decide) | exact Qp | exact Qn _ | exact Qs (by simp) (by rfl) | exact Qr (by simp) (by rfl) (by first | rfl | (simp; done) | (simp; omega)) | exact Qt (by first | rfl | simp)), (by first | exact Qo rfl | exact Qq (by decide) | exact Qp | exact Qn _ | exact Qs (by simp) (by rfl) | exact Qr (by simp) (by rfl) (by first | rfl | (simp; done) | (simp; omega)) | exact Qt (by first | rfl | simp)), (by first | exact Qo rfl | exact Qq (by decide) | exact Qp | exact Qn _ | exact Qs (by simp) (by rfl) | exact Qr (by simp) (by rfl) (by first | rfl | (simp; done) | (simp; omega)) | exact Qt (by first | rfl | simp)), (by first | exact Qo rfl | exact Qq (by decide) | exact Qp | exact Qn _ | exact Qs (by simp) (by rfl) | exact Qr (by simp) (by rfl) (by first | rfl | (simp; done) | (simp; omega)) | exact Qt (by first | rfl | simp)), trivial⟩
    ·exact ⟨fun _ => ⟨_, rfl, (by first | exact Qw (by first | rfl | simp) | exact Qx (by first | rfl | simp) (by simp) ids_data | exact Qv (by simp [QX, QY]) | exact Qu (by simp) (by simp [QX, QY]))⟩, fun h => by simp at h, fun _ => ⟨_, rfl, (by first | exact Qw (by first | rfl | simp) | exact Qx (by first | rfl | simp) (by simp) ids_data | exact Qv (by simp [QX, QY]) | exact Qu (by simp) (by simp [QX, QY]))⟩, fun h => by simp at h, fun _ => ⟨_, rfl, Qu rfl (by simp [QX, QY])⟩, fun h => by simp at h, fun _ => ⟨_, rfl, Qw (by rw [hsl]; simp [posC])⟩, fun h => by simp at h, trivial⟩
    ·simp [wfV, QY, QX, lookR, grow]
    ·exact ⟨by simp [QX, QY, lookR], by simp [QX, QY, lookR], by simp [QX, QY, lookR], wf_data _ _, trivial⟩
   ·intro hb
    have hs : kSame w n x = false := by simpa [kSame] using hb
    clear hb
    have hsl : jp w n ps g c ++ kF w n (kp ++ [x]) = jp w n ps g c ++ kF w n kp := by rw [kF_no hs]
    refine JI ?_
    simp only [zz6, QO, ↓Qb]
    refine hK4 _ ?_; try clear hK4 K4
    refine kpA [3, 6, 8, 18, 19, 20, 24, 25, 26] ?_
    refine Qz F_mixed [some 38, some 26] rfl ?_
    simp only [zzK, QR, QP, QQ, zz21, JM, zz26, JC, hwx, zz6, QO, ↓Qb]
    refine ⟨kq2.length, _, by simp, le_SK id [] rfl (l' := [(3, .ptr 3 0 0), (6, .ptr 6 0 0), (8, .ref 8 (jp w n ps g c ++ kF w n (kp ++ [x])).length), (18, .ref 18 2), (19, .d (iv 2)), (20, .d (iv ((c : Nat) : Int))), (24, .d (poss (lcc ps g c))), (25, .d (iv (lcc ps g c).length)), (26, .d (iv (kp ++ [x]).length))]) (m' := [(3, (⟨True, 29, 2, true, false, 3, [[.d (iv w), .d (iv n)]]⟩ : ARow)), (6, (⟨True, 46, 4, true, false, 6, [[.d (iv 0), .d (iv 0), .d (iv 0), .d (iv 0)]]⟩ : ARow)), (18, (⟨True, 42, 1, true, true, 18, [[.d (poss ps)], [.d (poss g)]]⟩ : ARow)), (8, grow 46 4 8 ((jp w n ps g c ++ kF w n (kp ++ [x])).map posC))]) ?_ ?_ ?_ ?_, (kp ++ [x]), kq2, by simp [hks], rfl, rfl⟩
    ·simp only [leV, JD, QQ, Qd, Qc, hwx, hsl]; exact ⟨(by first | exact Qo rfl | exact Qq (by decide) | exact Qp | exact Qn _ | exact Qs (by simp) (by rfl) | exact Qr (by simp) (by rfl) (by first | rfl | (simp; done) | (simp; omega)) | exact Qt (by first | rfl | simp)), (by first | exact Qo rfl | exact Qq (by decide) | exact Qp | exact Qn _ | exact Qs (by simp) (by rfl) | exact Qr (by simp) (by rfl) (by first | rfl | (simp; done) | (simp; omega)) | exact Qt (by first | rfl | simp)), (by first | exact Qo rfl | exact Qq (by decide) | exact Qp | exact Qn _ | exact Qs (by simp) (by rfl) | exact Qr (by simp) (by rfl) (by first | rfl | (simp; done) | (simp; omega)) | exact Qt (by first | rfl | simp)), (by first | exact Qo rfl | exact Qq (by decide) | exact Qp | exact Qn _ | exact Qs (by simp) (by rfl) | exact Qr (by simp) (by rfl) (by first | rfl | (simp; done) | (simp; omega)) | exact Qt (by first | rfl | simp)), (by first | exact Qo rfl | exact Qq (by decide) | exact Qp | exact Qn _ | exact Qs (by simp) (by rfl) | exact Qr (by simp) (by rfl) (by first | rfl | (simp; done) | (simp; omega)) | exact Qt (by first | rfl | simp)), (by first | exact Qo rfl | exact Qq (by decide) | exact Qp | exact Qn _ | exact Qs (by simp) (by rfl) | exact Qr (by simp) (by rfl) (by first | rfl | (simp; done) | (simp; omega)) | exact Qt (by first | rfl | simp)), (by first | exact Qo rfl | exact Qq (by decide) | exact Qp | exact Qn _ | exact Qs (by simp) (by rfl) | exact Qr (by simp) (by rfl) (by first | rfl | (simp; done) | (simp; omega)) | exact Qt (by first | rfl | simp)), (by first | exact Qo rfl | exact Qq (by decide) | exact Qp | exact Qn _ | exact Qs (by simp) (by rfl) | exact Qr (by simp) (by rfl) (by first | rfl | (simp; done) | (simp; omega)) | exact Qt (by first | rfl | simp)), (by first | exact Qo rfl | exact Qq (by decide) | exact Qp | exact Qn _ | exact Qs (by simp) (by rfl) | exact Qr (by simp) (by rfl) (by first | rfl | (simp; done) | (simp; omega)) | exact Qt (by first | rfl | simp)), trivial⟩
    ·exact ⟨fun _ => ⟨_, rfl, (by first | exact Qw (by first | rfl | simp) | exact Qx (by first | rfl | simp) (by simp) ids_data | exact Qv (by simp [QX, QY]) | exact Qu (by simp) (by simp [QX, QY]))⟩, fun h => by simp at h, fun _ => ⟨_, rfl, (by first | exact Qw (by first | rfl | simp) | exact Qx (by first | rfl | simp) (by simp) ids_data | exact Qv (by simp [QX, QY]) | exact Qu (by simp) (by simp [QX, QY]))⟩, fun h => by simp at h, fun _ => ⟨_, rfl, Qu rfl (by simp [QX, QY])⟩, fun h => by simp at h, fun _ => ⟨_, rfl, Qw (by rw [hsl])⟩, fun h => by simp at h, trivial⟩
    ·simp [wfV, QY, QX, lookR, grow]
    ·exact ⟨by simp [QX, QY, lookR], by simp [QX, QY, lookR], by simp [QX, QY, lookR], wf_data _ _, trivial⟩
  ·intro hb
   obtain rfl : kq = [] := by
    cases kq with
    | nil => rfl
    | cons x t => have := Qf hb; simp at hksl; omega
   clear hb
   simp only [QG] at hks
   rw [← hks]
   refine JK ?_
   simp only [zz6, QO, ↓Qb]
   refine hK2 _ ?_; try clear hK2 K2
   refine kpA [3, 6, 8, 18, 19, 20] ?_
   refine Qz F_mixed [some 39, some 20] rfl ?_
   simp only [zzK, QR, QP, QQ, zz21, JM, zz26, JC, hwc, zz6, QO, ↓Qb]
   refine ⟨2 - (c + 1), _, by omega, le_SK id [] rfl (l' := [(3, .ptr 3 0 0), (6, .ptr 6 0 0), (8, .ref 8 (jp w n ps g (c + 1)).length), (18, .ref 18 2), (19, .d (iv 2)), (20, .d (iv (((c + 1) : Nat) : Int)))]) (m' := [(3, (⟨True, 29, 2, true, false, 3, [[.d (iv w), .d (iv n)]]⟩ : ARow)), (6, (⟨True, 46, 4, true, false, 6, [[.d (iv 0), .d (iv 0), .d (iv 0), .d (iv 0)]]⟩ : ARow)), (18, (⟨True, 42, 1, true, true, 18, [[.d (poss ps)], [.d (poss g)]]⟩ : ARow)), (8, grow 46 4 8 ((jp w n ps g (c + 1)).map posC))]) ?_ ?_ ?_ ?_, (c + 1), by omega, rfl, rfl⟩
   ·simp only [leV, JD, QQ, Qd, Qc, hwc, hjs]; exact ⟨(by first | exact Qo rfl | exact Qq (by decide) | exact Qp | exact Qn _ | exact Qs (by simp) (by rfl) | exact Qr (by simp) (by rfl) (by first | rfl | (simp; done) | (simp; omega)) | exact Qt (by first | rfl | simp)), (by first | exact Qo rfl | exact Qq (by decide) | exact Qp | exact Qn _ | exact Qs (by simp) (by rfl) | exact Qr (by simp) (by rfl) (by first | rfl | (simp; done) | (simp; omega)) | exact Qt (by first | rfl | simp)), (by first | exact Qo rfl | exact Qq (by decide) | exact Qp | exact Qn _ | exact Qs (by simp) (by rfl) | exact Qr (by simp) (by rfl) (by first | rfl | (simp; done) | (simp; omega)) | exact Qt (by first | rfl | simp)), (by first | exact Qo rfl | exact Qq (by decide) | exact Qp | exact Qn _ | exact Qs (by simp) (by rfl) | exact Qr (by simp) (by rfl) (by first | rfl | (simp; done) | (simp; omega)) | exact Qt (by first | rfl | simp)), (by first | exact Qo rfl | exact Qq (by decide) | exact Qp | exact Qn _ | exact Qs (by simp) (by rfl) | exact Qr (by simp) (by rfl) (by first | rfl | (simp; done) | (simp; omega)) | exact Qt (by first | rfl | simp)), (by first | exact Qo rfl | exact Qq (by decide) | exact Qp | exact Qn _ | exact Qs (by simp) (by rfl) | exact Qr (by simp) (by rfl) (by first | rfl | (simp; done) | (simp; omega)) | exact Qt (by first | rfl | simp)), trivial⟩
   ·exact ⟨fun _ => ⟨_, rfl, (by first | exact Qw (by first | rfl | simp) | exact Qx (by first | rfl | simp) (by simp) ids_data | exact Qv (by simp [QX, QY]) | exact Qu (by simp) (by simp [QX, QY]))⟩, fun h => by simp at h, fun _ => ⟨_, rfl, (by first | exact Qw (by first | rfl | simp) | exact Qx (by first | rfl | simp) (by simp) ids_data | exact Qv (by simp [QX, QY]) | exact Qu (by simp) (by simp [QX, QY]))⟩, fun h => by simp at h, fun _ => ⟨_, rfl, Qu rfl (by simp [QX, QY])⟩, fun h => by simp at h, fun _ => ⟨_, rfl, Qw (by rw [hjs])⟩, fun h => by simp at h, trivial⟩
   ·simp [wfV, QY, QX, lookR, grow]
   ·exact ⟨by simp [QX, QY, lookR], by simp [QX, QY, lookR], by simp [QX, QY, lookR], wf_data _ _, trivial⟩
 ·intro hb
  obtain rfl : c = 2 := by have := Qf hb; omega
  clear hb
  have hj2 : jp w n ps g 2 = kF w n (ps ++ g) := rfl
  simp only [hj2]
  have hkl := kF_len w n (ps ++ g)
  simp only [QC] at hkl
  refine JK ?_
  simp only [zz6, QO, ↓Qb]
  refine hK0 _ ?_; try clear hK0 K0
  refine kpA [3, 6, 8] ?_
  refine JA fun K0 hK0 => ?_
  refine Qz F_mixed [some 41, some 42, some 40, some 43, some 44, some 45, some 13, some 14, some 15] rfl ?_
  simp only [zzK, QR, QP, QQ, JC, JE, JF, zz14, zzD, QS, QN, zzF, JB, poss, grow, D.sl.injEq, JN, zz6, QO, ↓Qb]
  refine JT F_go102 (fun hG => tSum_ (kF w n (ps ++ g)) (by omega)) (by simp [QY, QX]) (by simp) ?_
  simp only [zzK, QR, QP, QQ, JC, JE, JF, zz14, zzD, QS, QN, zzF, JB, poss, grow, JN, zz6, QO, ↓Qb, atsL, oksG, JV, QZ, Qa, JO, Qm, QT, QS, zz9, QB, QA, zzC, yyF, QF, zz2]
  first | refine ⟨by simp, ?_⟩ | skip
  refine hK0 _ ?_; try clear hK0 K0
  refine kpA [3, 6, 13, 14, 15] ?_
  refine JA fun K0 hK0 => ?_
  refine JA fun K1 hK1 => ?_
  refine Qz F_mixed [some 46, some 47, some 48, some 49, some 50, some 51, some 52, some 53, some 54, some 55] rfl ?_
  simp only [zzK, QR, QP, QQ, QU, JZ, zz5, Qj, Qi, Qh, and_self, JC, zz21, JM, zz28, zz22, zz13, JQ, JR, zz25, zz6, QO, ↓Qb]
  refine hK1 _ ?_; try clear hK1 K1
  refine kpA [3, 6, 13, 14, 55] ?_
  refine cnA ?_ ?_
  ·intro hb
   have hbd : jBad (ps ++ g) (w, n) = true := hb
   clear hb
   refine JA fun K2 hK2 => ?_
   refine Qz F_mixed [some 56, none, some 7] rfl ?_
   simp only [zzK, QR, QP, QQ, F_zero46, F_bld46, zz7, splice, Option.getD_some, QG, zz1, zzG, zzD, zzC, QA, yyE, Qe, QS, QN, zzH, zz10, zz18, F_ok46, F_sz46, JB, zz6, QO, ↓Qb]
   refine hK2 _ ?_; try clear hK2 K2
   refine kpA [6, 7] ?_
   refine JJ ?_
   simp only [zz6, QO, ↓Qb]
   refine done0 (by simp [resCs, resC, S, List.getD, JD, lookR, F_ag46, F_sz46, F_ok46]) ?_ (by simp [Ja, Jb, Jc, posA]) (by simp [QY, QX, posA])
   simp only [QD, QE, resA, JZ, S_mem, lookR_cons, lookR_nil, QR, QP, JD, QQ, Qd, Qc, JP, QI, QJ, QH, QL, QK, List.take_zero, F_ag46, F_sz46, F_ok46]
   simp only [jPos, jErr, hbd, Qd]; rfl
  ·intro hb
   have hbd : jBad (ps ++ g) (w, n) = false := hb
   clear hb
   refine JI ?_
   simp only [zz6, QO, ↓Qb]
   refine hK0 _ ?_; try clear hK0 K0
   refine kpA [3, 6, 13, 14] ?_
   refine JA fun K0 hK0 => ?_
   refine Qz F_mixed [some 57, some 58, some 59, some 60, none, some 7] rfl ?_
   simp only [zzK, QR, QP, QQ, F_ok29, F_ag29, F_sz29, zz8, zz23, zzD, QS, QN, zzH, zzC, QA, yyE, Qe, JC, F_zero46, F_bld46, zz7, splice, Option.getD_some, QG, zz1, zzG, zz10, F_fld46_0, F_fld46_1, F_fld46_2, zz18, F_ok46, F_sz46, JB, QW, zz6, QO, ↓Qb]
   refine hK0 _ ?_; try clear hK0 K0
   refine kpA [6, 7] ?_
   refine JJ ?_
   simp only [zz6, QO, ↓Qb]
   refine done0 (by simp [resCs, resC, S, List.getD, JD, lookR, F_ag46, F_sz46, F_ok46]) ?_ (by simp [Ja, Jb, Jc, posA]) (by simp [QY, QX, posA])
   simp only [QD, QE, resA, JZ, S_mem, lookR_cons, lookR_nil, QR, QP, JD, QQ, Qd, Qc, JP, QI, QJ, QH, QL, QK, List.take_zero, F_ag46, F_sz46, F_ok46]
   simp only [jPos, jErr, hbd, Qc]; rfl
end Go.Proofs.Ytopifbpibkpmmaa
