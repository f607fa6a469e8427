import Derived.Test.YtcpkhnciplfmkaaSpecNA
import Derived.Test.YtcpkhnciplfmkaaBun
import Derived.Test.YtcpkhnciplfmkaaClr
import Derived.Laws.Externs
import Derived.Laws.StructEq
import Derived.Laws.Tables
import Derived.KernelRfl
namespace Go.Proofs.Ytcpkhnciplfmkaa
open Go.RowKit
set_option linter.unusedVariables false
set_option linter.unusedSimpArgs false
open Option renaming map_some → QA, bind_some → QB
open List renaming length_append → QC, map_cons → QD, map_nil → QE, length_cons → QF, append_nil → QG
open Nat renaming zero_add → QN, reduceEqDiff → QO, reduceLeDiff → QP, reduceBEq → QQ, reduceLT → QR, reduceAdd → QS, reduceMul → QT, reduceSub → QU
open Int renaming toNat_natCast → QV
open D.agg renaming injEq → QW
open AV renaming idsL → QX, ids → QY, ren → QZ, renL → Qa
open _root_ renaming reduceIte → Qb, cond_false → Qc, cond_true → Qd, reduceCtorEq → Qe, of_decide_eq_false → Qf, of_decide_eq_true → Qg, imp_self → Qh, imp_and → Qi, and_imp → Qj, not_false_eq_true → Qk
open IntKind renaming wrap → Ql
open ORow renaming row → Qm
open VLe renaming refl → Qn, still → Qo, nild_ → Qp, nil_ → Qq, refE → Qr, ptrE → Qs, dE → Qt
open RowLe renaming data_ → Qw
open Go.Proofs.Ytcpkhnciplfmkaa renaming awp_plain → Qz, awp_seq → JA, evS_assign → JB, evS_move → JC, look_cons → JD, evS_call → JE, evC_value → JF, awp_block → JH, awp_skip → JI, awp_ret → JJ, awp_exit → JK, awp_loop → JL, gr_v → JM, len_map → JN, addRows → JO, resAll → JP, pickK_l → JQ, pickK_r → JR, newRow1 → JS, call_go → JT, freeN → JV, evS_indexAddr → JW, S_getD → JZ
theorem F_mixed : Try.prog.follows .mixedOrders = true := by kernel_rfl
theorem F_sl57 : sliceT Try.prog 57 = some 3 := by kernel_rfl
theorem F_sz3 : szT Try.prog 3 = 1 := by kernel_rfl
theorem F_ok3 : tyOk Try.prog 3 = true := by kernel_rfl
theorem F_ag3 : aggT Try.prog 3 = false := by kernel_rfl
theorem F_cv71_3 : ∀ (k : IntKind) (x : Int), pureCv Try.prog 71 3 (.int k x) = True := fun _ _ => pure_cv (by kernel_rfl) (by kernel_rfl)
theorem F_cvV3 : ∀ (k : IntKind) (x : Int), cvV Try.prog 3 (.int k x) = .int .i64 (Ql .i64 x) := fun _ _ => by rw [show cvV Try.prog 3 = fun a => (match a with | .int _ n => .int (Try.prog.intKind 3) ((Try.prog.intKind 3).wrap n) | _ => undef) from rfl, show Try.prog.intKind 3 = .i64 from by kernel_rfl]
theorem F_cv3_71 : ∀ (k : IntKind) (x : Int), pureCv Try.prog 3 71 (.int k x) = True := fun _ _ => pure_cv (by kernel_rfl) (by kernel_rfl)
theorem F_cvV71 : ∀ (k : IntKind) (x : Int), cvV Try.prog 71 (.int k x) = .int .u64 (Ql .u64 x) := fun _ _ => by rw [show cvV Try.prog 71 = fun a => (match a with | .int _ n => .int (Try.prog.intKind 71) ((Try.prog.intKind 71).wrap n) | _ => undef) from rfl, show Try.prog.intKind 71 = .u64 from by kernel_rfl]
theorem F_zero3 : zeroT Try.prog 3 = some [(.int .i64 0)] := by kernel_rfl
theorem F_go35 : goFn Try.prog 35 := ⟨_, Try.func35, rfl, rfl⟩
theorem F_go46 : goFn Try.prog 46 := ⟨_, Try.func46, rfl, rfl⟩
theorem F_go44 : goFn Try.prog 44 := ⟨_, Try.func44, rfl, rfl⟩
theorem F_off30_2 : offT Try.prog 30 2 = some 2 := by kernel_rfl
theorem F_sl22 : sliceT Try.prog 22 = some 30 := by kernel_rfl
theorem F_sz30 : szT Try.prog 30 = 3 := by kernel_rfl
theorem F_ok30 : tyOk Try.prog 30 = true := by kernel_rfl
theorem F_ag30 : aggT Try.prog 30 = true := by kernel_rfl
theorem F_go42 : goFn Try.prog 42 := ⟨_, Try.func42, rfl, rfl⟩
theorem F_go58 : goFn Try.prog 58 := ⟨_, Try.func58, rfl, rfl⟩
theorem F_go41 : goFn Try.prog 41 := ⟨_, Try.func41, rfl, rfl⟩
theorem F_off30_0 : offT Try.prog 30 0 = some 0 := by kernel_rfl
theorem F_off30_1 : offT Try.prog 30 1 = some 1 := by kernel_rfl
theorem F_go26 : goFn Try.prog 26 := ⟨_, Try.func26, rfl, rfl⟩
theorem F_go25 : goFn Try.prog 25 := ⟨_, Try.func25, rfl, rfl⟩
theorem F_go21 : goFn Try.prog 21 := ⟨_, Try.func21, rfl, rfl⟩
theorem F_zero30 : zeroT Try.prog 30 = some [(.int .i64 0), (.int .i64 0), (.int .i64 0)] := by kernel_rfl
theorem F_by3 : byT Try.prog 3 = 8 := by kernel_rfl
theorem F_go29 : goFn Try.prog 29 := ⟨_, Try.func29, rfl, rfl⟩
theorem add64 (x y c : Int) (hx : 0 ≤ x) (hy : 0 ≤ y) (hc0 : 0 ≤ c) (hc : c ≤ 1) : extOk Try.prog 45 [.int .u64 x, .int .u64 y, .int .u64 c] (.tuple #[.int .u64 ((x + y + c) % 18446744073709551616), .int .u64 ((x + y + c) / 18446744073709551616)]) := fun w => by
 rw [run_callFunc_extern Try.func45 (by kernel_rfl) (by kernel_rfl) (by kernel_rfl) (e := add64Entry) (by kernel_rfl), run_add64 x y c hx hy hc0 hc]
 rfl
theorem Right_ (l : List Int) (hl : l.length < 4611686018427387904) : ACalls Try.prog 35 [ints l] [] (bv (l.all rightN)) := by
 refine acalls_S (rs := [.tmp 2]) Try.func35 rfl rfl 18 [(0, .d (ints l))] rfl (by simp) rfl ?_
 refine JA fun K0 hK0 => ?_
 refine Qz F_mixed [some 2] rfl ?_
 simp only [zzK, QR, QP, QQ, JB, zz6, QO, ↓Qb]
 refine hK0 _ ?_; try clear hK0 K0
 refine kpA [0] ?_
 refine JA fun K0 hK0 => ?_
 refine JA fun K1 hK1 => ?_
 refine Qz F_mixed [some 5, some 6, some 7] rfl ?_
 simp only [zzK, QR, QP, QQ, JC, JE, zz12, F_sl57, Option.isSome_some, ints, JN, zz6, QO, ↓Qb]
 refine hK1 _ ?_; try clear hK1 K1
 refine kpA [5, 6, 7] ?_
 refine JH ?_
 refine JL (fun m s => ∃ pre post : List Int, l = pre ++ post ∧ pre.all rightN = true ∧ m = post.length ∧ s = S 18 [(5, .d (ints l)), (6, .d (iv l.length)), (7, .d (iv pre.length))] []) l.length _ (le_S0 (l' := [(5, .d (ints l)), (6, .d (iv l.length)), (7, .d (iv 0))]) ?_ ?_) ⟨[], l, rfl, rfl, rfl, rfl⟩ ?_
 ·simp only [leL, JD, QQ, Qd, Qc, ints, JN]; trivial
 ·simp [wfV, QY]
 rintro m s ⟨pre, post, rfl, hp, rfl, rfl⟩
 refine JA fun K2 hK2 => ?_
 refine Qz F_mixed [some 8] rfl ?_
 simp only [zzK, QR, QP, QQ, zz21, JM, zz22, zz6, QO, ↓Qb]
 refine hK2 _ ?_; try clear hK2 K2
 refine kpA [5, 6, 7, 8] ?_
 refine JA fun K2 hK2 => ?_
 refine cnA ?_ ?_
 ·intro hb
  obtain ⟨x, post, rfl⟩ := more_of hb; clear hb
  refine JI ?_
  simp only [zz6, QO, ↓Qb]
  refine hK2 _ ?_; try clear hK2 K2
  refine kpA [5, 6, 7] ?_
  refine JA fun K2 hK2 => ?_
  refine JH ?_
  refine JA fun K3 hK3 => ?_
  refine Qz F_mixed [some 9, some 10, some 4] rfl ?_
  simp only [zzK, QR, QP, QQ, JW, zz23, zz24, F_sl57, F_sz3, QA, zzC, yyE, Qe, F_ok3, F_ag3, zz8, zzD, QS, QN, zzH, JB, ints, getD_mid, JN, lt_mid, ge_mid, zz6, QO, ↓Qb]
  refine hK3 _ ?_; try clear hK3 K3
  refine kpA [4, 5, 6, 7] ?_
  refine JA fun K3 hK3 => ?_
  refine Qz F_mixed [some 11, some 12, some 13, some 14, some 15, some 16] rfl ?_
  simp only [zzK, QR, QP, QQ, QU, JZ, zz5, Qj, Qi, Qh, and_self, JC, zz21, JM, zz22, zz25, zz13, JQ, JR, zz6, QO, ↓Qb]
  refine hK3 _ ?_; try clear hK3 K3
  refine kpA [5, 6, 7, 16] ?_
  refine cnA ?_ ?_
  ·intro hb
   refine JA fun K4 hK4 => ?_
   refine Qz F_mixed [some 2] rfl ?_
   simp only [zzK, QR, QP, QQ, JB, zz6, QO, ↓Qb]
   refine hK4 _ ?_; try clear hK4 K4
   refine kpA [2] ?_
   refine JJ ?_
   simp only [zz6, QO, ↓Qb]
   refine dnA ?_
   simp only [QD, QE, resA, JZ, QR, QP, JD, QQ, Qd, Qc, JP]
   simp only [List.all_append, List.all_cons, rightN, hb]; simp
  ·intro hb
   refine JI ?_
   simp only [zz6, QO, ↓Qb]
   refine hK2 _ ?_; try clear hK2 K2
   refine kpA [5, 6, 7] ?_
   refine Qz F_mixed [some 17, some 7] rfl ?_
   simp only [zzK, QR, QP, QQ, zz21, JM, zz26, JC, zz6, QO, ↓Qb]
   refine ⟨post.length, _, by simp, le_S0 (l' := [(5, .d (ints (pre ++ x :: post))), (6, .d (iv (pre ++ x :: post).length)), (7, .d (iv (pre ++ [x]).length))]) ?_ ?_, pre ++ [x], post, by simp, by simp [hp, rightN, hb], rfl, rfl⟩
   ·simp only [leL, JD, QQ, Qd, Qc, wrap_len pre x (by simp at hl; omega), ints]; trivial
   ·simp [wfV, QY]
 ·intro hb
  obtain rfl := none_of hb; clear hb
  refine JK ?_
  simp only [zz6, QO, ↓Qb]
  refine hK0 _ ?_; try clear hK0 K0
  refine kpA [] ?_
  refine JA fun K0 hK0 => ?_
  refine Qz F_mixed [some 2] rfl ?_
  simp only [zzK, QR, QP, QQ, JB, zz6, QO, ↓Qb]
  refine hK0 _ ?_; try clear hK0 K0
  refine kpA [2] ?_
  refine JJ ?_
  simp only [zz6, QO, ↓Qb]
  refine dnA ?_
  simp only [QD, QE, resA, JZ, QR, QP, JD, QQ, Qd, Qc, JP]
  simp only [QG, hp]
theorem within_ (t : Int) (h0 : -85070591730234615865843651857942052864 ≤ t) (h1 : t < 85070591730234615865843651857942052864) : ACalls Try.prog 46 [.v (.int .u64 (hiN t)), .v (.int .u64 (loN t))] [] (.tp [.d (iv (bif rightN t then t else 0)), .d (iv (bif rightN t then 0 else 1))]) := by
 refine acalls_S (rs := [.tmp 4, .tmp 5]) Try.func46 rfl rfl 21 [(0, .d (.v (.int .u64 (hiN t)))), (1, .d (.v (.int .u64 (loN t))))] rfl (by simp) rfl ?_
 refine JA fun K0 hK0 => ?_
 refine Qz F_mixed [some 4, some 5] rfl ?_
 simp only [zzK, QR, QP, QQ, JB, zz6, QO, ↓Qb]
 refine hK0 _ ?_; try clear hK0 K0
 refine kpA [0, 1] ?_
 refine JA fun K0 hK0 => ?_
 refine Qz F_mixed [some 7, some 8, some 6] rfl ?_
 simp only [zzK, QR, QP, QQ, JC, zz27, JM, F_cv71_3, F_cvV3, JB, zz6, QO, ↓Qb]
 refine hK0 _ ?_; try clear hK0 K0
 refine kpA [0, 6] ?_
 refine JA fun K0 hK0 => ?_
 refine JA fun K1 hK1 => ?_
 refine Qz F_mixed [some 9, some 10, some 11, some 12, some 13, some 14, some 15, some 16, some 17, some 18, some 19] rfl ?_
 simp only [zzK, QR, QP, QQ, QU, JZ, zz5, Qj, Qi, Qh, JC, zz21, JM, b_shr, pure_shr, Int.reduceLT, Qk, zz27, F_cv3_71, F_cvV71, zz28, F_sl57, F_zero3, F_sz3, zz3, JS, zz1, zzG, zzD, zzC, QA, yyE, Qe, QS, QN, zzH, maxLen_le, QT, JE, JF, zz29, zz30, zz13, JQ, JR, ints, QD, zz6, QO, ↓Qb]
 refine JT F_go35 (fun hG => Right_ [Ql .i64 (loN t)] (by simp)) (by simp [QY, QX]) (by simp) ?_
 simp only [zzK, QR, QP, QQ, QU, JZ, zz5, Qj, Qi, Qh, JC, zz21, JM, b_shr, pure_shr, Int.reduceLT, Qk, zz27, F_cv3_71, F_cvV71, zz28, F_sl57, F_zero3, F_sz3, zz3, JS, zz1, zzG, zzD, zzC, QA, yyE, Qe, QS, QN, zzH, maxLen_le, QT, JE, JF, zz29, zz30, zz13, JQ, JR, ints, QD, zz6, QO, ↓Qb, atsL, oksG, JV, QZ, Qa, JO, Qm, QT, QS, zz9, QB, QA, S_mem, yyF, QF, zz2]
 refine hK1 _ ?_; try clear hK1 K1
 refine kpA [6, 19] ?_
 refine cnA ?_ ?_
 ·intro hb
  rw [within_law h0 h1] at hb
  refine JA fun K2 hK2 => ?_
  refine Qz F_mixed [some 4, some 5] rfl ?_
  simp only [zzK, QR, QP, QQ, JB, zz6, QO, ↓Qb]
  refine hK2 _ ?_; try clear hK2 K2
  refine kpA [4, 5] ?_
  refine JJ ?_
  simp only [zz6, QO, ↓Qb]
  refine dnA ?_
  simp only [QD, QE, resA, JZ, QR, QP, JD, QQ, Qd, Qc, JP]
  simp only [Bool.not_eq_true'] at hb; simp only [hb]; rfl
 ·intro hb
  rw [within_law h0 h1] at hb
  refine JI ?_
  simp only [zz6, QO, ↓Qb]
  refine hK0 _ ?_; try clear hK0 K0
  refine kpA [6] ?_
  refine JA fun K0 hK0 => ?_
  refine Qz F_mixed [some 20, some 4, some 5] rfl ?_
  simp only [zzK, QR, QP, QQ, JC, JB, zz6, QO, ↓Qb]
  refine hK0 _ ?_; try clear hK0 K0
  refine kpA [4, 5] ?_
  refine JJ ?_
  simp only [zz6, QO, ↓Qb]
  refine dnA ?_
  simp only [QD, QE, resA, JZ, QR, QP, JD, QQ, Qd, Qc, JP]
  simp only [Bool.not_eq_false'] at hb; simp only [hb, within_val h0 h1 hb]; rfl
theorem Sum_ (l : List Int) (hl : l.length < 4611686018427387904) : ACalls Try.prog 29 [ints l] [] (.tp [.d (iv (sumV l)), .d (iv (sumE l))]) := by
 refine acalls_S (rs := [.tmp 2, .tmp 3]) Try.func29 rfl rfl 40 [(0, .d (ints l))] rfl (by simp) rfl ?_
 refine JA fun K0 hK0 => ?_
 refine Qz F_mixed [some 2, some 3] rfl ?_
 simp only [zzK, QR, QP, QQ, JB, zz6, QO, ↓Qb]
 refine hK0 _ ?_; try clear hK0 K0
 refine kpA [0] ?_
 refine JA fun K0 hK0 => ?_
 refine JA fun K1 hK1 => ?_
 refine Qz F_mixed [some 9, some 10, some 11] rfl ?_
 simp only [zzK, QR, QP, QQ, JC, JE, JF, zz29, JM, zz30, zz6, QO, ↓Qb]
 refine JT F_go35 (fun hG => Right_ l hl) (by simp [QY, QX]) (by simp) ?_
 simp only [zzK, QR, QP, QQ, JC, JE, JF, zz29, JM, zz30, zz6, QO, ↓Qb, atsL, oksG, JV, QZ, Qa, JO, Qm, QT, QS, zz9, QB, QA, zzC, yyF, zzD, zz2]
 refine hK1 _ ?_; try clear hK1 K1
 refine kpA [0, 11] ?_
 refine cnA ?_ ?_
 ·intro hb
  simp only [Bool.not_eq_true'] at hb
  refine JA fun K2 hK2 => ?_
  refine Qz F_mixed [some 2, some 3] rfl ?_
  simp only [zzK, QR, QP, QQ, JB, zz6, QO, ↓Qb]
  refine hK2 _ ?_; try clear hK2 K2
  refine kpA [2, 3] ?_
  refine JJ ?_
  simp only [zz6, QO, ↓Qb]
  refine dnA ?_
  simp only [QD, QE, resA, JZ, QR, QP, JD, QQ, Qd, Qc, JP]
  simp only [sumV, sumE, hb]; rfl
 ·intro hb
  simp only [Bool.not_eq_false'] at hb
  have hall := hb; clear hb
  refine JI ?_
  simp only [zz6, QO, ↓Qb]
  refine hK0 _ ?_; try clear hK0 K0
  refine kpA [0] ?_
  refine JA fun K0 hK0 => ?_
  refine Qz F_mixed [some 4, some 5] rfl ?_
  simp only [zzK, QR, QP, QQ, JB, zz6, QO, ↓Qb]
  refine hK0 _ ?_; try clear hK0 K0
  refine kpA [0, 4, 5] ?_
  refine JA fun K0 hK0 => ?_
  refine JA fun K1 hK1 => ?_
  refine Qz F_mixed [some 12, some 13, some 14] rfl ?_
  simp only [zzK, QR, QP, QQ, JC, JE, zz12, F_sl57, Option.isSome_some, ints, JN, zz6, QO, ↓Qb]
  refine hK1 _ ?_; try clear hK1 K1
  refine kpA [4, 5, 12, 13, 14] ?_
  refine JH ?_
  refine JL (fun m s => ∃ pre post : List Int, l = pre ++ post ∧ m = post.length ∧ s = S 40 [(4, .d (.v (.int .u64 (hiN pre.sum)))), (5, .d (.v (.int .u64 (loN pre.sum)))), (12, .d (ints l)), (13, .d (iv l.length)), (14, .d (iv pre.length))] []) l.length _ (le_S0 (l' := [(4, .d (.v (.int .u64 (hiN ([] : List Int).sum)))), (5, .d (.v (.int .u64 (loN ([] : List Int).sum)))), (12, .d (ints l)), (13, .d (iv l.length)), (14, .d (iv 0))]) ?_ ?_) ⟨[], l, rfl, rfl, rfl⟩ ?_
  ·simp only [leL, JD, QQ, Qd, Qc, ints, JN, List.sum_nil]; simp [loN, hiN]
  ·simp [wfV, QY]
  rintro m s ⟨pre, post, rfl, rfl, rfl⟩
  refine JA fun K2 hK2 => ?_
  refine Qz F_mixed [some 15] rfl ?_
  simp only [zzK, QR, QP, QQ, zz21, JM, zz22, zz6, QO, ↓Qb]
  refine hK2 _ ?_; try clear hK2 K2
  refine kpA [4, 5, 12, 13, 14, 15] ?_
  refine JA fun K2 hK2 => ?_
  refine cnA ?_ ?_
  ·intro hb
   obtain ⟨x, post, rfl⟩ := more_of hb; clear hb
   have hr : rightN x = true := by simp at hall; exact hall.2.1
   refine JI ?_
   simp only [zz6, QO, ↓Qb]
   refine hK2 _ ?_; try clear hK2 K2
   refine kpA [4, 5, 12, 13, 14] ?_
   refine JA fun K2 hK2 => ?_
   refine JH ?_
   refine JA fun K3 hK3 => ?_
   refine Qz F_mixed [some 16, some 17, some 7] rfl ?_
   simp only [zzK, QR, QP, QQ, JW, zz23, zz24, F_sl57, F_sz3, QA, zzC, yyE, Qe, F_ok3, F_ag3, zz8, zzD, QS, QN, zzH, JB, ints, getD_mid, JN, lt_mid, ge_mid, zz6, QO, ↓Qb]
   refine hK3 _ ?_; try clear hK3 K3
   refine kpA [4, 5, 7, 12, 13, 14] ?_
   refine JA fun K3 hK3 => ?_
   refine Qz F_mixed [some 8] rfl ?_
   simp only [zzK, QR, QP, QQ, JB, zz6, QO, ↓Qb]
   refine hK3 _ ?_; try clear hK3 K3
   refine kpA [4, 5, 7, 12, 13, 14] ?_
   refine JA fun K3 hK3 => ?_
   refine Qz F_mixed [some 19, some 20, some 21, some 22, some 18, some 23, some 24, some 5, some 8] rfl ?_
   simp only [zzK, QR, QP, QQ, JC, zz27, JM, F_cv3_71, F_cvV71, JE, JF, zz14, zzD, QS, QN, zzF, JB, zz6, QO, ↓Qb]
   refine call_ext _ _ (add64 (loN pre.sum) (Ql .u64 x) 0 (lo_nn _) (wu_nn _) (by decide) (by decide)) ?_
   simp only [zzK, QR, QP, QQ, JC, zz27, JM, F_cv3_71, F_cvV71, JE, JF, zz14, zzD, QS, QN, zzF, JB, zz6, QO, ↓Qb, grsL, JM, QB, QA, Option.some.injEq, oksL, ofV_pair, ofV_int, ofV_bool]
   refine hK3 _ ?_; try clear hK3 K3
   refine kpA [4, 5, 7, 8, 12, 13, 14] ?_
   refine Qz F_mixed [some 26, some 27, some 28, some 29, some 30, some 31, some 25, some 32, some 33, some 4] rfl ?_
   simp only [zzK, QR, QP, QQ, JC, zz21, JM, b_shr, pure_shr, Int.reduceLT, Qk, zz27, F_cv3_71, F_cvV71, JE, JF, zz14, zzD, QS, QN, zzF, JB, zz6, QO, ↓Qb]
   refine call_ext _ _ (add64 (hiN pre.sum) (Ql .u64 (x.fdiv (2 ^ (min (Int.toNat 63) (IntKind.bits .i64))))) ((loN pre.sum + Ql .u64 x + 0) / 18446744073709551616) (hi_nn _) (wu_nn _) (carry0 _ _) (carry1 _ _)) ?_
   simp only [zzK, QR, QP, QQ, JC, zz21, JM, b_shr, pure_shr, Int.reduceLT, Qk, zz27, F_cv3_71, F_cvV71, JE, JF, zz14, zzD, QS, QN, zzF, JB, zz6, QO, ↓Qb, grsL, JM, QB, QA, Option.some.injEq, oksL, ofV_pair, ofV_int, ofV_bool]
   refine hK2 _ ?_; try clear hK2 K2
   refine kpA [4, 5, 12, 13, 14] ?_
   refine Qz F_mixed [some 34, some 14] rfl ?_
   simp only [zzK, QR, QP, QQ, zz21, JM, zz26, JC, zz6, QO, ↓Qb]
   have hx : -9223372036854775808 ≤ x ∧ x < 9223372036854775808 := by
    simp [rightN] at hr; omega
   refine ⟨post.length, _, by simp, le_S0 (l' := [(4, .d (.v (.int .u64 (hiN (pre ++ [x]).sum)))), (5, .d (.v (.int .u64 (loN (pre ++ [x]).sum)))), (12, .d (ints (pre ++ x :: post))), (13, .d (iv (pre ++ x :: post).length)), (14, .d (iv (pre ++ [x]).length))]) ?_ ?_, pre ++ [x], post, by simp, rfl, rfl⟩
   ·simp only [leL, JD, QQ, Qd, Qc, wrap_len pre x (by simp at hl; omega), ints, List.sum_append, List.sum_cons, List.sum_nil, Int.add_zero]
    rw [← add_lo, ← add_hi _ hx.1 hx.2]
    simp only [Int.add_zero]; trivial
   ·simp [wfV, QY]
  ·intro hb
   obtain rfl := none_of hb; clear hb
   simp only [QG] at hl hall ⊢
   refine JK ?_
   simp only [zz6, QO, ↓Qb]
   refine hK0 _ ?_; try clear hK0 K0
   refine kpA [4, 5] ?_
   refine JA fun K0 hK0 => ?_
   refine Qz F_mixed [some 35, some 36, some 37, some 38, some 39, some 2, some 3] rfl ?_
   simp only [zzK, QR, QP, QQ, JC, JE, JF, zz14, zzD, QS, QN, zzF, JB, zz6, QO, ↓Qb]
   refine JT F_go46 (fun hG => within_ pre.sum (sum_bound hall hl).1 (sum_bound hall hl).2) (by simp [QY, QX]) (by simp) ?_
   simp only [zzK, QR, QP, QQ, JC, JE, JF, zz14, zzD, QS, QN, zzF, JB, zz6, QO, ↓Qb, atsL, oksG, JV, QZ, Qa, JO, Qm, QT, QS, zz9, QB, QA, zzC, yyF, QF, zz2]
   refine hK0 _ ?_; try clear hK0 K0
   refine kpA [2, 3] ?_
   refine JJ ?_
   simp only [zz6, QO, ↓Qb]
   refine dnA ?_
   simp only [QD, QE, resA, JZ, QR, QP, JD, QQ, Qd, Qc, JP]
   simp only [QG, sumV, sumE, hall, Bool.true_and, Qd]
theorem isNaN_ (n : Int) : ACalls Try.prog 44 [iv n] [] (bv false) := by
 refine acalls_S (rs := [.tmp 2]) Try.func44 rfl rfl 6 [(0, .d (iv n))] rfl (by simp) rfl ?_
 refine JA fun K0 hK0 => ?_
 refine Qz F_mixed [some 2] rfl ?_
 simp only [zzK, QR, QP, QQ, JB, zz6, QO, ↓Qb]
 refine hK0 _ ?_; try clear hK0 K0
 refine kpA [0] ?_
 refine JA fun K0 hK0 => ?_
 refine Qz F_mixed [some 3, some 4, some 5, some 2] rfl ?_
 simp only [zzK, QR, QP, QQ, JC, zz21, JM, zz28, JB, zz6, QO, ↓Qb]
 refine hK0 _ ?_; try clear hK0 K0
 refine kpA [2] ?_
 refine JJ ?_
 simp only [zz6, QO, ↓Qb]
 refine dnA ?_
 simp only [QD, QE, resA, JZ, QR, QP, JD, QQ, Qd, Qc, JP]
 simp
theorem Compare_ (a b : Int) : ACalls Try.prog 26 [iv a, iv b] [] (.d (iv (cmpI a b))) := by
 refine acalls_S (rs := [.tmp 4]) Try.func26 rfl rfl 20 [(0, .d (iv a)), (1, .d (iv b))] rfl (by simp) rfl ?_
 refine JA fun K0 hK0 => ?_
 refine Qz F_mixed [some 4] rfl ?_
 simp only [zzK, QR, QP, QQ, JB, zz6, QO, ↓Qb]
 refine hK0 _ ?_; try clear hK0 K0
 refine kpA [0, 1] ?_
 refine JA fun K0 hK0 => ?_
 refine Qz F_mixed [some 7, some 8, some 5] rfl ?_
 simp only [zzK, QR, QP, QQ, JC, JE, JF, JB, zz6, QO, ↓Qb]
 refine JT F_go44 (fun hG => isNaN_ a) (by simp [QY, QX]) (by simp) ?_
 simp only [zzK, QR, QP, QQ, JC, JE, JF, JB, zz6, QO, ↓Qb, atsL, oksG, JV, QZ, Qa, JO, Qm, QT, QS, zz9, QB, QA, zzC, yyF, zzD, zz2]
 refine hK0 _ ?_; try clear hK0 K0
 refine kpA [0, 1, 5] ?_
 refine JA fun K0 hK0 => ?_
 refine Qz F_mixed [some 9, some 10, some 6] rfl ?_
 simp only [zzK, QR, QP, QQ, JC, JE, JF, JB, zz6, QO, ↓Qb]
 refine JT F_go44 (fun hG => isNaN_ b) (by simp [QY, QX]) (by simp) ?_
 simp only [zzK, QR, QP, QQ, JC, JE, JF, JB, zz6, QO, ↓Qb, atsL, oksG, JV, QZ, Qa, JO, Qm, QT, QS, zz9, QB, QA, zzC, yyF, zzD, zz2]
 refine hK0 _ ?_; try clear hK0 K0
 refine kpA [0, 1, 5, 6] ?_
 refine JA fun K0 hK0 => ?_
 refine JA fun K1 hK1 => ?_
 refine Qz F_mixed [some 11] rfl ?_
 simp only [zzK, QR, QP, QQ, JC, zz6, QO, ↓Qb]
 refine hK1 _ ?_; try clear hK1 K1
 refine kpA [0, 1, 6, 11] ?_
 refine cnA ?_ ?_
 ·intro hb
  cases hb
 ·intro hb
  clear hb
  refine JI ?_
  simp only [zz6, QO, ↓Qb]
  refine hK0 _ ?_; try clear hK0 K0
  refine kpA [0, 1, 6] ?_
  refine JA fun K0 hK0 => ?_
  refine JA fun K1 hK1 => ?_
  refine Qz F_mixed [some 13] rfl ?_
  simp only [zzK, QR, QP, QQ, JC, zz6, QO, ↓Qb]
  refine hK1 _ ?_; try clear hK1 K1
  refine kpA [0, 1, 13] ?_
  refine cnA ?_ ?_
  ·intro hb
   cases hb
  ·intro hb
   clear hb
   refine JI ?_
   simp only [zz6, QO, ↓Qb]
   refine hK0 _ ?_; try clear hK0 K0
   refine kpA [0, 1] ?_
   refine JA fun K0 hK0 => ?_
   refine JA fun K1 hK1 => ?_
   refine Qz F_mixed [some 14, some 15, some 16] rfl ?_
   simp only [zzK, QR, QP, QQ, JC, zz21, JM, zz22, zz6, QO, ↓Qb]
   refine hK1 _ ?_; try clear hK1 K1
   refine kpA [0, 1, 16] ?_
   refine cnA ?_ ?_
   ·intro hb
    have e : cmpI a b = -1 := by simp only [cmpI, hb, Qd]
    refine JA fun K2 hK2 => ?_
    refine Qz F_mixed [some 4] rfl ?_
    simp only [zzK, QR, QP, QQ, JB, zz6, QO, ↓Qb]
    refine hK2 _ ?_; try clear hK2 K2
    refine kpA [4] ?_
    refine JJ ?_
    simp only [zz6, QO, ↓Qb]
    refine dnA ?_
    simp only [QD, QE, resA, JZ, QR, QP, JD, QQ, Qd, Qc, JP]
    rw [e]
   ·intro hb
    skip
    refine JI ?_
    simp only [zz6, QO, ↓Qb]
    refine hK0 _ ?_; try clear hK0 K0
    refine kpA [0, 1] ?_
    refine JA fun K0 hK0 => ?_
    refine JA fun K1 hK1 => ?_
    refine Qz F_mixed [some 17, some 18, some 19] rfl ?_
    simp only [zzK, QR, QP, QQ, JC, zz21, JM, zz25, zz6, QO, ↓Qb]
    refine hK1 _ ?_; try clear hK1 K1
    refine kpA [19] ?_
    refine cnA ?_ ?_
    ·intro hb
     rename_i hb0
     have e : cmpI a b = 1 := by simp only [cmpI, hb0, hb, Qd, Qc]
     refine JA fun K2 hK2 => ?_
     refine Qz F_mixed [some 4] rfl ?_
     simp only [zzK, QR, QP, QQ, JB, zz6, QO, ↓Qb]
     refine hK2 _ ?_; try clear hK2 K2
     refine kpA [4] ?_
     refine JJ ?_
     simp only [zz6, QO, ↓Qb]
     refine dnA ?_
     simp only [QD, QE, resA, JZ, QR, QP, JD, QQ, Qd, Qc, JP]
     rw [e]
    ·intro hb
     rename_i hb0
     have e : cmpI a b = 0 := by simp only [cmpI, hb0, hb, Qd, Qc]
     refine JI ?_
     simp only [zz6, QO, ↓Qb]
     refine hK0 _ ?_; try clear hK0 K0
     refine kpA [] ?_
     refine JA fun K0 hK0 => ?_
     refine Qz F_mixed [some 4] rfl ?_
     simp only [zzK, QR, QP, QQ, JB, zz6, QO, ↓Qb]
     refine hK0 _ ?_; try clear hK0 K0
     refine kpA [4] ?_
     refine JJ ?_
     simp only [zz6, QO, ↓Qb]
     refine dnA ?_
     simp only [QD, QE, resA, JZ, QR, QP, JD, QQ, Qd, Qc, JP]
     rw [e]
theorem Or_ (l : List Int) (hl : l.length ≤ 1000000) : ACalls Try.prog 25 [ints l] [] (.d (iv (orI l))) := by
 refine acalls_S (rs := [.tmp 2]) Try.func25 rfl rfl 18 [(0, .d (ints l))] rfl (by simp) rfl ?_
 refine JA fun K0 hK0 => ?_
 refine Qz F_mixed [some 2] rfl ?_
 simp only [zzK, QR, QP, QQ, JB, zz6, QO, ↓Qb]
 refine hK0 _ ?_; try clear hK0 K0
 refine kpA [0] ?_
 refine JA fun K0 hK0 => ?_
 refine Qz F_mixed [some 3] rfl ?_
 simp only [zzK, QR, QP, QQ, JB, zz6, QO, ↓Qb]
 refine hK0 _ ?_; try clear hK0 K0
 refine kpA [0, 3] ?_
 refine JA fun K0 hK0 => ?_
 refine JA fun K1 hK1 => ?_
 refine Qz F_mixed [some 6, some 7, some 8] rfl ?_
 simp only [zzK, QR, QP, QQ, JC, JE, zz12, F_sl57, Option.isSome_some, ints, JN, zz6, QO, ↓Qb]
 refine hK1 _ ?_; try clear hK1 K1
 refine kpA [3, 6, 7, 8] ?_
 refine JH ?_
 refine JL (fun m s => ∃ pre post : List Int, l = pre ++ post ∧ orI l = orI post ∧ m = post.length ∧ s = S 18 [(3, .d (iv 0)), (6, .d (ints l)), (7, .d (iv l.length)), (8, .d (iv pre.length))] []) l.length _ (le_SK id [] rfl (l' := [(3, .d (iv 0)), (6, .d (ints l)), (7, .d (iv l.length)), (8, .d (iv ([] : List Int).length))]) (m' := []) ?_ ?_ ?_ ?_) ⟨[], l, rfl, rfl, rfl, rfl⟩ ?_
 ·simp only [leV, JD, QQ, Qd, Qc, ints, JN]; exact ⟨Qn _, Qn _, Qn _, Qn _, trivial⟩
 ·exact trivial
 ·simp [wfV, QY, QX, lookR]
 ·simp [wfR, QX, QY]
 rintro m s ⟨pre, post, rfl, hor, rfl, rfl⟩
 refine JA fun K2 hK2 => ?_
 refine Qz F_mixed [some 9] rfl ?_
 simp only [zzK, QR, QP, QQ, zz21, JM, zz22, zz6, QO, ↓Qb]
 refine hK2 _ ?_; try clear hK2 K2
 refine kpA [3, 6, 7, 8, 9] ?_
 refine JA fun K2 hK2 => ?_
 refine cnA ?_ ?_
 ·intro hb
  obtain ⟨x, post, rfl⟩ := more_of hb; clear hb
  refine JI ?_
  simp only [zz6, QO, ↓Qb]
  refine hK2 _ ?_; try clear hK2 K2
  refine kpA [3, 6, 7, 8] ?_
  refine JA fun K2 hK2 => ?_
  refine JH ?_
  refine JA fun K3 hK3 => ?_
  refine Qz F_mixed [some 10, some 11, some 5] rfl ?_
  simp only [zzK, QR, QP, QQ, JW, zz23, zz24, F_sl57, F_sz3, QA, zzC, yyE, Qe, F_ok3, F_ag3, zz8, zzD, QS, QN, zzH, JB, ints, getD_mid, JN, lt_mid, ge_mid, zz6, QO, ↓Qb]
  refine hK3 _ ?_; try clear hK3 K3
  refine kpA [3, 5, 6, 7, 8] ?_
  refine JA fun K3 hK3 => ?_
  refine Qz F_mixed [some 12, some 13, some 14] rfl ?_
  simp only [zzK, QR, QP, QQ, JC, zz21, JM, zz28, zz6, QO, ↓Qb]
  refine hK3 _ ?_; try clear hK3 K3
  refine kpA [3, 5, 6, 7, 8, 14] ?_
  refine cnA ?_ ?_
  ·intro hb
   have e : orI (pre ++ x :: post) = x := by rw [hor, orI, hb]; rfl
   refine JA fun K4 hK4 => ?_
   refine Qz F_mixed [some 15, some 2] rfl ?_
   simp only [zzK, QR, QP, QQ, JC, JB, zz6, QO, ↓Qb]
   refine hK4 _ ?_; try clear hK4 K4
   refine kpA [2] ?_
   refine JJ ?_
   simp only [zz6, QO, ↓Qb]
   refine dnA ?_
   simp only [QD, QE, resA, JZ, QR, QP, JD, QQ, Qd, Qc, JP]
   rw [e]
  ·intro hb
   have hx : (x != 0) = false := hb
   clear hb
   refine JI ?_
   simp only [zz6, QO, ↓Qb]
   refine hK2 _ ?_; try clear hK2 K2
   refine kpA [3, 6, 7, 8] ?_
   refine Qz F_mixed [some 16, some 8] rfl ?_
   simp only [zzK, QR, QP, QQ, zz21, JM, zz26, JC, zz6, QO, ↓Qb]
   refine ⟨post.length, _, by simp, le_SK id [] rfl (l' := [(3, .d (iv 0)), (6, .d (ints (pre ++ x :: post))), (7, .d (iv (pre ++ x :: post).length)), (8, .d (iv (pre ++ [x]).length))]) (m' := []) ?_ ?_ ?_ ?_, pre ++ [x], post, by simp, by rw [hor, orI, hx]; rfl, rfl, rfl⟩
   ·simp only [leV, JD, QQ, Qd, Qc, ints, JN, wrap_len pre x (by simp at hl; omega)]; exact ⟨Qn _, Qn _, Qn _, Qn _, trivial⟩
   ·exact trivial
   ·simp [wfV, QY, QX, lookR]
   ·simp [wfR, QX, QY]
 ·intro hb
  obtain rfl := none_of hb; clear hb
  have e : orI (pre ++ []) = 0 := by rw [hor]; rfl
  refine JK ?_
  simp only [zz6, QO, ↓Qb]
  refine hK0 _ ?_; try clear hK0 K0
  refine kpA [3] ?_
  refine JA fun K0 hK0 => ?_
  refine Qz F_mixed [some 17, some 2] rfl ?_
  simp only [zzK, QR, QP, QQ, JC, JB, zz6, QO, ↓Qb]
  refine hK0 _ ?_; try clear hK0 K0
  refine kpA [2] ?_
  refine JJ ?_
  simp only [zz6, QO, ↓Qb]
  refine dnA ?_
  simp only [QD, QE, resA, JZ, QR, QP, JD, QQ, Qd, Qc, JP]
  rw [e]
theorem dRt_ (x : LegV) : ACalls Try.prog 42 [.agg (dueC x)] [] (bv (!rightN x.amt)) := by
 refine acalls_S (rs := [.tmp 2]) Try.func42 rfl rfl 8 [(0, .d (.agg (dueC x)))] rfl (by simp) rfl ?_
 refine JA fun K0 hK0 => ?_
 refine Qz F_mixed [some 1, some 2] rfl ?_
 simp only [zzK, QR, QP, QQ, zz35, JS, zz1, zzG, zzD, zzC, QA, yyE, Qe, QS, QN, zzH, JB, dueC, zz6, QO, ↓Qb]
 refine hK0 _ ?_; try clear hK0 K0
 refine kpA [1] ?_
 refine JA fun K0 hK0 => ?_
 refine Qz F_mixed [some 3, some 4, some 5, some 6, some 7, some 2] rfl ?_
 simp only [zzK, QR, QP, QQ, zz19, zz23, F_off30_2, zzH, QN, QS, F_ok3, F_ag3, F_sz3, zz8, zzD, zzC, QA, yyE, Qe, F_sl57, F_zero3, zz3, JS, zz1, zzG, maxLen_le, QT, JE, JF, zz29, JM, zz30, JB, ints, QD, D.sl.injEq, zz6, QO, ↓Qb]
 refine JT F_go35 (fun hG => Right_ [x.amt] (by simp)) (by simp [QY, QX]) (by simp) ?_
 simp only [zzK, QR, QP, QQ, zz19, zz23, F_off30_2, zzH, QN, QS, F_ok3, F_ag3, F_sz3, zz8, zzD, zzC, QA, yyE, Qe, F_sl57, F_zero3, zz3, JS, zz1, zzG, maxLen_le, QT, JE, JF, zz29, JM, zz30, JB, ints, QD, zz6, QO, ↓Qb, atsL, oksG, JV, QZ, Qa, JO, Qm, QT, QS, zz9, QB, QA, S_mem, yyF, QF, zz2]
 refine hK0 _ ?_; try clear hK0 K0
 refine kpA [2] ?_
 refine JJ ?_
 simp only [zz6, QO, ↓Qb]
 refine dnA ?_
 simp only [QD, QE, resA, JZ, QR, QP, JD, QQ, Qd, Qc, JP]
 simp
theorem dIdx_ (l : List LegV) (hl : l.length ≤ 1000000) : ACalls Try.prog 58 [dues l, fnD 42] [] (.d (iv (badI 0 l))) := by
 refine acalls_S (rs := [.tmp 4]) Try.func58 rfl rfl 19 [(0, .d (dues l)), (1, .d (fnD 42))] rfl (by simp) rfl ?_
 refine JA fun K0 hK0 => ?_
 refine Qz F_mixed [some 4] rfl ?_
 simp only [zzK, QR, QP, QQ, JB, zz6, QO, ↓Qb]
 refine hK0 _ ?_; try clear hK0 K0
 refine kpA [0, 1] ?_
 refine JA fun K0 hK0 => ?_
 refine JA fun K1 hK1 => ?_
 refine Qz F_mixed [some 6, some 7, some 8] rfl ?_
 simp only [zzK, QR, QP, QQ, JC, JE, zz12, F_sl22, Option.isSome_some, dues, JN, zz6, QO, ↓Qb]
 refine hK1 _ ?_; try clear hK1 K1
 refine kpA [0, 1, 7, 8] ?_
 refine JH ?_
 refine JL (fun m s => ∃ (pre : List LegV) (post : List LegV), (l = pre ++ post) ∧ (badI 0 l = badI pre.length post) ∧ m = post.length ∧ s = S 19 [(0, .d (dues l)), (1, .d (fnD 42)), (7, .d (iv l.length)), (8, .d (iv pre.length))] []) (l.length) _ (le_SK id [] rfl (l' := [(0, .d (dues l)), (1, .d (fnD 42)), (7, .d (iv l.length)), (8, .d (iv [].length))]) (m' := []) ?_ ?_ ?_ ?_) ⟨[], l, rfl, rfl, rfl, rfl⟩ ?_
 ·simp only [leV, JD, QQ, Qd, Qc]; exact ⟨(by first | exact Qo rfl | exact Qq (by decide) | exact Qp | exact Qn _ | exact Qs (by simp) (by rfl) | exact Qr (by simp) (by rfl) (by first | rfl | (simp; done) | (simp; omega)) | exact Qt (by first | rfl | simp)), (by first | exact Qo rfl | exact Qq (by decide) | exact Qp | exact Qn _ | exact Qs (by simp) (by rfl) | exact Qr (by simp) (by rfl) (by first | rfl | (simp; done) | (simp; omega)) | exact Qt (by first | rfl | simp)), (by first | exact Qo rfl | exact Qq (by decide) | exact Qp | exact Qn _ | exact Qs (by simp) (by rfl) | exact Qr (by simp) (by rfl) (by first | rfl | (simp; done) | (simp; omega)) | exact Qt (by first | rfl | simp)), (by first | exact Qo rfl | exact Qq (by decide) | exact Qp | exact Qn _ | exact Qs (by simp) (by rfl) | exact Qr (by simp) (by rfl) (by first | rfl | (simp; done) | (simp; omega)) | exact Qt (by first | rfl | simp)), trivial⟩
 ·exact trivial
 ·simp [wfV, QY, QX, lookR, grow]
 ·simp [wfR]
 rintro m s ⟨pre, post, hsp, hbi, rfl, rfl⟩
 have hspl := congrArg List.length hsp
 simp only [QC] at hspl
 refine JA fun K2 hK2 => ?_
 refine Qz F_mixed [some 9] rfl ?_
 simp only [zzK, QR, QP, QQ, zz21, JM, zz22, zz6, QO, ↓Qb]
 refine hK2 _ ?_; try clear hK2 K2
 refine kpA [0, 1, 7, 8, 9] ?_
 refine JA fun K2 hK2 => ?_
 refine cnA ?_ ?_
 ·intro hb
  obtain ⟨x, post2, rfl⟩ : ∃ x t, post = x :: t := by
   cases post with
   | nil => have := Qg hb; simp at hspl; omega
   | cons x t => exact ⟨x, t, rfl⟩
  clear hb
  simp only [QF] at hspl
  have gx : (l.map dueC).getD pre.length [] = [iv x.ac.who, iv x.ac.cur, iv x.amt] := by
   rw [hsp, List.map_append]; exact gd_mid' (A := pre.map dueC) _ _ (by simp)
  have bx := ltI (show pre.length < l.length by omega)
  have hwx : Ql .i64 ((pre.length : Int) + 1) = ((pre ++ [x]).length : Int) := by rw [wrapI (by omega) (by omega)]; simp
  refine JI ?_
  simp only [zz6, QO, ↓Qb]
  refine hK2 _ ?_; try clear hK2 K2
  refine kpA [0, 1, 7, 8] ?_
  refine JA fun K2 hK2 => ?_
  refine JH ?_
  refine JA fun K3 hK3 => ?_
  refine Qz F_mixed [some 10, some 5] rfl ?_
  simp only [zzK, QR, QP, QQ, JC, JB, zz6, QO, ↓Qb]
  refine hK3 _ ?_; try clear hK3 K3
  refine kpA [0, 1, 5, 7, 8] ?_
  refine JA fun K3 hK3 => ?_
  refine Qz F_mixed [some 11, some 12, some 13, some 14, some 15, some 16] rfl ?_
  simp only [zzK, QR, QP, QQ, JC, JW, zz23, zz24, F_sl22, F_sz30, QA, zzC, yyE, Qe, F_ok30, F_ag30, zz8, zzD, QS, QN, zzH, JE, JF, fnD, dues, dueC, gx, bx, hwx, JN, ge0, QV, QW, zz6, QO, ↓Qb]
  refine call_goT ?_ ?_ F_go42 (fun hG => dRt_ x) (by simp [QY, QX]) (by simp) ?_
  ·decide
  ·simp only [JD, QQ, Qd, Qc, bare_d, bare_wh, fnD]
  simp only [zzK, QR, QP, QQ, JC, JW, zz23, zz24, F_sl22, F_sz30, QA, zzC, yyE, Qe, F_ok30, F_ag30, zz8, zzD, QS, QN, zzH, JE, JF, fnD, dues, dueC, gx, bx, hwx, JN, ge0, QV, QW, zz6, QO, ↓Qb, QU, JZ, zz5, Qj, Qi, Qh, atsL, oksG, JV, QZ, Qa, JO, Qm, QT, QS, zz9, QB, QA, S_mem, yyF, QF, zz2]
  refine hK3 _ ?_; try clear hK3 K3
  refine kpA [0, 1, 5, 7, 8, 16] ?_
  refine cnA ?_ ?_
  ·intro hb
   have hs : (!rightN x.amt) = true := hb
   clear hb
   refine JA fun K4 hK4 => ?_
   refine Qz F_mixed [some 17, some 4] rfl ?_
   simp only [zzK, QR, QP, QQ, JC, JB, zz6, QO, ↓Qb]
   refine hK4 _ ?_; try clear hK4 K4
   refine kpA [4] ?_
   refine JJ ?_
   simp only [zz6, QO, ↓Qb]
   refine dnA ?_
   simp only [QD, QE, resA, JZ, QR, QP, JD, QQ, Qd, Qc, JP]
   rw [hbi, badI, hs]; rfl
  ·intro hb
   have hs : (!rightN x.amt) = false := hb
   clear hb
   refine JI ?_
   simp only [zz6, QO, ↓Qb]
   refine hK2 _ ?_; try clear hK2 K2
   refine kpA [0, 1, 7, 8] ?_
   refine Qz F_mixed [some 18, some 8] rfl ?_
   simp only [zzK, QR, QP, QQ, zz21, JM, zz26, JC, hwx, zz6, QO, ↓Qb]
   refine ⟨post2.length, _, by simp, le_SK id [] rfl (l' := [(0, .d (dues l)), (1, .d (fnD 42)), (7, .d (iv l.length)), (8, .d (iv (pre ++ [x]).length))]) (m' := []) ?_ ?_ ?_ ?_, (pre ++ [x]), post2, by simp [hsp], by rw [hbi, badI, hs]; simp, rfl, rfl⟩
   ·simp only [leV, JD, QQ, Qd, Qc, hwx]; exact ⟨(by first | exact Qo rfl | exact Qq (by decide) | exact Qp | exact Qn _ | exact Qs (by simp) (by rfl) | exact Qr (by simp) (by rfl) (by first | rfl | (simp; done) | (simp; omega)) | exact Qt (by first | rfl | simp)), (by first | exact Qo rfl | exact Qq (by decide) | exact Qp | exact Qn _ | exact Qs (by simp) (by rfl) | exact Qr (by simp) (by rfl) (by first | rfl | (simp; done) | (simp; omega)) | exact Qt (by first | rfl | simp)), (by first | exact Qo rfl | exact Qq (by decide) | exact Qp | exact Qn _ | exact Qs (by simp) (by rfl) | exact Qr (by simp) (by rfl) (by first | rfl | (simp; done) | (simp; omega)) | exact Qt (by first | rfl | simp)), (by first | exact Qo rfl | exact Qq (by decide) | exact Qp | exact Qn _ | exact Qs (by simp) (by rfl) | exact Qr (by simp) (by rfl) (by first | rfl | (simp; done) | (simp; omega)) | exact Qt (by first | rfl | simp)), trivial⟩
   ·exact trivial
   ·simp [wfV, QY, QX, lookR, grow]
   ·simp [wfR]
 ·intro hb
  obtain rfl : post = [] := by
   cases post with
   | nil => rfl
   | cons x t => have := Qf hb; simp at hspl; omega
  clear hb
  simp only [QG] at hsp
  subst hsp
  refine JK ?_
  simp only [zz6, QO, ↓Qb]
  refine hK0 _ ?_; try clear hK0 K0
  refine kpA [] ?_
  refine JA fun K0 hK0 => ?_
  refine Qz F_mixed [some 4] rfl ?_
  simp only [zzK, QR, QP, QQ, JB, zz6, QO, ↓Qb]
  refine hK0 _ ?_; try clear hK0 K0
  refine kpA [4] ?_
  refine JJ ?_
  simp only [zz6, QO, ↓Qb]
  refine dnA ?_
  simp only [QD, QE, resA, JZ, QR, QP, JD, QQ, Qd, Qc, JP]
  rw [hbi]; rfl
theorem dCont_ (l : List LegV) (hl : l.length ≤ 1000000) : ACalls Try.prog 41 [dues l, fnD 42] [] (bv (!rtOk l)) := by
 refine acalls_S (rs := [.tmp 4]) Try.func41 rfl rfl 9 [(0, .d (dues l)), (1, .d (fnD 42))] rfl (by simp) rfl ?_
 refine JA fun K0 hK0 => ?_
 refine Qz F_mixed [some 4] rfl ?_
 simp only [zzK, QR, QP, QQ, JB, zz6, QO, ↓Qb]
 refine hK0 _ ?_; try clear hK0 K0
 refine kpA [0, 1] ?_
 refine JA fun K0 hK0 => ?_
 refine Qz F_mixed [some 5, some 6, some 7, some 8, some 4] rfl ?_
 simp only [zzK, QR, QP, QQ, JC, JE, JF, zz21, JM, zz31, JB, fnD, zz6, QO, ↓Qb]
 refine JT F_go58 (fun hG => dIdx_ l hl) (by simp [QY, QX]) (by simp) ?_
 simp only [zzK, QR, QP, QQ, JC, JE, JF, zz21, JM, zz31, JB, fnD, zz6, QO, ↓Qb, atsL, oksG, JV, QZ, Qa, JO, Qm, QT, QS, zz9, QB, QA, zzC, yyF, zzD, zz2]
 refine hK0 _ ?_; try clear hK0 K0
 refine kpA [4] ?_
 refine JJ ?_
 simp only [zz6, QO, ↓Qb]
 refine dnA ?_
 simp only [QD, QE, resA, JZ, QR, QP, JD, QQ, Qd, Qc, JP]
 rw [badI_rt]
theorem nRight_ (l : List LegV) (hl : l.length ≤ 1000000) : ACalls Try.prog 21 [dues l] [] (bv (rtOk l)) := by
 refine acalls_S (rs := [.tmp 2]) Try.func21 rfl rfl 6 [(0, .d (dues l))] rfl (by simp) rfl ?_
 refine JA fun K0 hK0 => ?_
 refine Qz F_mixed [some 2] rfl ?_
 simp only [zzK, QR, QP, QQ, JB, zz6, QO, ↓Qb]
 refine hK0 _ ?_; try clear hK0 K0
 refine kpA [0] ?_
 refine JA fun K0 hK0 => ?_
 refine Qz F_mixed [some 3, some 4, some 5, some 2] rfl ?_
 simp only [zzK, QR, QP, QQ, JC, JE, JF, zz29, JM, zz30, JB, fnD, zz6, QO, ↓Qb]
 refine JT F_go41 (fun hG => dCont_ l hl) (by simp [QY, QX]) (by simp) ?_
 simp only [zzK, QR, QP, QQ, JC, JE, JF, zz29, JM, zz30, JB, fnD, zz6, QO, ↓Qb, atsL, oksG, JV, QZ, Qa, JO, Qm, QT, QS, zz9, QB, QA, zzC, yyF, zzD, zz2]
 refine hK0 _ ?_; try clear hK0 K0
 refine kpA [2] ?_
 refine JJ ?_
 simp only [zz6, QO, ↓Qb]
 refine dnA ?_
 simp only [QD, QE, resA, JZ, QR, QP, JD, QQ, Qd, Qc, JP]
 simp
theorem dCmp_ (a b : LegV) : ACalls Try.prog 24 [.agg (dueC a), .agg (dueC b)] [] (.d (iv (dueCmp a b))) := by
 refine acalls_S (rs := [.tmp 4]) Try.func24 rfl rfl 17 [(0, .d (.agg (dueC a))), (1, .d (.agg (dueC b)))] rfl (by simp) rfl ?_
 refine JA fun K0 hK0 => ?_
 refine Qz F_mixed [some 2, some 3, some 4] rfl ?_
 simp only [zzK, QR, QP, QQ, zz35, JS, zz1, zzG, zzD, zzC, QA, yyE, Qe, QS, QN, zzH, JB, dueC, zz6, QO, ↓Qb]
 refine hK0 _ ?_; try clear hK0 K0
 refine kpA [2, 3] ?_
 refine JA fun K0 hK0 => ?_
 refine awp_draw F_mixed [some 5, some 6, some 7, some 8, some 9, some 10, some 11, some 12, some 13, some 14, some 15, some 16, some 4] rfl (by kernel_rfl) ?_
 simp only [zzK, QR, QP, QQ, zz19, zz23, F_off30_0, zzH, QN, QS, F_ok3, F_ag3, F_sz3, zz8, zzD, zzC, QA, yyE, Qe, JE, JF, F_off30_1, F_sl57, F_zero3, zz3, JS, zz1, zzG, maxLen_le, QT, JB, ints, QD, D.sl.injEq, zz6, QO, ↓Qb]
 refine JT F_go26 (fun hG => Compare_ a.ac.who b.ac.who) (by simp [QY, QX]) (by simp) ?_
 simp only [zzK, QR, QP, QQ, zz19, zz23, F_off30_0, zzH, QN, QS, F_ok3, F_ag3, F_sz3, zz8, zzD, zzC, QA, yyE, Qe, JE, JF, F_off30_1, F_sl57, F_zero3, zz3, JS, zz1, zzG, maxLen_le, QT, JB, ints, QD, zz6, QO, ↓Qb, atsL, oksG, JV, QZ, Qa, JO, Qm, QT, QS, zz9, QB, QA, S_mem, yyF, QF, zz2]
 refine JT F_go26 (fun hG => Compare_ a.ac.cur b.ac.cur) (by simp [QY, QX]) (by simp) ?_
 simp only [zzK, QR, QP, QQ, zz19, zz23, F_off30_0, zzH, QN, QS, F_ok3, F_ag3, F_sz3, zz8, zzD, zzC, QA, yyE, Qe, JE, JF, F_off30_1, F_sl57, F_zero3, zz3, JS, zz1, zzG, maxLen_le, QT, JB, ints, QD, zz6, QO, ↓Qb, atsL, oksG, JV, QZ, Qa, JO, Qm, QT, QS, zz9, QB, QA, S_mem, yyF, QF, zz2]
 refine JT F_go25 (fun hG => Or_ [cmpI a.ac.who b.ac.who, cmpI a.ac.cur b.ac.cur] (by simp)) (by simp [QY, QX]) (by simp) ?_
 simp only [zzK, QR, QP, QQ, zz19, zz23, F_off30_0, zzH, QN, QS, F_ok3, F_ag3, F_sz3, zz8, zzD, zzC, QA, yyE, Qe, JE, JF, F_off30_1, F_sl57, F_zero3, zz3, JS, zz1, zzG, maxLen_le, QT, JB, ints, QD, zz6, QO, ↓Qb, atsL, oksG, JV, QZ, Qa, JO, Qm, QT, QS, zz9, QB, QA, S_mem, yyF, QF, zz2]
 refine hK0 _ ?_; try clear hK0 K0
 refine kpA [4] ?_
 refine JJ ?_
 simp only [zz6, QO, ↓Qb]
 refine dnA ?_
 simp only [QD, QE, resA, JZ, QR, QP, JD, QQ, Qd, Qc, JP]
 rw [dueCmp]
theorem dEq_ (a b : LegV) : ACalls Try.prog 28 [.agg (dueC a), .agg (dueC b)] [] (bv (dueEq a b)) := by
 refine acalls_S (rs := [.tmp 4]) Try.func28 rfl rfl 17 [(0, .d (.agg (dueC a))), (1, .d (.agg (dueC b)))] rfl (by simp) rfl ?_
 refine JA fun K0 hK0 => ?_
 refine Qz F_mixed [some 2, some 3, some 4] rfl ?_
 simp only [zzK, QR, QP, QQ, zz35, JS, zz1, zzG, zzD, zzC, QA, yyE, Qe, QS, QN, zzH, JB, dueC, zz6, QO, ↓Qb]
 refine hK0 _ ?_; try clear hK0 K0
 refine kpA [2, 3] ?_
 refine JA fun K0 hK0 => ?_
 refine Qz F_mixed [some 5, some 6, some 7, some 8, some 9, some 10, some 11, some 12, some 13, some 14, some 15, some 16, some 4] rfl ?_
 simp only [zzK, QR, QP, QQ, QU, JZ, zz5, Qj, Qi, Qh, zz19, zz23, F_off30_0, zzH, QN, QS, F_ok3, F_ag3, F_sz3, zz8, zzD, zzC, QA, yyE, Qe, zz21, JM, zz34, JC, F_off30_1, zz13, JQ, JR, JB, zz6, QO, ↓Qb]
 refine hK0 _ ?_; try clear hK0 K0
 refine kpA [4] ?_
 refine JJ ?_
 simp only [zz6, QO, ↓Qb]
 refine dnA ?_
 simp only [QD, QE, resA, JZ, QR, QP, JD, QQ, Qd, Qc, JP]
 simp only [dueEq]
theorem Gross_ (w c : Int) (l : List LegV) (hl : l.length ≤ 1000000) : ACalls Try.prog 10 [iv w, iv c, dues l] [] (.tp [.d (iv (grV w c l)), .d (iv (grE w c l))]) := by
 refine acalls_S (rs := [.tmp 6, .tmp 7]) Try.func10 rfl rfl 40 [(0, .d (iv w)), (1, .d (iv c)), (2, .d (dues l))] rfl (by simp) rfl ?_
 refine JA fun K0 hK0 => ?_
 refine Qz F_mixed [some 6, some 7] rfl ?_
 simp only [zzK, QR, QP, QQ, JB, zz6, QO, ↓Qb]
 refine hK0 _ ?_; try clear hK0 K0
 refine kpA [0, 1, 2] ?_
 refine JA fun K0 hK0 => ?_
 refine JA fun K1 hK1 => ?_
 refine Qz F_mixed [some 11, some 12, some 13] rfl ?_
 simp only [zzK, QR, QP, QQ, JC, JE, JF, zz29, JM, zz30, dues, zz6, QO, ↓Qb]
 refine JT F_go21 (fun hG => nRight_ l hl) (by simp [QY, QX]) (by simp) ?_
 simp only [zzK, QR, QP, QQ, JC, JE, JF, zz29, JM, zz30, dues, zz6, QO, ↓Qb, atsL, oksG, JV, QZ, Qa, JO, Qm, QT, QS, zz9, QB, QA, zzC, yyF, zzD, zz2]
 refine hK1 _ ?_; try clear hK1 K1
 refine kpA [0, 1, 2, 13] ?_
 refine cnA ?_ ?_
 ·intro hb
  have hr : rtOk l = false := by simpa using hb
  clear hb
  refine JA fun K2 hK2 => ?_
  refine Qz F_mixed [some 6, some 7] rfl ?_
  simp only [zzK, QR, QP, QQ, JB, zz6, QO, ↓Qb]
  refine hK2 _ ?_; try clear hK2 K2
  refine kpA [6, 7] ?_
  refine JJ ?_
  simp only [zz6, QO, ↓Qb]
  refine dnA ?_
  simp only [QD, QE, resA, JZ, QR, QP, JD, QQ, Qd, Qc, JP]
  simp only [grV, grE, hr, Qc]
 ·intro hb
  have hr : rtOk l = true := by simpa using hb
  clear hb
  refine JI ?_
  simp only [zz6, QO, ↓Qb]
  refine hK0 _ ?_; try clear hK0 K0
  refine kpA [0, 1, 2] ?_
  refine JA fun K0 hK0 => ?_
  refine Qz F_mixed [some 8] rfl ?_
  simp only [zzK, QR, QP, QQ, JB, zz6, QO, ↓Qb]
  refine hK0 _ ?_; try clear hK0 K0
  refine kpA [0, 1, 2, 8] ?_
  refine JA fun K0 hK0 => ?_
  refine JA fun K1 hK1 => ?_
  refine Qz F_mixed [some 14, some 15, some 16] rfl ?_
  simp only [zzK, QR, QP, QQ, JC, JE, zz12, F_sl22, Option.isSome_some, dues, JN, zz6, QO, ↓Qb]
  refine hK1 _ ?_; try clear hK1 K1
  refine kpA [0, 1, 8, 14, 15, 16] ?_
  refine JH ?_
  refine JL (fun m s => ∃ (pre : List LegV) (post : List LegV), (l = pre ++ post) ∧ m = post.length ∧ s = S 40 [(0, .d (iv w)), (1, .d (iv c)), (8, .ref 8 (amts (ofKey w c pre)).length), (14, .d (dues l)), (15, .d (iv l.length)), (16, .d (iv pre.length))] [(8, grow 3 1 8 ((amts (ofKey w c pre)).map fun n => [iv n]))]) (l.length) _ (le_SK id [8] rfl (l' := [(0, .d (iv w)), (1, .d (iv c)), (8, .ref 8 (amts (ofKey w c [])).length), (14, .d (dues l)), (15, .d (iv l.length)), (16, .d (iv [].length))]) (m' := [(8, grow 3 1 8 ((amts (ofKey w c [])).map fun n => [iv n]))]) ?_ ?_ ?_ ?_) ⟨[], l, rfl, rfl, rfl⟩ ?_
  ·simp only [leV, JD, QQ, Qd, Qc]; exact ⟨(by first | exact Qo rfl | exact Qq (by decide) | exact Qp | exact Qn _ | exact Qs (by simp) (by rfl) | exact Qr (by simp) (by rfl) (by first | rfl | (simp; done) | (simp; omega)) | exact Qt (by first | rfl | simp)), (by first | exact Qo rfl | exact Qq (by decide) | exact Qp | exact Qn _ | exact Qs (by simp) (by rfl) | exact Qr (by simp) (by rfl) (by first | rfl | (simp; done) | (simp; omega)) | exact Qt (by first | rfl | simp)), (by first | exact Qo rfl | exact Qq (by decide) | exact Qp | exact Qn _ | exact Qs (by simp) (by rfl) | exact Qr (by simp) (by rfl) (by first | rfl | (simp; done) | (simp; omega)) | exact Qt (by first | rfl | simp)), (by first | exact Qo rfl | exact Qq (by decide) | exact Qp | exact Qn _ | exact Qs (by simp) (by rfl) | exact Qr (by simp) (by rfl) (by first | rfl | (simp; done) | (simp; omega)) | exact Qt (by first | rfl | simp)), (by first | exact Qo rfl | exact Qq (by decide) | exact Qp | exact Qn _ | exact Qs (by simp) (by rfl) | exact Qr (by simp) (by rfl) (by first | rfl | (simp; done) | (simp; omega)) | exact Qt (by first | rfl | simp)), (by first | exact Qo rfl | exact Qq (by decide) | exact Qp | exact Qn _ | exact Qs (by simp) (by rfl) | exact Qr (by simp) (by rfl) (by first | rfl | (simp; done) | (simp; omega)) | exact Qt (by first | rfl | simp)), trivial⟩
  ·exact ⟨fun h => by simp at h, fun _ => rfl, trivial⟩
  ·simp [wfV, QY, QX, lookR, grow]
  ·exact ⟨wf_data _ _, trivial⟩
  rintro m s ⟨pre, post, hsp, rfl, rfl⟩
  have hspl := congrArg List.length hsp
  simp only [QC] at hspl
  have hql := amts_key_len w c pre
  refine JA fun K2 hK2 => ?_
  refine Qz F_mixed [some 17] rfl ?_
  simp only [zzK, QR, QP, QQ, zz21, JM, zz22, zz6, QO, ↓Qb]
  refine hK2 _ ?_; try clear hK2 K2
  refine kpA [0, 1, 8, 14, 15, 16, 17] ?_
  refine JA fun K2 hK2 => ?_
  refine cnA ?_ ?_
  ·intro hb
   obtain ⟨x, post2, rfl⟩ : ∃ x t, post = x :: t := by
    cases post with
    | nil => have := Qg hb; simp at hspl; omega
    | cons x t => exact ⟨x, t, rfl⟩
   clear hb
   simp only [QF] at hspl
   have gx : (l.map dueC).getD pre.length [] = [iv x.ac.who, iv x.ac.cur, iv x.amt] := by
    rw [hsp, List.map_append]; exact gd_mid' (A := pre.map dueC) _ _ (by simp)
   have bx := ltI (show pre.length < l.length by omega)
   have hwx : Ql .i64 ((pre.length : Int) + 1) = ((pre ++ [x]).length : Int) := by rw [wrapI (by omega) (by omega)]; simp
   refine JI ?_
   simp only [zz6, QO, ↓Qb]
   refine hK2 _ ?_; try clear hK2 K2
   refine kpA [0, 1, 8, 14, 15, 16] ?_
   refine JA fun K2 hK2 => ?_
   refine JH ?_
   refine JA fun K3 hK3 => ?_
   refine Qz F_mixed [some 18, some 19, some 10, none] rfl ?_
   simp only [zzK, QR, QP, QQ, JW, zz23, zz24, F_sl22, F_sz30, QA, zzC, yyE, Qe, F_ok30, F_ag30, zz8, zzD, QS, QN, zzH, zz32, JS, F_zero30, zz10, zz18, splice, QG, zz1, zzG, dues, gx, bx, hwx, JN, ge0, QV, QW, zz6, QO, ↓Qb]
   refine hK3 _ ?_; try clear hK3 K3
   refine kpA [0, 1, 8, 10, 14, 15, 16] ?_
   refine JA fun K3 hK3 => ?_
   refine Qz F_mixed [some 20, some 21, some 22, some 23, some 24, some 25, some 26, some 27, some 28, some 29] rfl ?_
   simp only [zzK, QR, QP, QQ, QU, JZ, zz5, Qj, Qi, Qh, zz19, zz23, F_off30_0, zzH, QN, QS, F_ok3, F_ag3, F_sz3, zz8, zzD, zzC, QA, yyE, Qe, JC, zz21, JM, zz34, F_off30_1, zz13, JQ, JR, zz6, QO, ↓Qb]
   refine hK3 _ ?_; try clear hK3 K3
   refine kpA [0, 1, 8, 10, 14, 15, 16, 29] ?_
   refine cnA ?_ ?_
   ·intro hb
    have hs : (x.ac.who == w && x.ac.cur == c) = true := by simpa using hb
    clear hb
    have hkl := key_yes hs pre
    refine Qz F_mixed [some 30, some 31, some 32, some 33, some 34, some 8] rfl ?_
    simp only [zzK, QR, QP, QQ, JC, zz19, zz23, F_off30_2, zzH, QN, QS, F_ok3, F_ag3, F_sz3, zz8, zzD, zzC, QA, yyE, Qe, F_sl57, F_zero3, zz3, JS, zz1, zzG, maxLen_le, QT, JE, F_by3, zz4, zz9, QB, JB, grow, unDs_map, QW, zz6, QO, ↓Qb]
    have hm : (amts (ofKey w c pre)).length + 1 ≤ 1000000 := by first | omega | (simp; omega)
    first | refine ⟨le_maxLen hm, by omega, ?_⟩ | refine ⟨by simp, le_maxLen hm, by omega, ?_⟩
    clear hm
    refine hK2 _ ?_; try clear hK2 K2
    refine kpA [0, 1, 8, 14, 15, 16] ?_
    refine Qz F_mixed [some 35, some 16] rfl ?_
    simp only [zzK, QR, QP, QQ, zz21, JM, zz26, JC, hwx, zz6, QO, ↓Qb]
    refine ⟨post2.length, _, by simp, le_SK (fun r => bif r == 8 then 34 else r) [] rfl (l' := [(0, .d (iv w)), (1, .d (iv c)), (8, .ref 8 (amts (ofKey w c (pre ++ [x]))).length), (14, .d (dues l)), (15, .d (iv l.length)), (16, .d (iv (pre ++ [x]).length))]) (m' := [(8, grow 3 1 8 ((amts (ofKey w c (pre ++ [x]))).map fun n => [iv n]))]) ?_ ?_ ?_ ?_, (pre ++ [x]), post2, by simp [hsp], rfl, rfl⟩
    ·simp only [leV, JD, QQ, Qd, Qc, hwx, hkl]; exact ⟨(by first | exact Qo rfl | exact Qq (by decide) | exact Qp | exact Qn _ | exact Qs (by simp) (by rfl) | exact Qr (by simp) (by rfl) (by first | rfl | (simp; done) | (simp; omega)) | exact Qt (by first | rfl | simp)), (by first | exact Qo rfl | exact Qq (by decide) | exact Qp | exact Qn _ | exact Qs (by simp) (by rfl) | exact Qr (by simp) (by rfl) (by first | rfl | (simp; done) | (simp; omega)) | exact Qt (by first | rfl | simp)), (by first | exact Qo rfl | exact Qq (by decide) | exact Qp | exact Qn _ | exact Qs (by simp) (by rfl) | exact Qr (by simp) (by rfl) (by first | rfl | (simp; done) | (simp; omega)) | exact Qt (by first | rfl | simp)), (by first | exact Qo rfl | exact Qq (by decide) | exact Qp | exact Qn _ | exact Qs (by simp) (by rfl) | exact Qr (by simp) (by rfl) (by first | rfl | (simp; done) | (simp; omega)) | exact Qt (by first | rfl | simp)), (by first | exact Qo rfl | exact Qq (by decide) | exact Qp | exact Qn _ | exact Qs (by simp) (by rfl) | exact Qr (by simp) (by rfl) (by first | rfl | (simp; done) | (simp; omega)) | exact Qt (by first | rfl | simp)), (by first | exact Qo rfl | exact Qq (by decide) | exact Qp | exact Qn _ | exact Qs (by simp) (by rfl) | exact Qr (by simp) (by rfl) (by first | rfl | (simp; done) | (simp; omega)) | exact Qt (by first | rfl | simp)), trivial⟩
    ·exact ⟨fun _ => ⟨_, rfl, Qw (by rw [hkl]; simp)⟩, fun h => by simp at h, trivial⟩
    ·simp [wfV, QY, QX, lookR, grow]
    ·exact ⟨wf_data _ _, trivial⟩
   ·intro hb
    have hs : (x.ac.who == w && x.ac.cur == c) = false := by simpa using hb
    clear hb
    have hkl := key_no hs pre
    refine JI ?_
    simp only [zz6, QO, ↓Qb]
    refine hK2 _ ?_; try clear hK2 K2
    refine kpA [0, 1, 8, 14, 15, 16] ?_
    refine Qz F_mixed [some 35, some 16] rfl ?_
    simp only [zzK, QR, QP, QQ, zz21, JM, zz26, JC, hwx, zz6, QO, ↓Qb]
    refine ⟨post2.length, _, by simp, le_SK id [] rfl (l' := [(0, .d (iv w)), (1, .d (iv c)), (8, .ref 8 (amts (ofKey w c (pre ++ [x]))).length), (14, .d (dues l)), (15, .d (iv l.length)), (16, .d (iv (pre ++ [x]).length))]) (m' := [(8, grow 3 1 8 ((amts (ofKey w c (pre ++ [x]))).map fun n => [iv n]))]) ?_ ?_ ?_ ?_, (pre ++ [x]), post2, by simp [hsp], rfl, rfl⟩
    ·simp only [leV, JD, QQ, Qd, Qc, hwx, hkl]; exact ⟨(by first | exact Qo rfl | exact Qq (by decide) | exact Qp | exact Qn _ | exact Qs (by simp) (by rfl) | exact Qr (by simp) (by rfl) (by first | rfl | (simp; done) | (simp; omega)) | exact Qt (by first | rfl | simp)), (by first | exact Qo rfl | exact Qq (by decide) | exact Qp | exact Qn _ | exact Qs (by simp) (by rfl) | exact Qr (by simp) (by rfl) (by first | rfl | (simp; done) | (simp; omega)) | exact Qt (by first | rfl | simp)), (by first | exact Qo rfl | exact Qq (by decide) | exact Qp | exact Qn _ | exact Qs (by simp) (by rfl) | exact Qr (by simp) (by rfl) (by first | rfl | (simp; done) | (simp; omega)) | exact Qt (by first | rfl | simp)), (by first | exact Qo rfl | exact Qq (by decide) | exact Qp | exact Qn _ | exact Qs (by simp) (by rfl) | exact Qr (by simp) (by rfl) (by first | rfl | (simp; done) | (simp; omega)) | exact Qt (by first | rfl | simp)), (by first | exact Qo rfl | exact Qq (by decide) | exact Qp | exact Qn _ | exact Qs (by simp) (by rfl) | exact Qr (by simp) (by rfl) (by first | rfl | (simp; done) | (simp; omega)) | exact Qt (by first | rfl | simp)), (by first | exact Qo rfl | exact Qq (by decide) | exact Qp | exact Qn _ | exact Qs (by simp) (by rfl) | exact Qr (by simp) (by rfl) (by first | rfl | (simp; done) | (simp; omega)) | exact Qt (by first | rfl | simp)), trivial⟩
    ·exact ⟨fun _ => ⟨_, rfl, Qw (by rw [hkl])⟩, fun h => by simp at h, trivial⟩
    ·simp [wfV, QY, QX, lookR, grow]
    ·exact ⟨wf_data _ _, trivial⟩
  ·intro hb
   obtain rfl : post = [] := by
    cases post with
    | nil => rfl
    | cons x t => have := Qf hb; simp at hspl; omega
   clear hb
   simp only [QG] at hsp
   subst hsp
   refine JK ?_
   simp only [zz6, QO, ↓Qb]
   refine hK0 _ ?_; try clear hK0 K0
   refine kpA [8] ?_
   refine JA fun K0 hK0 => ?_
   refine Qz F_mixed [some 36, some 37, some 38, some 39, some 6, some 7] rfl ?_
   simp only [zzK, QR, QP, QQ, JC, JE, JF, zz14, zzD, QS, QN, zzF, JB, ints, grow, D.sl.injEq, JN, zz6, QO, ↓Qb]
   refine JT F_go29 (fun hG => Sum_ (amts (ofKey w c l)) (by omega)) (by simp [QY, QX]) (by simp) ?_
   simp only [zzK, QR, QP, QQ, JC, JE, JF, zz14, zzD, QS, QN, zzF, JB, ints, grow, JN, zz6, QO, ↓Qb, atsL, oksG, JV, QZ, Qa, JO, Qm, QT, QS, zz9, QB, QA, zzC, yyF, QF, zz2]
   first | refine ⟨by simp, ?_⟩ | skip
   refine hK0 _ ?_; try clear hK0 K0
   refine kpA [6, 7] ?_
   refine JJ ?_
   simp only [zz6, QO, ↓Qb]
   refine dnA ?_
   simp only [QD, QE, resA, JZ, QR, QP, JD, QQ, Qd, Qc, JP]
   simp only [grV, grE, hr, Qd]
end Go.Proofs.Ytcpkhnciplfmkaa
