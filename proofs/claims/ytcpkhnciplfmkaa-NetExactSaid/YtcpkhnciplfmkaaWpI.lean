import Derived.Test.YtcpkhnciplfmkaaWpG
import Derived.Test.YtcpkhnciplfmkaaSpecNB
namespace Go.Proofs.Ytcpkhnciplfmkaa
open Go.RowKit
set_option linter.unusedVariables false
set_option linter.unusedSimpArgs false
open Option renaming map_some → QA, bind_some → QB
open List renaming map_cons → QD, map_nil → QE, length_cons → QF, append_nil → QG
open Nat renaming zero_add → QN, reduceEqDiff → QO, reduceLeDiff → QP, reduceBEq → QQ, reduceLT → QR, reduceAdd → QS, reduceMul → QT, reduceSub → QU
open D.agg renaming injEq → QW
open AV renaming idsL → QX, ids → QY
open _root_ renaming reduceIte → Qb, cond_false → Qc, cond_true → Qd, reduceCtorEq → Qe
open VLe renaming refl → Qn
open Go.Proofs.Ytcpkhnciplfmkaa renaming awp_plain → Qz, awp_seq → JA, evS_assign → JB, evS_move → JC, look_cons → JD, evS_call → JE, evC_value → JF, awp_ret → JJ, len_map → JN, newRow1 → JS, evS_indexAddr → JW, S_getD → JZ
theorem F_go30 : goFn Try.prog 30 := ⟨_, Try.func30, rfl, rfl⟩
theorem F_go8 : goFn Try.prog 8 := ⟨_, Try.func8, rfl, rfl⟩
theorem nkDue_ (d : LegV) : ACalls Try.prog 30 [.agg (dueC d), .agg (dueC d)] [] (bv true) := by
 refine acalls_S (rs := [.tmp 4]) Try.func30 rfl rfl 24 [(0, .d (.agg (dueC d))), (1, .d (.agg (dueC d)))] rfl (by simp) rfl ?_
 refine JA fun K0 hK0 => ?_
 refine Qz F_mixed [some 2, some 3, some 4] rfl ?_
 simp only [zzK, QR, QP, QQ, zz35, JS, zz1, zzG, zzD, zzC, QA, yyE, Qe, QS, QN, zzH, JB, dueC, zz6, QO, ↓Qb]
 refine hK0 _ ?_; try clear hK0 K0
 refine kpA [2, 3] ?_
 refine JA fun K0 hK0 => ?_
 refine Qz F_mixed [some 5, some 6, some 7, some 8, some 9, some 10, some 11, some 12, some 13, some 14, some 15, some 16, some 17, some 18, some 19, some 20, some 21, some 22, some 23, some 4] rfl ?_
 simp only [zzK, QR, QP, QQ, QU, JZ, zz5, and_imp, imp_and, imp_self, zz19, zz23, F_off30_0, zzH, QN, QS, F_ok3, F_ag3, F_sz3, zz8, zzD, zzC, QA, yyE, Qe, zz21, gr_v, zz34, JC, F_off30_1, zz13, pickK_l, pickK_r, F_off30_2, JB, zz6, QO, ↓Qb]
 refine hK0 _ ?_; try clear hK0 K0
 refine kpA [4] ?_
 refine JJ ?_
 simp only [zz6, QO, ↓Qb]
 refine dnA ?_
 simp only [QD, QE, resA, JZ, QR, QP, JD, QQ, Qd, Qc, resAll]
 simp
theorem nkDues_ (l : List LegV) (hl : l.length ≤ 1000000) : ACalls Try.prog 11 [dues l, dues l] [] (bv true) := by
 refine acalls_S (rs := [.tmp 4]) Try.func11 rfl rfl 27 [(0, .d (dues l)), (1, .d (dues l))] rfl (by simp) rfl ?_
 refine JA fun K0 hK0 => ?_
 refine Qz F_mixed [some 4] rfl ?_
 simp only [zzK, QR, QP, QQ, JB, zz6, QO, ↓Qb]
 refine hK0 _ ?_; try clear hK0 K0
 refine kpA [0, 1] ?_
 refine JA fun K0 hK0 => ?_
 refine JA fun K1 hK1 => ?_
 refine Qz F_mixed [some 6, some 7, some 8, some 9, some 10] rfl ?_
 simp only [zzK, QR, QP, QQ, JC, JE, zz12, F_sl22, Option.isSome_some, zz21, gr_v, zz28, dues, JN, zz6, QO, ↓Qb]
 refine hK1 _ ?_; try clear hK1 K1
 refine kpA [0, 1, 10] ?_
 refine cnA ?_ ?_
 ·intro hb
  simp at hb
 ·intro hb
  clear hb
  refine awp_skip ?_
  simp only [zz6, QO, ↓Qb]
  refine hK0 _ ?_; try clear hK0 K0
  refine kpA [0, 1] ?_
  refine JA fun K0 hK0 => ?_
  refine JA fun K1 hK1 => ?_
  refine Qz F_mixed [some 5] rfl ?_
  simp only [zzK, QR, QP, QQ, JB, zz6, QO, ↓Qb]
  refine hK1 _ ?_; try clear hK1 K1
  refine kpA [0, 1, 5] ?_
  refine awp_block ?_
  refine awp_loop (fun m s => ∃ pre post : List LegV, l = pre ++ post ∧ m = post.length ∧ s = S 27 [(0, .d (dues l)), (1, .d (dues l)), (5, .d (iv pre.length))] []) l.length _ (le_SK id [] rfl (l' := [(0, .d (dues l)), (1, .d (dues l)), (5, .d (iv ([] : List LegV).length))]) (m' := []) ?_ ?_ ?_ ?_) ⟨[], l, rfl, rfl, rfl⟩ ?_
  ·simp only [leV, JD, QQ, Qd, Qc, dues, JN]; exact ⟨Qn _, Qn _, Qn _, trivial⟩
  ·exact trivial
  ·simp [wfV, QY, QX, lookR]
  ·simp [wfR, QX, QY]
  rintro m s ⟨pre, post, rfl, rfl, rfl⟩
  refine JA fun K2 hK2 => ?_
  refine JA fun K3 hK3 => ?_
  refine Qz F_mixed [some 11, some 12, some 13, some 14] rfl ?_
  simp only [zzK, QR, QP, QQ, JC, JE, zz12, F_sl22, Option.isSome_some, zz21, gr_v, zz22, dues, JN, zz6, QO, ↓Qb]
  refine hK3 _ ?_; try clear hK3 K3
  refine kpA [0, 1, 5, 14] ?_
  refine cnA ?_ ?_
  ·intro hb
   obtain ⟨x, post, rfl⟩ := more_of hb; clear hb
   refine awp_skip ?_
   simp only [zz6, QO, ↓Qb]
   refine hK2 _ ?_; try clear hK2 K2
   refine kpA [0, 1, 5] ?_
   refine JA fun K2 hK2 => ?_
   refine awp_block ?_
   refine JA fun K3 hK3 => ?_
   refine awp_draw F_mixed [some 17, some 18, some 19, some 20, some 21, some 22, some 23, some 24, some 25, some 26] rfl (by kernel_rfl) ?_
   simp only [zzK, QR, QP, QQ, JC, JW, zz23, zz24, F_sl22, F_sz30, QA, zzC, yyE, Qe, F_ok30, F_ag30, zz8, zzD, QS, QN, zzH, JE, JF, zz29, gr_v, zz30, dues, dueC, getD_mid, JN, lt_mid, ge_mid, QW, zz6, QO, ↓Qb]
   refine call_go F_go30 (fun hG => nkDue_ x) (by simp [QY, QX]) (by simp) ?_
   simp only [zzK, QR, QP, QQ, JC, JW, zz23, zz24, F_sl22, F_sz30, QA, zzC, yyE, Qe, F_ok30, F_ag30, zz8, zzD, QS, QN, zzH, JE, JF, zz29, gr_v, zz30, dues, dueC, getD_mid, JN, lt_mid, ge_mid, QW, zz6, QO, ↓Qb, atsL, oksG, freeN, AV.ren, AV.renL, addRows, ORow.row, QT, QS, zz9, QB, QA, S_mem, yyF, QF, zz2]
   refine hK3 _ ?_; try clear hK3 K3
   refine kpA [0, 1, 5, 26] ?_
   refine cnA ?_ ?_
   ·intro hb
    simp at hb
   ·intro hb
    clear hb
    refine awp_skip ?_
    simp only [zz6, QO, ↓Qb]
    refine hK2 _ ?_; try clear hK2 K2
    refine kpA [0, 1, 5] ?_
    refine Qz F_mixed [some 15, some 16, some 5] rfl ?_
    simp only [zzK, QR, QP, QQ, JC, zz21, gr_v, zz26, JB, zz6, QO, ↓Qb]
    refine ⟨post.length, _, by simp, le_SK id [] rfl (l' := [(0, .d (dues (pre ++ x :: post))), (1, .d (dues (pre ++ x :: post))), (5, .d (iv (pre ++ [x]).length))]) (m' := []) ?_ ?_ ?_ ?_, pre ++ [x], post, by simp, rfl, rfl⟩
    ·simp only [leV, JD, QQ, Qd, Qc, dues, JN, wrap_len pre x (by simp at hl; omega)]; exact ⟨Qn _, Qn _, Qn _, trivial⟩
    ·exact trivial
    ·simp [wfV, QY, QX, lookR]
    ·simp [wfR, QX, QY]
  ·intro hb
   clear hb
   refine awp_exit ?_
   simp only [zz6, QO, ↓Qb]
   refine hK0 _ ?_; try clear hK0 K0
   refine kpA [] ?_
   refine JA fun K0 hK0 => ?_
   refine Qz F_mixed [some 4] rfl ?_
   simp only [zzK, QR, QP, QQ, JB, zz6, QO, ↓Qb]
   refine hK0 _ ?_; try clear hK0 K0
   refine kpA [4] ?_
   refine JJ ?_
   simp only [zz6, QO, ↓Qb]
   refine dnA ?_
   simp only [QD, QE, resA, JZ, QR, QP, JD, QQ, Qd, Qc, resAll]
   
theorem nTwin_ (l : List LegV) (hl : l.length ≤ 1000000) : ACalls Try.prog 12 [dues l] [⟨30, 3, l.map dueC⟩] (.ref 0 l.length) := by
 refine acalls_S (rs := [.tmp 2]) Try.func12 rfl rfl 7 [(0, .d (dues l))] rfl (by simp) rfl ?_
 refine JA fun K0 hK0 => ?_
 refine Qz F_mixed [some 2] rfl ?_
 simp only [zzK, QR, QP, QQ, JB, zz6, QO, ↓Qb]
 refine hK0 _ ?_; try clear hK0 K0
 refine kpA [0] ?_
 refine JA fun K0 hK0 => ?_
 refine Qz F_mixed [some 3] rfl ?_
 simp only [zzK, QR, QP, QQ, JB, zz6, QO, ↓Qb]
 refine hK0 _ ?_; try clear hK0 K0
 refine kpA [0, 3] ?_
 refine JA fun K0 hK0 => ?_
 refine Qz F_mixed [some 4, some 5, some 6, some 2] rfl ?_
 simp only [zzK, QR, QP, QQ, JC, JE, F_sl22, F_zero30, F_sz30, F_by30, zz4, maxLen_le, QT, JS, zz9, QB, QA, zzC, yyE, Qe, zzD, QS, QN, zzH, JB, dues, JN, zz6, QO, ↓Qb]
 refine ⟨le_maxLen hl, by omega, ?_⟩
 refine hK0 _ ?_; try clear hK0 K0
 refine kpA [2] ?_
 refine JJ ?_
 simp only [zz6, QO, ↓Qb]
 refine done1 6 (by simp only [resCs, resC]; trivial) ?_ (by simp [flatA, flatAs, flatD, dueC]) (by simp [QY, QX, dueC]) (by rfl) trivial rfl rfl ?_ (by simp [flatDs, flatD, dueC])
 ·simp only [QD, QE, resA, JZ, QR, QP, JD, QQ, Qd, Qc, resAll]; rfl
 ·simp
theorem wakes17_ : ACalls Try.prog 9 [] [] (bv true) := by
 refine acalls_S (rs := [.tmp 0]) Try.func9 rfl rfl 33 [] rfl (by simp) rfl ?_
 have w1 := wk17.1
 have w3 : dues (netV wkD) = .sl 3 [[iv 1, iv 0, iv (-2)]] := by rw [wk17.2]; rfl
 have wD : dues wkD = .sl 3 [[iv 1, iv 0, iv 5], [iv 2, iv 0, iv 3], [iv 1, iv 0, iv (-7)], [iv 2, iv 0, iv (-3)]] := rfl
 have c1 : ((1 : Nat) : Int) = 1 := rfl
 refine JA fun K0 hK0 => ?_
 refine Qz F_mixed [some 0] rfl ?_
 simp only [zzK, QR, QP, QQ, JB, zz6, QO, ↓Qb]
 refine hK0 _ ?_; try clear hK0 K0
 refine kpA [] ?_
 refine JA fun K0 hK0 => ?_
 refine Qz F_mixed [some 4, some 5, some 6, some 7, some 8, some 9, some 3, some 10, some 11, some 1, some 2] rfl ?_
 simp only [zzK, QR, QP, QQ, F_zero30, F_bld30, zz7, splice, Option.getD_some, QG, zz1, zzG, zzD, zzC, QA, yyE, Qe, QS, QN, zzH, zz10, F_fld30_0, F_fld30_2, F_sl22, F_sz30, zz3, JS, maxLen_le, QT, JE, JF, JC, zz14, JB, QD, D.sl.injEq, wD, w1, w3, zz6, QO, ↓Qb]
 refine call_go F_go8 (fun hG => NetF wkD wkD_k (by decide)) (by simp [QY, QX]) (by simp) ?_
 simp only [zzK, QR, QP, QQ, F_zero30, F_bld30, zz7, splice, Option.getD_some, QG, zz1, zzG, zzD, zzC, QA, yyE, Qe, QS, QN, zzH, zz10, F_fld30_0, F_fld30_2, F_sl22, F_sz30, zz3, JS, maxLen_le, QT, JE, JF, JC, zz14, JB, QD, wD, w1, w3, zz6, QO, ↓Qb, atsL, oksG, freeN, AV.ren, AV.renL, addRows, ORow.row, QT, QS, zz9, QB, QA, S_mem, yyF, QF, zz2]
 refine hK0 _ ?_; try clear hK0 K0
 refine kpA [1, 2] ?_
 refine JA fun K0 hK0 => ?_
 refine Qz F_mixed [some 12, some 13, some 14, some 15, some 16, some 17, some 18, some 19, some 20, some 21, some 22, some 23, some 24, some 25, some 26, some 27, some 28, some 29, some 30, some 31, some 32, some 0] rfl ?_
 simp only [zzK, QR, QP, QQ, QU, JZ, zz5, and_imp, imp_and, imp_self, JC, zz21, gr_v, zz34, JE, zz12, F_sl22, Option.isSome_some, zz13, pickK_l, pickK_r, JW, zz23, zz24, F_sz30, QA, zzC, yyE, Qe, zz19, F_off30_0, zzH, QN, QS, F_ok3, F_ag3, F_sz3, zz8, zzD, F_off30_2, JB, w1, w3, c1, zzG, QF, List.getD_cons_zero, Int.reduceLT, Int.reduceLE, Int.reduceToNat, Int.reduceNeg, Int.reduceBEq, Int.toNat_zero, QR, QS, QN, Int.le_refl, beq_self_eq_true, Bool.and_self, Bool.and_true, QW, zz6, QO, ↓Qb]
 refine hK0 _ ?_; try clear hK0 K0
 refine kpA [0] ?_
 refine JJ ?_
 simp only [zz6, QO, ↓Qb]
 refine dnA ?_
 simp only [QD, QE, resA, JZ, QR, QP, JD, QQ, Qd, Qc, resAll]
 try simp
end Go.Proofs.Ytcpkhnciplfmkaa
