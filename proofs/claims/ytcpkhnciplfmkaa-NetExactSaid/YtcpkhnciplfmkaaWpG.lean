import Derived.Test.YtcpkhnciplfmkaaWpF
import Derived.Test.YtcpkhnciplfmkaaWpE
import Derived.Test.YtcpkhnciplfmkaaWpC
namespace Go.Proofs.Ytcpkhnciplfmkaa
open Go.RowKit
set_option linter.unusedVariables false
set_option linter.unusedSimpArgs false
open Option renaming map_some → QA, bind_some → QB
open List renaming length_append → QC, map_cons → QD, map_nil → QE, length_cons → QF, append_nil → QG, drop_zero → QH, getD_cons_zero → QI, getD_cons_succ → QJ, take_succ_cons → QK, drop_succ_cons → QL, length_singleton → QM
open Nat renaming zero_add → QN, reduceEqDiff → QO, reduceLeDiff → QP, reduceBEq → QQ, reduceLT → QR, reduceAdd → QS, reduceMul → QT, reduceSub → QU
open Int renaming toNat_natCast → QV
open D.agg renaming injEq → QW
open AV renaming idsL → QX, ids → QY, ren → QZ, renL → Qa
open _root_ renaming reduceIte → Qb, cond_false → Qc, cond_true → Qd, reduceCtorEq → Qe, of_decide_eq_false → Qf, of_decide_eq_true → Qg
open IntKind renaming wrap → Ql
open ORow renaming row → Qm
open VLe renaming refl → Qn, still → Qo, nild_ → Qp, nil_ → Qq, refE → Qr, ptrE → Qs, dE → Qt
open RowLe renaming same → Qu, data_ → Qw
open Go.Proofs.Ytcpkhnciplfmkaa renaming awp_plain → Qz, awp_seq → JA, evS_assign → JB, evS_move → JC, look_cons → JD, evS_call → JE, evC_value → JF, awp_block → JH, awp_skip → JI, awp_ret → JJ, gr_v → JM, len_map → JN, addRows → JO, resAll → JP, aV_ids → JU, freeN → JV, evS_indexAddr → JW, S_getD → JZ, flatA → Ja, flatAs → Jb, flatD → Jc
theorem F_go28 : goFn Try.prog 28 := ⟨_, Try.func28, rfl, rfl⟩
theorem F_go22 : goFn Try.prog 22 := ⟨_, Try.func22, rfl, rfl⟩
theorem F_go23 : goFn Try.prog 23 := ⟨_, Try.func23, rfl, rfl⟩
theorem F_go27 : goFn Try.prog 27 := ⟨_, Try.func27, rfl, rfl⟩
theorem F_go10 : goFn Try.prog 10 := ⟨_, Try.func10, rfl, rfl⟩
theorem F_bld30 : bldT Try.prog 30 = true := by kernel_rfl
theorem F_fld30_0 : fldT Try.prog 30 0 = some (0, 1) := by kernel_rfl
theorem F_fld30_1 : fldT Try.prog 30 1 = some (1, 1) := by kernel_rfl
theorem F_fld30_2 : fldT Try.prog 30 2 = some (2, 1) := by kernel_rfl
theorem F_by30 : byT Try.prog 30 = 24 := by kernel_rfl
set_option maxRecDepth 100000 in
set_option maxHeartbeats 4000000 in
theorem Compact_ (l : List LegV) (hl : l.length ≤ 1000000) : MCalls Try.prog 27 [.m 0, .d (fnD 28)] [⟨30, 3, l.map dueC⟩] [⟨30, 3, compZ l⟩] [] (.ref 0 (comp l).length) := by
 refine mcalls_S (rs := [.tmp 4]) Try.func27 rfl rfl 66 [(0, .ref 1000000000 (l.map dueC).length), (1, .d (fnD 28))] [(1000000000, (⟨True, 30, 3, true, false, 1000000000, (l.map dueC).map (·.map .d)⟩ : ARow))] rfl (by simp) (by rfl) (by rfl) (by rfl) (by rfl) (by rfl) ?_
 change AWp _ _ _ (S _ _ [(1000000000, (⟨True, 30, 3, true, false, 1000000000, aV ((l).map dueC)⟩ : ARow))])
 simp only [JN]
 refine JA fun K0 hK0 => ?_
 refine Qz F_mixed [some 4] rfl ?_
 simp only [zzK, QR, QP, QQ, JB, zz6, QO, ↓Qb]
 refine hK0 _ ?_; try clear hK0 K0
 refine kpA [0, 1] ?_
 refine JA fun K0 hK0 => ?_
 refine JA fun K1 hK1 => ?_
 refine Qz F_mixed [some 8, some 9, some 10] rfl ?_
 simp only [zzK, QR, QP, QQ, JC, JE, zz12, F_sl22, Option.isSome_some, zz21, JM, zz22, zz6, QO, ↓Qb]
 refine hK1 _ ?_; try clear hK1 K1
 refine kpA [0, 1, 10] ?_
 refine cnA ?_ ?_
 ·intro hb
  have hs : comp l = l := comp_short (by have := Qg hb; omega)
  clear hb
  have hfl := dues_flat l
  refine JA fun K2 hK2 => ?_
  refine Qz F_mixed [some 11, some 4] rfl ?_
  simp only [zzK, QR, QP, QQ, JC, JB, zz6, QO, ↓Qb]
  refine hK2 _ ?_; try clear hK2 K2
  refine kpA [4] ?_
  refine JJ ?_
  simp only [zz6, QO, ↓Qb]
  rw [compZ_self hs, hs]
  refine doneM [] (by simp [resCs, resC, S, List.getD, JD, lookR, ]) ?_ (by simp [Ja, Jb, Jc, ]) (by simp [QY, QX, ]) (by decide) (by simp) ?_ ?_
  ·simp only [QD, QE, resA, JZ, S_mem, lookR_cons, lookR_nil, QR, QP, JD, QQ, Qd, Qc, JP, QI, QJ, QH, QL, QK, List.take_zero, ]; rfl
  ·exact trivial
  ·exact ⟨⟨_, rfl, trivial, rfl, rfl, rfl⟩, hfl, trivial⟩
 ·intro hb
  obtain ⟨x, t, hxt⟩ : ∃ x t, l = x :: t := by
   cases l with
   | nil => simp at hb
   | cons x t => exact ⟨x, t, rfl⟩
  clear hb
  refine JI ?_
  simp only [zz6, QO, ↓Qb]
  refine hK0 _ ?_; try clear hK0 K0
  refine kpA [0, 1] ?_
  refine JA fun K0 hK0 => ?_
  refine JA fun K1 hK1 => ?_
  refine Qz F_mixed [some 5] rfl ?_
  simp only [zzK, QR, QP, QQ, JB, zz6, QO, ↓Qb]
  refine hK1 _ ?_; try clear hK1 K1
  refine kpA [0, 1, 5] ?_
  refine JH ?_
  refine awp_loop (fun m s => ∃ (P : List LegV) (p : LegV) (R : List LegV), (CmO l P p R) ∧ m = R.length ∧ s = S 66 [(0, .ref 1000000000 l.length), (1, .d (fnD 28)), (5, .d (iv ((P.length + 1 : Nat) : Int)))] [(1000000000, (⟨True, 30, 3, true, false, 1000000000, aV ((l).map dueC)⟩ : ARow))]) (t.length) _ (le_SK id [] rfl (l' := [(0, .ref 1000000000 l.length), (1, .d (fnD 28)), (5, .d (iv (([].length + 1 : Nat) : Int)))]) (m' := [(1000000000, (⟨True, 30, 3, true, false, 1000000000, aV ((l).map dueC)⟩ : ARow))]) ?_ ?_ ?_ ?_) ⟨[], x, t, by rw [hxt]; exact CmO.start x t, rfl, rfl⟩ ?_
  ·simp only [leV, JD, QQ, Qd, Qc]; exact ⟨(by first | exact Qo rfl | exact Qq (by decide) | exact Qp | exact Qn _ | exact Qs (by simp) (by rfl) | exact Qr (by simp) (by rfl) (by first | rfl | (simp; done) | (simp; omega)) | exact Qt (by first | rfl | simp)), (by first | exact Qo rfl | exact Qq (by decide) | exact Qp | exact Qn _ | exact Qs (by simp) (by rfl) | exact Qr (by simp) (by rfl) (by first | rfl | (simp; done) | (simp; omega)) | exact Qt (by first | rfl | simp)), (Qt rfl), trivial⟩
  ·exact ⟨fun _ => ⟨_, rfl, Qu rfl (JU _)⟩, fun h => by simp at h, trivial⟩
  ·simp [wfV, QY, QX, lookR, grow]
  ·exact ⟨fun e he r' hr' => by rw [JU _ e he] at hr'; simp at hr', trivial⟩
  rintro m s ⟨P, p, R, hC, rfl, rfl⟩
  have hPl := congrArg List.length hC.1
  simp only [QC, QF] at hPl
  refine JA fun K2 hK2 => ?_
  refine JA fun K3 hK3 => ?_
  refine Qz F_mixed [some 12, some 13, some 14, some 15] rfl ?_
  simp only [zzK, QR, QP, QQ, JC, JE, zz12, F_sl22, Option.isSome_some, zz21, JM, zz22, aV_len, aV_get, JN, ge0, QV, Nat.le_refl, zzG, zz6, QO, ↓Qb]
  refine hK3 _ ?_; try clear hK3 K3
  refine kpA [0, 1, 5, 15] ?_
  refine cnA ?_ ?_
  ·intro hb
   obtain ⟨y, R2, rfl⟩ : ∃ y R2, R = y :: R2 := by
    cases R with
    | nil => have := Qg hb; simp at hPl; omega
    | cons y R2 => exact ⟨y, R2, rfl⟩
   clear hb
   simp only [QF] at hPl
   have hl1 := hC.1
   have gp : (l.map dueC).getD P.length [] = [iv p.ac.who, iv p.ac.cur, iv p.amt] := due_at (B := y :: R2) hl1 rfl
   have gy : (l.map dueC).getD (P.length + 1) [] = [iv y.ac.who, iv y.ac.cur, iv y.amt] := due_at (A := P ++ [p]) (B := R2) (by rw [hl1]; simp) (by simp)
   have hwm : Ql .i64 (((P.length + 1 : Nat) : Int) - 1) = ((P.length : Nat) : Int) := by rw [wrapI (by omega) (by omega)]; omega
   have bp := ltI (show P.length < l.length by omega)
   have by_ := ltI (show P.length + 1 < l.length by omega)
   have cp := eq_true (show P.length < l.length by omega)
   have cy := eq_true (show P.length + 1 < l.length by omega)
   have hwk : Ql .i64 (((P.length + 1 : Nat) : Int) + 1) = (((P ++ [p]).length + 1 : Nat) : Int) := by simp only [QC, QM]; rw [wrapI (by omega) (by omega)]; omega
   refine JI ?_
   simp only [zz6, QO, ↓Qb]
   refine hK2 _ ?_; try clear hK2 K2
   refine kpA [0, 1, 5] ?_
   refine JA fun K2 hK2 => ?_
   refine JH ?_
   refine JA fun K3 hK3 => ?_
   refine awp_draw F_mixed [some 18, some 19, some 20, some 21, some 22, some 23, some 24, some 25, some 26, some 27, some 28] rfl (by kernel_rfl) ?_
   simp only [zzK, QR, QP, QQ, JC, JW, zz23, zz24, F_sl22, F_sz30, QA, zzC, yyE, Qe, F_ok30, F_ag30, zz8, zzD, QS, QN, zzH, zz21, JM, zz33, JE, JF, aV_len, aV_get, JN, ge0, QV, Nat.le_refl, zzG, gp, gy, hwm, bp, by_, cp, cy, fnD, dueC, QW, zz6, QO, ↓Qb]
   refine call_goT ?_ ?_ F_go28 (fun hG => dEq_ y p) (by simp [QY, QX]) (by simp) ?_
   ·decide
   ·simp only [JD, QQ, Qd, Qc, bare_d, bare_wh, fnD]
   simp only [zzK, QR, QP, QQ, JC, JW, zz23, zz24, F_sl22, F_sz30, QA, zzC, yyE, Qe, F_ok30, F_ag30, zz8, zzD, QS, QN, zzH, zz21, JM, zz33, JE, JF, aV_len, aV_get, JN, ge0, QV, Nat.le_refl, zzG, gp, gy, hwm, bp, by_, cp, cy, fnD, dueC, QW, zz6, QO, ↓Qb, QU, JZ, zz5, and_imp, imp_and, imp_self, atsL, oksG, JV, QZ, Qa, JO, Qm, QT, QS, zz9, QB, QA, S_mem, yyF, QF, zz2]
   refine hK3 _ ?_; try clear hK3 K3
   refine kpA [0, 1, 5, 28] ?_
   refine cnA ?_ ?_
   ·intro hb
    have hy : dueEq y p = true := hb
    clear hb
    have hI := hC.dup hy
    have hc1 := eq_true (show 0 < l.length by omega)
    have hc2 : (((P.length + 1 : Nat) : Int) ≤ (l.length : Int)) = True := eq_true (by omega)
    refine JA fun K4 hK4 => ?_
    refine Qz F_mixed [some 29, some 30, some 31, some 6] rfl ?_
    simp only [zzK, QR, QP, QQ, JC, evS_slice, slX_sl, slK_some, slV_none, slV_int, okO_none, okO_some, QA, Option.map_none, F_sl22, F_sz30, JB, zz16, yyE, slX_ref, slR_some, bare_sub, ok_sub, Option.isSome_some, hc1, hc2, Int.le_refl, aV_len, aV_get, JN, ge0, QV, Nat.le_refl, zzG, zz6, QO, ↓Qb]
    refine hK4 _ ?_; try clear hK4 K4
    refine kpA [0, 1, 5, 6] ?_
    refine JA fun K4 hK4 => ?_
    refine JA fun K5 hK5 => ?_
    refine Qz F_mixed [some 7] rfl ?_
    simp only [zzK, QR, QP, QQ, JB, zz6, QO, ↓Qb]
    refine hK5 _ ?_; try clear hK5 K5
    refine kpA [0, 1, 5, 6, 7] ?_
    refine JH ?_
    refine awp_loop (fun m s => ∃ (W : List LegV) (J : List LegV) (q : LegV) (B : List LegV) (M : List LegV), (CmI l (P ++ [p]) W J q B M) ∧ m = B.length ∧ s = S 66 [(0, .ref 1000000000 l.length), (1, .d (fnD 28)), (5, .d (iv ((P.length + 1 + W.length : Nat) : Int))), (6, .sub 1000000000 (P.length + 1) (l.length - (P.length + 1))), (7, .d (iv ((W.length + J.length + 1 : Nat) : Int)))] [(1000000000, (⟨True, 30, 3, true, false, 1000000000, aV ((M).map dueC)⟩ : ARow))]) (R2.length) _ (le_SK id [] rfl (l' := [(0, .ref 1000000000 l.length), (1, .d (fnD 28)), (5, .d (iv ((P.length + 1 + [].length : Nat) : Int))), (6, .sub 1000000000 (P.length + 1) (l.length - (P.length + 1))), (7, .d (iv (([].length + [].length + 1 : Nat) : Int)))]) (m' := [(1000000000, (⟨True, 30, 3, true, false, 1000000000, aV ((l).map dueC)⟩ : ARow))]) ?_ ?_ ?_ ?_) ⟨[], [], y, R2, l, hI, rfl, rfl⟩ ?_
    ·simp only [leV, JD, QQ, Qd, Qc]; exact ⟨(by first | exact Qo rfl | exact Qq (by decide) | exact Qp | exact Qn _ | exact Qs (by simp) (by rfl) | exact Qr (by simp) (by rfl) (by first | rfl | (simp; done) | (simp; omega)) | exact Qt (by first | rfl | simp)), (by first | exact Qo rfl | exact Qq (by decide) | exact Qp | exact Qn _ | exact Qs (by simp) (by rfl) | exact Qr (by simp) (by rfl) (by first | rfl | (simp; done) | (simp; omega)) | exact Qt (by first | rfl | simp)), (Qt rfl), (Qn _), (Qt rfl), trivial⟩
    ·exact ⟨fun _ => ⟨_, rfl, Qu rfl (JU _)⟩, fun h => by simp at h, trivial⟩
    ·simp [wfV, QY, QX, lookR, grow]
    ·exact ⟨fun e he r' hr' => by rw [JU _ e he] at hr'; simp at hr', trivial⟩
    rintro m s ⟨W, J, q, B, M, hI2, rfl, rfl⟩
    clear hI
    have hH : (P ++ [p]).length = P.length + 1 := by simp
    have hM1 := hI2.1
    have hML := hI2.2.2
    have hMl := congrArg List.length hM1
    simp only [QC, QF, List.length_nil] at hMl
    refine JA fun K6 hK6 => ?_
    refine JA fun K7 hK7 => ?_
    refine Qz F_mixed [some 32, some 33, some 34, some 35] rfl ?_
    simp only [zzK, QR, QP, QQ, JC, JE, zz12, F_sl22, Option.isSome_some, zz21, JM, zz22, lenK_sub, bare_sub, ok_sub, aV_len, aV_get, JN, ge0, QV, Nat.le_refl, zzG, zz6, QO, ↓Qb]
    refine hK7 _ ?_; try clear hK7 K7
    refine kpA [0, 1, 5, 6, 7, 35] ?_
    refine cnA ?_ ?_
    ·intro hb
     obtain ⟨b, B2, rfl⟩ : ∃ b B2, B = b :: B2 := by
      cases B with
      | nil => have := Qg hb; simp at hMl; omega
      | cons b B2 => exact ⟨b, B2, rfl⟩
     clear hb
     simp only [QF] at hMl
     obtain ⟨z, Z, hz⟩ : ∃ z Z, J ++ q :: b :: B2 = z :: Z := by
      cases J with
      | nil => exact ⟨_, _, rfl⟩
      | cons j J => exact ⟨_, _, rfl⟩
     have gz : (M.map dueC).getD (P.length + 1 + W.length) [] = [iv z.ac.who, iv z.ac.cur, iv z.amt] := due_at (A := P ++ [p] ++ W) (B := Z) (by rw [hM1, hz]; simp) (by simp; omega)
     have gq : (M.map dueC).getD (P.length + 1 + (W.length + J.length)) [] = [iv q.ac.who, iv q.ac.cur, iv q.amt] := due_at (A := P ++ [p] ++ W ++ J) (B := b :: B2) (by rw [hM1]; simp) (by simp; omega)
     have gb : (M.map dueC).getD (P.length + 1 + (W.length + J.length + 1)) [] = [iv b.ac.who, iv b.ac.cur, iv b.amt] := due_at (A := P ++ [p] ++ W ++ J ++ [q]) (B := B2) (by rw [hM1]; simp) (by simp; omega)
     have hwm2 : Ql .i64 (((W.length + J.length + 1 : Nat) : Int) - 1) = ((W.length + J.length : Nat) : Int) := by rw [wrapI (by omega) (by omega)]; omega
     have hwi : Ql .i64 (((W.length + J.length + 1 : Nat) : Int) + 1) = ((W.length + J.length + 1 + 1 : Nat) : Int) := by rw [wrapI (by omega) (by omega)]; omega
     have hwa : Ql .i64 (((P.length + 1 + W.length : Nat) : Int) + 1) = ((P.length + 1 + W.length + 1 : Nat) : Int) := by rw [wrapI (by omega) (by omega)]; omega
     have b1 := ltI (show W.length + J.length + 1 < l.length - (P.length + 1) by omega)
     have b2 := ltI (show W.length + J.length < l.length - (P.length + 1) by omega)
     have b3 := ltI (show P.length + 1 + W.length < l.length by omega)
     have c0 : (P.length + 1 + (l.length - (P.length + 1)) ≤ M.length) = True := eq_true (by omega)
     have c1 := eq_true (show P.length + 1 + (W.length + J.length + 1) < M.length by omega)
     have c2 := eq_true (show P.length + 1 + (W.length + J.length) < M.length by omega)
     have c3 := eq_true (show P.length + 1 + W.length < M.length by omega)
     have c4 : (l.length ≤ M.length) = True := eq_true (by omega)
     refine JI ?_
     simp only [zz6, QO, ↓Qb]
     refine hK6 _ ?_; try clear hK6 K6
     refine kpA [0, 1, 5, 6, 7] ?_
     refine JA fun K6 hK6 => ?_
     refine JH ?_
     refine JA fun K7 hK7 => ?_
     refine awp_draw F_mixed [some 38, some 39, some 40, some 41, some 42, some 43, some 44, some 45, some 46, some 47, some 48, some 49] rfl (by kernel_rfl) ?_
     simp only [zzK, QR, QP, QQ, JC, JW, zz23, zz24, F_sl22, F_sz30, QA, zzC, yyE, Qe, F_ok30, F_ag30, zz8, zzD, QS, QN, zzH, zz21, JM, zz33, JE, JF, zz29, zz30, aV_len, aV_get, JN, ge0, QV, Nat.le_refl, zzG, evIx_sub, bare_sub, ok_sub, gq, gb, hwm2, b1, b2, c0, c1, c2, fnD, dueC, QW, zz6, QO, ↓Qb]
     refine call_goT ?_ ?_ F_go28 (fun hG => dEq_ b q) (by simp [QY, QX]) (by simp) ?_
     ·decide
     ·simp only [JD, QQ, Qd, Qc, bare_d, bare_wh, fnD]
     simp only [zzK, QR, QP, QQ, JC, JW, zz23, zz24, F_sl22, F_sz30, QA, zzC, yyE, Qe, F_ok30, F_ag30, zz8, zzD, QS, QN, zzH, zz21, JM, zz33, JE, JF, zz29, zz30, aV_len, aV_get, JN, ge0, QV, Nat.le_refl, zzG, evIx_sub, bare_sub, ok_sub, gq, gb, hwm2, b1, b2, c0, c1, c2, fnD, dueC, QW, zz6, QO, ↓Qb, QU, JZ, zz5, and_imp, imp_and, imp_self, atsL, oksG, JV, QZ, Qa, JO, Qm, QT, QS, zz9, QB, QA, S_mem, yyF, QF, zz2]
     refine hK7 _ ?_; try clear hK7 K7
     refine kpA [0, 1, 5, 6, 7, 49] ?_
     refine cnA ?_ ?_
     ·intro hb
      have hb2 : dueEq b q = false := by simpa using hb
      clear hb
      refine JA fun K8 hK8 => ?_
      refine Qz F_mixed [some 50, some 51, some 52, some 53, some 54, some 55, some 56, none] rfl ?_
      simp only [zzK, QR, QP, QQ, JC, JW, zz23, zz24, F_sl22, F_sz30, QA, zzC, yyE, Qe, F_ok30, F_ag30, zz8, zzD, QS, QN, zzH, zz18, QG, zz1, zzG, splice, aV_len, aV_get, JN, ge0, QV, Nat.le_refl, QD, evIx_sub, bare_sub, ok_sub, aV_get, gz, gb, b1, b3, c0, c1, c3, c4, zz6, QO, ↓Qb]
      refine hK8 _ ?_; try clear hK8 K8
      refine kpA [0, 1, 5, 6, 7] ?_
      refine Qz F_mixed [some 57, some 58, some 5] rfl ?_
      simp only [zzK, QR, QP, QQ, JC, zz21, JM, zz26, JB, hwa, zz6, QO, ↓Qb]
      refine hK6 _ ?_; try clear hK6 K6
      refine kpA [0, 1, 5, 6, 7] ?_
      refine Qz F_mixed [some 36, some 37, some 7] rfl ?_
      simp only [zzK, QR, QP, QQ, JC, zz21, JM, zz26, JB, hwi, zz6, QO, ↓Qb]
      refine ⟨B2.length, _, by simp, le_SK id [] rfl (l' := [(0, .ref 1000000000 l.length), (1, .d (fnD 28)), (5, .d (iv ((P.length + 1 + (W ++ [b]).length : Nat) : Int))), (6, .sub 1000000000 (P.length + 1) (l.length - (P.length + 1))), (7, .d (iv (((W ++ [b]).length + (J ++ [q]).tail.length + 1 : Nat) : Int)))]) (m' := [(1000000000, (⟨True, 30, 3, true, false, 1000000000, aV (((M.set (P.length + 1 + W.length) b)).map dueC)⟩ : ARow))]) ?_ ?_ ?_ ?_, (W ++ [b]), (J ++ [q]).tail, b, B2, (M.set (P.length + 1 + W.length) b), by have e := hI2.take hb2; rwa [hH] at e, rfl, rfl⟩
      ·simp only [leV, JD, QQ, Qd, Qc, hwa, hwi]; exact ⟨(by first | exact Qo rfl | exact Qq (by decide) | exact Qp | exact Qn _ | exact Qs (by simp) (by rfl) | exact Qr (by simp) (by rfl) (by first | rfl | (simp; done) | (simp; omega)) | exact Qt (by first | rfl | simp)), (by first | exact Qo rfl | exact Qq (by decide) | exact Qp | exact Qn _ | exact Qs (by simp) (by rfl) | exact Qr (by simp) (by rfl) (by first | rfl | (simp; done) | (simp; omega)) | exact Qt (by first | rfl | simp)), (Qt (by simp <;> omega)), (by first | exact Qo rfl | exact Qq (by decide) | exact Qp | exact Qn _ | exact Qs (by simp) (by rfl) | exact Qr (by simp) (by rfl) (by first | rfl | (simp; done) | (simp; omega)) | exact Qt (by first | rfl | simp)), (Qt (by simp <;> omega)), trivial⟩
      ·exact ⟨fun _ => ⟨_, rfl, Qu (aV_dset _ _ _).symm (fun e he => by rw [aV_dset] at he; exact JU _ e he)⟩, fun h => by simp at h, trivial⟩
      ·simp [wfV, QY, QX, lookR, grow]
      ·exact ⟨fun e he r' hr' => by rw [JU _ e he] at hr'; simp at hr', trivial⟩
     ·intro hb
      have hb2 : dueEq b q = true := by simpa using hb
      clear hb
      refine JI ?_
      simp only [zz6, QO, ↓Qb]
      refine hK6 _ ?_; try clear hK6 K6
      refine kpA [0, 1, 5, 6, 7] ?_
      refine Qz F_mixed [some 36, some 37, some 7] rfl ?_
      simp only [zzK, QR, QP, QQ, JC, zz21, JM, zz26, JB, hwi, zz6, QO, ↓Qb]
      refine ⟨B2.length, _, by simp, le_SK id [] rfl (l' := [(0, .ref 1000000000 l.length), (1, .d (fnD 28)), (5, .d (iv ((P.length + 1 + W.length : Nat) : Int))), (6, .sub 1000000000 (P.length + 1) (l.length - (P.length + 1))), (7, .d (iv ((W.length + (J ++ [q]).length + 1 : Nat) : Int)))]) (m' := [(1000000000, (⟨True, 30, 3, true, false, 1000000000, aV ((M).map dueC)⟩ : ARow))]) ?_ ?_ ?_ ?_, W, (J ++ [q]), b, B2, M, hI2.skip hb2, rfl, rfl⟩
      ·simp only [leV, JD, QQ, Qd, Qc, hwi]; exact ⟨(by first | exact Qo rfl | exact Qq (by decide) | exact Qp | exact Qn _ | exact Qs (by simp) (by rfl) | exact Qr (by simp) (by rfl) (by first | rfl | (simp; done) | (simp; omega)) | exact Qt (by first | rfl | simp)), (by first | exact Qo rfl | exact Qq (by decide) | exact Qp | exact Qn _ | exact Qs (by simp) (by rfl) | exact Qr (by simp) (by rfl) (by first | rfl | (simp; done) | (simp; omega)) | exact Qt (by first | rfl | simp)), (by first | exact Qo rfl | exact Qq (by decide) | exact Qp | exact Qn _ | exact Qs (by simp) (by rfl) | exact Qr (by simp) (by rfl) (by first | rfl | (simp; done) | (simp; omega)) | exact Qt (by first | rfl | simp)), (by first | exact Qo rfl | exact Qq (by decide) | exact Qp | exact Qn _ | exact Qs (by simp) (by rfl) | exact Qr (by simp) (by rfl) (by first | rfl | (simp; done) | (simp; omega)) | exact Qt (by first | rfl | simp)), (Qt (by simp <;> omega)), trivial⟩
      ·exact ⟨fun _ => ⟨_, rfl, Qu rfl (JU _)⟩, fun h => by simp at h, trivial⟩
      ·simp [wfV, QY, QX, lookR, grow]
      ·exact ⟨fun e he r' hr' => by rw [JU _ e he] at hr'; simp at hr', trivial⟩
    ·intro hb
     obtain rfl : B = [] := by
      cases B with
      | nil => rfl
      | cons b B2 => have := Qf hb; simp at hMl; omega
     clear hb
     simp only [List.length_nil] at hMl
     obtain ⟨f1, f2, f3⟩ := hI2.fin
     have hclr := clr_comp hI2
     have hHW : (P ++ [p] ++ W).length = P.length + 1 + W.length := by simp; omega
     rw [hHW] at hclr f3
     have hk : (comp l).length = P.length + 1 + W.length := by rw [f1, hHW]
     have hd1 : l.length - (P.length + 1 + W.length) = J.length + 1 := by omega
     have d1 : (((P.length + 1 + W.length : Nat) : Int) ≤ (l.length : Int)) = True := eq_true (by omega)
     have d2 := eq_true (show 0 < l.length by omega)
     have d3 : (l.length ≤ M.length) = True := eq_true (by omega)
     have hfl := compZ_flat l
     have hzl := compZ_len l
     refine awp_exit ?_
     simp only [zz6, QO, ↓Qb]
     refine hK4 _ ?_; try clear hK4 K4
     refine kpA [0, 5] ?_
     refine JA fun K4 hK4 => ?_
     refine awp_clr [some 59, some 60, some 61, none] rfl 3 rfl ?_
     simp only [zzK, QR, QP, QQ, JC, evS_slice, slX_sl, slK_some, slV_none, slV_int, okO_none, okO_some, QA, Option.map_none, F_sl22, F_sz30, JE, aV_len, aV_get, JN, ge0, QV, Nat.le_refl, zzG, zz16, yyE, slX_ref, slR_some, bare_sub, ok_sub, Option.isSome_some, d1, d2, d3, hd1, Int.le_refl, zzB, zz6, QO, ↓Qb]
     refine clr_go (e := 30) (z := [.int .i64 0, .int .i64 0, .int .i64 0]) (r := 1000000000) (k := P.length + 1 + W.length) (q := J.length + 1) F_sl22 F_zero30 (by rw [F_sz30]; rfl) (by rw [F_sz30]; decide) (by simp [Value.oneCell']) rfl trivial rfl trivial rfl F_sz30.symm (by omega) (by rw [aV_len, JN]; omega) ?_
     simp only [hclr]
     refine hK4 _ ?_; try clear hK4 K4
     refine kpA [0, 5] ?_
     refine JA fun K4 hK4 => ?_
     refine Qz F_mixed [some 62, some 63, some 64, some 4] rfl ?_
     simp only [zzK, QR, QP, QQ, JC, evS_slice, slX_sl, slK_some, slV_none, slV_int, okO_none, okO_some, QA, Option.map_none, F_sl22, F_sz30, JB, aV_len, aV_get, JN, ge0, QV, Nat.le_refl, zzG, zz16, yyE, slX_ref, slR_some, bare_sub, ok_sub, Option.isSome_none, d1, d2, hzl, Int.le_refl, zz6, QO, ↓Qb]
     refine hK4 _ ?_; try clear hK4 K4
     refine kpA [4] ?_
     refine JJ ?_
     simp only [zz6, QO, ↓Qb]
     rw [hk]
     refine doneM [] (by simp [resCs, resC, S, List.getD, JD, lookR, ]) ?_ (by simp [Ja, Jb, Jc, ]) (by simp [QY, QX, ]) (by decide) (by simp) ?_ ?_
     ·simp only [QD, QE, resA, JZ, S_mem, lookR_cons, lookR_nil, QR, QP, JD, QQ, Qd, Qc, JP, QI, QJ, QH, QL, QK, List.take_zero, ]; rfl
     ·exact trivial
     ·exact ⟨⟨_, rfl, trivial, rfl, rfl, rfl⟩, hfl, trivial⟩
   ·intro hb
    have hy : dueEq y p = false := hb
    clear hb
    refine JI ?_
    simp only [zz6, QO, ↓Qb]
    refine hK2 _ ?_; try clear hK2 K2
    refine kpA [0, 1, 5] ?_
    refine Qz F_mixed [some 16, some 17, some 5] rfl ?_
    simp only [zzK, QR, QP, QQ, JC, zz21, JM, zz26, JB, hwk, zz6, QO, ↓Qb]
    refine ⟨R2.length, _, by simp, le_SK id [] rfl (l' := [(0, .ref 1000000000 l.length), (1, .d (fnD 28)), (5, .d (iv (((P ++ [p]).length + 1 : Nat) : Int)))]) (m' := [(1000000000, (⟨True, 30, 3, true, false, 1000000000, aV ((l).map dueC)⟩ : ARow))]) ?_ ?_ ?_ ?_, (P ++ [p]), y, R2, hC.next hy, rfl, rfl⟩
    ·simp only [leV, JD, QQ, Qd, Qc, hwk]; exact ⟨(by first | exact Qo rfl | exact Qq (by decide) | exact Qp | exact Qn _ | exact Qs (by simp) (by rfl) | exact Qr (by simp) (by rfl) (by first | rfl | (simp; done) | (simp; omega)) | exact Qt (by first | rfl | simp)), (by first | exact Qo rfl | exact Qq (by decide) | exact Qp | exact Qn _ | exact Qs (by simp) (by rfl) | exact Qr (by simp) (by rfl) (by first | rfl | (simp; done) | (simp; omega)) | exact Qt (by first | rfl | simp)), (by first | exact Qo rfl | exact Qq (by decide) | exact Qp | exact Qn _ | exact Qs (by simp) (by rfl) | exact Qr (by simp) (by rfl) (by first | rfl | (simp; done) | (simp; omega)) | exact Qt (by first | rfl | simp)), trivial⟩
    ·exact ⟨fun _ => ⟨_, rfl, Qu rfl (JU _)⟩, fun h => by simp at h, trivial⟩
    ·simp [wfV, QY, QX, lookR, grow]
    ·exact ⟨fun e he r' hr' => by rw [JU _ e he] at hr'; simp at hr', trivial⟩
  ·intro hb
   obtain rfl : R = [] := by
    cases R with
    | nil => rfl
    | cons y R2 => have := Qf hb; simp at hPl; omega
   clear hb
   have hs := hC.all
   have hfl := dues_flat l
   refine awp_exit ?_
   simp only [zz6, QO, ↓Qb]
   refine hK0 _ ?_; try clear hK0 K0
   refine kpA [0] ?_
   refine JA fun K0 hK0 => ?_
   refine Qz F_mixed [some 65, some 4] rfl ?_
   simp only [zzK, QR, QP, QQ, JC, JB, zz6, QO, ↓Qb]
   refine hK0 _ ?_; try clear hK0 K0
   refine kpA [4] ?_
   refine JJ ?_
   simp only [zz6, QO, ↓Qb]
   rw [compZ_self hs, hs]
   refine doneM [] (by simp [resCs, resC, S, List.getD, JD, lookR, ]) ?_ (by simp [Ja, Jb, Jc, ]) (by simp [QY, QX, ]) (by decide) (by simp) ?_ ?_
   ·simp only [QD, QE, resA, JZ, S_mem, lookR_cons, lookR_nil, QR, QP, JD, QQ, Qd, Qc, JP, QI, QJ, QH, QL, QK, List.take_zero, ]; rfl
   ·exact trivial
   ·exact ⟨⟨_, rfl, trivial, rfl, rfl, rfl⟩, hfl, trivial⟩
theorem dueSC : SC Try.prog 24 [] dueCmpD isDue 3 where
 go := ⟨_, Try.func24, rfl, rfl⟩
 call x y hx hy := by
  obtain ⟨a, rfl⟩ := hx
  obtain ⟨b, rfl⟩ := hy
  exact dCmp_ a b
 len x hx := by obtain ⟨b, rfl⟩ := hx; rfl
 flat x hx := by obtain ⟨b, rfl⟩ := hx; simp [dueC, flatDs, Jc]
 cell x hx := by obtain ⟨b, rfl⟩ := hx; simp [dueC, cell1s, AV.cell1, Value.oneCell']
 swo := dueCmpD_swo
theorem dueSortC (l : List LegV) (hl : l.length ≤ 1000000) : MCalls Try.prog 23 [.m 0, .d (.v (.func (.func 24) #[] #[]))] [⟨30, 3, l.map dueC⟩] [⟨30, 3, (dueSort l).map dueC⟩] [] (.tp []) := by
 have e := mcalls_fn0 (sDue_sort dueSC (l.map dueC) (okM_dues l) (by simpa using hl))
 rw [sort_dues] at e
 exact e

theorem Net_ (l : List LegV) (hk : K2 l) (hl : l.length ≤ 1000000) : ACalls Try.prog 8 [dues l] [⟨30, 3, (netV l).map dueC⟩] (.tp [.ref 0 (netV l).length, .d (iv (netR l))]) := by
 refine acalls_S (rs := [.tmp 2, .tmp 3]) Try.func8 rfl rfl 50 [(0, .d (dues l))] rfl (by simp) rfl ?_
 refine JA fun K0 hK0 => ?_
 refine Qz F_mixed [some 2, some 3] rfl ?_
 simp only [zzK, QR, QP, QQ, JB, zz6, QO, ↓Qb]
 refine hK0 _ ?_; try clear hK0 K0
 refine kpA [0] ?_
 refine JA fun K0 hK0 => ?_
 refine JA fun K1 hK1 => ?_
 refine Qz F_mixed [some 10, some 11, some 12] rfl ?_
 simp only [zzK, QR, QP, QQ, JC, JE, JF, zz29, JM, zz30, dues, zz6, QO, ↓Qb]
 refine call_go F_go21 (fun hG => nRight_ l hl) (by simp [QY, QX]) (by simp) ?_
 simp only [zzK, QR, QP, QQ, JC, JE, JF, zz29, JM, zz30, dues, zz6, QO, ↓Qb, atsL, oksG, JV, QZ, Qa, JO, Qm, QT, QS, zz9, QB, QA, zzC, yyF, zzD, zz2]
 refine hK1 _ ?_; try clear hK1 K1
 refine kpA [0, 12] ?_
 refine cnA ?_ ?_
 ·intro hb
  have hr : rtOk l = false := by simpa using hb
  clear hb
  have hnr : netR l = 3 := by simp only [netR, hr, Qc]
  have hnv : netV l = [] := by simp only [netV, hnr]; rfl
  refine JA fun K2 hK2 => ?_
  refine Qz F_mixed [some 2, some 3] rfl ?_
  simp only [zzK, QR, QP, QQ, JB, zz6, QO, ↓Qb]
  refine hK2 _ ?_; try clear hK2 K2
  refine kpA [2, 3] ?_
  refine awp_le (le_SK id [0] rfl (l' := [(2, .ref 0 0), (3, .d (iv 3))]) (m' := [(0, (⟨True, 30, 3, true, true, 0, []⟩ : ARow))]) ?_ ?_ ?_ ?_) ?_
  ·simp only [leV, JD, QQ, Qd, Qc]; exact ⟨Qq (by decide), Qo rfl, trivial⟩
  ·exact ⟨fun h => by simp at h, fun _ => rfl, trivial⟩
  ·simp [wfV, QY, lookR]
  ·simp [wfR]
  refine JJ ?_
  simp only [zz6, QO, ↓Qb]
  rw [hnv, hnr]
  refine done1 0 (by simp only [resCs, resC]; trivial) ?_ (by simp [Ja, Jb, Jc]) (by simp [QY, QX]) (by rfl) trivial rfl rfl ?_ (by simp [flatDs, Jc])
  ·simp only [QD, QE, resA, JZ, QR, QP, JD, QQ, Qd, Qc, JP]; rfl
  ·rfl
 ·intro hb
  have hr : rtOk l = true := by simpa using hb
  clear hb
  obtain ⟨hn1, hn2⟩ := net_of hk hr
  refine JI ?_
  simp only [zz6, QO, ↓Qb]
  refine hK0 _ ?_; try clear hK0 K0
  refine kpA [0] ?_
  refine JA fun K0 hK0 => ?_
  refine Qz F_mixed [some 13, some 14, some 4] rfl ?_
  simp only [zzK, QR, QP, QQ, JC, JE, JF, JB, dues, JN, zz6, QO, ↓Qb]
  refine call_go F_go22 (fun hG => cloneDue (l.map dueC) (dues_flat l) (by simpa using hl)) (by simp [QY, QX]) (by simp) ?_
  simp only [zzK, QR, QP, QQ, JC, JE, JF, JB, dues, JN, zz6, QO, ↓Qb, atsL, oksG, JV, QZ, Qa, JO, Qm, QT, QS, zz9, QB, QA, zzC, yyF, zzD, zz2]
  refine hK0 _ ?_; try clear hK0 K0
  refine kpA [0, 4] ?_
  refine JA fun K0 hK0 => ?_
  refine awp_mut [some 15, some 16] rfl 1 rfl ?_
  simp only [zzK, QR, QP, QQ, JC, JE, JF, JN, zzB, zz6, QO, ↓Qb]
  refine mut_go [15000] F_go23 (dueSortC l hl) (by simp [QY, QX]) (by decide) (by first | exact ⟨by decide, by simp⟩ | rfl) ?_
  simp only [zzK, QR, QP, QQ, JC, JE, JF, JN, zzB, zz6, QO, ↓Qb, mArgs_nil, asE_cl, asF_cl, asD_ptr, asG_ptr, asD_ep, asG_ep, List.mem_singleton, forall_eq, asEc_cons, asEc_nil, mArgs_d, mArgs_m, mRows_nil, mRows_cons, mNewL, nxM, mBase, mName, oksL, List.getElem?_cons_zero, List.getElem?_cons_succ, zzF, asE_ag, asE_d, asE_ref, asEc_cons, asEc_nil, asF_d, asF_ref, asF_ag, asGs, QY, QX, QM, List.not_mem_nil, false_implies, forall_const, atsL, asD_self, asD_nil, asD_sl, asD_agg, asD_int, asD_bool, asD_func, asD_ag, asD_ref, asG_d, asG_ag, asG_ref, JV, QZ, Qa, JO, Qm, QT, QS, zz9, QB, QA, zzC, yyF, zzD, S_func, Sk_func]
  refine ⟨dues_flat _, ?_⟩
  refine hK0 _ ?_; try clear hK0 K0
  refine kpA [0, 4] ?_
  refine JA fun K0 hK0 => ?_
  refine awp_mut [some 17, some 18, some 4] rfl 1 rfl ?_
  simp only [zzK, QR, QP, QQ, JC, JE, JF, JB, JN, dueSort_len, fnD, zzB, zz6, QO, ↓Qb]
  refine mut_go [15000] F_go27 (Compact_ (dueSort l) (by rw [dueSort_len]; exact hl)) (by simp [QY, QX]) (by decide) (by first | exact ⟨by decide, by simp⟩ | rfl) ?_
  simp only [zzK, QR, QP, QQ, JC, JE, JF, JB, JN, dueSort_len, fnD, zzB, zz6, QO, ↓Qb, mArgs_nil, asE_cl, asF_cl, asD_ptr, asG_ptr, asD_ep, asG_ep, List.mem_singleton, forall_eq, asEc_cons, asEc_nil, mArgs_d, mArgs_m, mRows_nil, mRows_cons, mNewL, nxM, mBase, mName, oksL, List.getElem?_cons_zero, List.getElem?_cons_succ, zzF, asE_ag, asE_d, asE_ref, asEc_cons, asEc_nil, asF_d, asF_ref, asF_ag, asGs, QY, QX, QM, List.not_mem_nil, false_implies, forall_const, atsL, asD_self, asD_nil, asD_sl, asD_agg, asD_int, asD_bool, asD_func, asD_ag, asD_ref, asG_d, asG_ag, asG_ref, JV, QZ, Qa, JO, Qm, QT, QS, zz9, QB, QA, zzC, yyF, zzD, S_func, Sk_func]
  refine ⟨compZ_flat _, ?_⟩
  obtain ⟨C, Z, hCd, hZ⟩ : ∃ C Z, C = comp (dueSort l) ∧ compZ (dueSort l) = C.map dueC ++ Z := ⟨_, _, rfl, rfl⟩
  have hCl : C.length ≤ l.length := by rw [hCd]; exact Nat.le_trans (comp_len _) (Nat.le_of_eq (dueSort_len l))
  rw [← hCd] at hn1 hn2
  rw [← hCd, hZ]
  clear hCd hZ
  refine hK0 _ ?_; try clear hK0 K0
  refine kpA [0, 4] ?_
  refine JA fun K0 hK0 => ?_
  refine Qz F_mixed [some 5] rfl ?_
  simp only [zzK, QR, QP, QQ, JB, zz6, QO, ↓Qb]
  refine hK0 _ ?_; try clear hK0 K0
  refine kpA [0, 4, 5] ?_
  refine JA fun K0 hK0 => ?_
  refine JA fun K1 hK1 => ?_
  refine Qz F_mixed [some 19, some 20, some 21] rfl ?_
  simp only [zzK, QR, QP, QQ, JC, JE, zz12, F_sl22, Option.isSome_some, zz6, QO, ↓Qb]
  refine hK1 _ ?_; try clear hK1 K1
  refine kpA [0, 5, 19, 20, 21] ?_
  refine JH ?_
  refine awp_loop (fun m s => ∃ (pre : List LegV) (post : List LegV), (C = pre ++ post) ∧ (netE l C = netE l post) ∧ m = post.length ∧ s = S 50 [(0, .d (dues l)), (5, .ref 5 (netO l pre).length), (19, .ref 15000 C.length), (20, .d (iv C.length)), (21, .d (iv pre.length))] [(15000, (⟨True, 30, 3, true, true, 15000, aV (C.map dueC ++ Z)⟩ : ARow)), (5, grow 30 3 5 ((netO l pre).map dueC))]) (C.length) _ (le_SK id [5] rfl (l' := [(0, .d (dues l)), (5, .ref 5 (netO l []).length), (19, .ref 15000 C.length), (20, .d (iv C.length)), (21, .d (iv [].length))]) (m' := [(15000, (⟨True, 30, 3, true, true, 15000, aV (C.map dueC ++ Z)⟩ : ARow)), (5, grow 30 3 5 ((netO l []).map dueC))]) ?_ ?_ ?_ ?_) ⟨[], C, rfl, rfl, rfl, rfl⟩ ?_
  ·simp only [leV, JD, QQ, Qd, Qc]; exact ⟨(by first | exact Qo rfl | exact Qq (by decide) | exact Qp | exact Qn _ | exact Qs (by simp) (by rfl) | exact Qr (by simp) (by rfl) (by first | rfl | (simp; done) | (simp; omega)) | exact Qt (by first | rfl | simp)), (by first | exact Qo rfl | exact Qq (by decide) | exact Qp | exact Qn _ | exact Qs (by simp) (by rfl) | exact Qr (by simp) (by rfl) (by first | rfl | (simp; done) | (simp; omega)) | exact Qt (by first | rfl | simp)), (by first | exact Qo rfl | exact Qq (by decide) | exact Qp | exact Qn _ | exact Qs (by simp) (by rfl) | exact Qr (by simp) (by rfl) (by first | rfl | (simp; done) | (simp; omega)) | exact Qt (by first | rfl | simp)), (by first | exact Qo rfl | exact Qq (by decide) | exact Qp | exact Qn _ | exact Qs (by simp) (by rfl) | exact Qr (by simp) (by rfl) (by first | rfl | (simp; done) | (simp; omega)) | exact Qt (by first | rfl | simp)), (by first | exact Qo rfl | exact Qq (by decide) | exact Qp | exact Qn _ | exact Qs (by simp) (by rfl) | exact Qr (by simp) (by rfl) (by first | rfl | (simp; done) | (simp; omega)) | exact Qt (by first | rfl | simp)), trivial⟩
  ·exact ⟨fun _ => ⟨_, rfl, Qu rfl (JU _)⟩, fun h => by simp at h, fun h => by simp at h, fun _ => rfl, trivial⟩
  ·simp [wfV, QY, QX, lookR, grow]
  ·exact ⟨fun e he r' hr' => by rw [JU _ e he] at hr'; simp at hr', wf_data _ _, trivial⟩
  rintro m s ⟨pre, post, hsp, hE, rfl, rfl⟩
  have hspl := congrArg List.length hsp
  simp only [QC] at hspl
  have hol := netO_len l pre
  refine JA fun K2 hK2 => ?_
  refine Qz F_mixed [some 22] rfl ?_
  simp only [zzK, QR, QP, QQ, zz21, JM, zz22, zz6, QO, ↓Qb]
  refine hK2 _ ?_; try clear hK2 K2
  refine kpA [0, 5, 19, 20, 21, 22] ?_
  refine JA fun K2 hK2 => ?_
  refine cnA ?_ ?_
  ·intro hb
   obtain ⟨x, post2, rfl⟩ : ∃ x t, post = x :: t := by
    cases post with
    | nil => have := Qg hb; simp at hspl; omega
    | cons x t => exact ⟨x, t, rfl⟩
   clear hb
   simp only [QF] at hspl
   have gx : (C.map dueC ++ Z).getD pre.length [] = [iv x.ac.who, iv x.ac.cur, iv x.amt] := by
    rw [hsp, List.map_append, List.append_assoc]; exact gd_mid' (A := pre.map dueC) _ (post2.map dueC ++ Z) (by simp)
   have bx := ltI (show pre.length < C.length by omega)
   have hwx : Ql .i64 ((pre.length : Int) + 1) = ((pre ++ [x]).length : Int) := by rw [wrapI (by omega) (by omega)]; simp
   have cx := eq_true (show pre.length < (C.map dueC ++ Z).length by simp; omega)
   have cZ : (C.length ≤ (C.map dueC ++ Z).length) = True := eq_true (by simp)
   refine JI ?_
   simp only [zz6, QO, ↓Qb]
   refine hK2 _ ?_; try clear hK2 K2
   refine kpA [0, 5, 19, 20, 21] ?_
   refine JA fun K2 hK2 => ?_
   refine JH ?_
   refine JA fun K3 hK3 => ?_
   refine Qz F_mixed [some 23, some 24, some 7, none] rfl ?_
   simp only [zzK, QR, QP, QQ, JW, zz23, zz24, F_sl22, F_sz30, QA, zzC, yyE, Qe, F_ok30, F_ag30, zz8, zzD, QS, QN, zzH, zz32, newRow1, F_zero30, zz10, zz18, splice, QG, zz1, zzG, aV_len, aV_get, JN, gx, bx, cx, cZ, ge0, QV, Nat.le_refl, QD, QW, zz6, QO, ↓Qb]
   refine hK3 _ ?_; try clear hK3 K3
   refine kpA [0, 5, 7, 19, 20, 21] ?_
   refine JA fun K3 hK3 => ?_
   refine Qz F_mixed [some 26, some 27, some 28, some 29, some 30, some 31, some 25, some 32, some 33, some 8, some 9] rfl ?_
   simp only [zzK, QR, QP, QQ, zz19, zz23, F_off30_0, zzH, QN, QS, F_ok3, F_ag3, F_sz3, zz8, zzD, zzC, QA, yyE, Qe, F_off30_1, JC, JE, JF, zz14, JB, dues, zz6, QO, ↓Qb]
   refine call_go F_go10 (fun hG => Gross_ x.ac.who x.ac.cur l hl) (by simp [QY, QX]) (by simp) ?_
   simp only [zzK, QR, QP, QQ, zz19, zz23, F_off30_0, zzH, QN, QS, F_ok3, F_ag3, F_sz3, zz8, zzD, zzC, QA, yyE, Qe, F_off30_1, JC, JE, JF, zz14, JB, dues, zz6, QO, ↓Qb, atsL, oksG, JV, QZ, Qa, JO, Qm, QT, QS, zz9, QB, QA, S_mem, yyF, QF, zz2]
   refine hK3 _ ?_; try clear hK3 K3
   refine kpA [0, 5, 7, 8, 9, 19, 20, 21] ?_
   refine JA fun K3 hK3 => ?_
   refine JA fun K4 hK4 => ?_
   refine Qz F_mixed [some 34, some 35] rfl ?_
   simp only [zzK, QR, QP, QQ, JC, zz21, JM, zz28, zz6, QO, ↓Qb]
   refine hK4 _ ?_; try clear hK4 K4
   refine kpA [0, 5, 7, 8, 9, 19, 20, 21, 35] ?_
   refine cnA ?_ ?_
   ·intro hb
    have hg : (grE x.ac.who x.ac.cur l != 0) = true := hb
    clear hb
    have hnr : netR l = grE x.ac.who x.ac.cur l := by rw [← hn1, hE, netE, hg]; rfl
    have hnv : netV l = [] := by simp only [netV, show (netR l == 0) = false by rw [hnr]; simpa using hg]; rfl
    refine JA fun K5 hK5 => ?_
    refine Qz F_mixed [some 36, some 2, some 3] rfl ?_
    simp only [zzK, QR, QP, QQ, JC, JB, zz6, QO, ↓Qb]
    refine hK5 _ ?_; try clear hK5 K5
    refine kpA [2, 3] ?_
    refine awp_le (le_SK id [0] rfl (l' := [(2, .ref 0 0), (3, .d (iv (grE x.ac.who x.ac.cur l)))]) (m' := [(0, (⟨True, 30, 3, true, true, 0, []⟩ : ARow))]) ?_ ?_ ?_ ?_) ?_
    ·simp only [leV, JD, QQ, Qd, Qc]; exact ⟨Qq (by decide), Qo rfl, trivial⟩
    ·exact ⟨fun h => by simp at h, fun _ => rfl, trivial⟩
    ·simp [wfV, QY, lookR]
    ·simp [wfR]
    refine JJ ?_
    simp only [zz6, QO, ↓Qb]
    rw [hnv, hnr]
    refine done1 0 (by simp only [resCs, resC]; trivial) ?_ (by simp [Ja, Jb, Jc]) (by simp [QY, QX]) (by rfl) trivial rfl rfl ?_ (by simp [flatDs, Jc])
    ·simp only [QD, QE, resA, JZ, QR, QP, JD, QQ, Qd, Qc, JP]; rfl
    ·rfl
   ·intro hb
    have hg : (grE x.ac.who x.ac.cur l != 0) = false := hb
    clear hb
    have hE2 : netE l C = netE l post2 := by rw [hE, netE, hg]; rfl
    refine JI ?_
    simp only [zz6, QO, ↓Qb]
    refine hK3 _ ?_; try clear hK3 K3
    refine kpA [0, 5, 7, 8, 19, 20, 21] ?_
    refine JA fun K3 hK3 => ?_
    refine Qz F_mixed [some 37, some 38] rfl ?_
    simp only [zzK, QR, QP, QQ, JC, zz21, JM, zz28, zz6, QO, ↓Qb]
    refine hK3 _ ?_; try clear hK3 K3
    refine kpA [0, 5, 7, 8, 19, 20, 21, 38] ?_
    refine cnA ?_ ?_
    ·intro hb
     have hv : (grV x.ac.who x.ac.cur l != 0) = true := hb
     clear hb
     have hO2 := netO_yes hv pre
     refine Qz F_mixed [some 39, some 40, some 41, some 42, some 43, some 44, some 45, some 46, some 47, some 5] rfl ?_
     simp only [zzK, QR, QP, QQ, JC, zz19, zz23, F_off30_0, zzH, QN, QS, F_ok3, F_ag3, F_sz3, zz8, zzD, zzC, QA, yyE, Qe, F_off30_1, F_zero30, F_bld30, zz7, splice, Option.getD_some, QG, zz1, zzG, zz10, F_fld30_0, F_fld30_1, F_fld30_2, F_sl22, F_sz30, zz3, newRow1, maxLen_le, QT, JE, F_by30, zz4, zz9, QB, JB, grow, unDs_map, QW, zz6, QO, ↓Qb]
     have hm : (netO l pre).length + 1 ≤ 1000000 := by first | omega | (simp; omega)
     first | refine ⟨le_maxLen hm, by omega, ?_⟩ | refine ⟨by simp, le_maxLen hm, by omega, ?_⟩
     clear hm
     refine hK2 _ ?_; try clear hK2 K2
     refine kpA [0, 5, 19, 20, 21] ?_
     refine Qz F_mixed [some 48, some 21] rfl ?_
     simp only [zzK, QR, QP, QQ, zz21, JM, zz26, JC, hwx, zz6, QO, ↓Qb]
     refine ⟨post2.length, _, by simp, le_SK (fun r => bif r == 5 then 47 else r) [] rfl (l' := [(0, .d (dues l)), (5, .ref 5 (netO l (pre ++ [x])).length), (19, .ref 15000 C.length), (20, .d (iv C.length)), (21, .d (iv (pre ++ [x]).length))]) (m' := [(15000, (⟨True, 30, 3, true, true, 15000, aV (C.map dueC ++ Z)⟩ : ARow)), (5, grow 30 3 5 ((netO l (pre ++ [x])).map dueC))]) ?_ ?_ ?_ ?_, (pre ++ [x]), post2, by simp [hsp], hE2, rfl, rfl⟩
     ·simp only [leV, JD, QQ, Qd, Qc, hwx, hO2]; exact ⟨(by first | exact Qo rfl | exact Qq (by decide) | exact Qp | exact Qn _ | exact Qs (by simp) (by rfl) | exact Qr (by simp) (by rfl) (by first | rfl | (simp; done) | (simp; omega)) | exact Qt (by first | rfl | simp)), (by first | exact Qo rfl | exact Qq (by decide) | exact Qp | exact Qn _ | exact Qs (by simp) (by rfl) | exact Qr (by simp) (by rfl) (by first | rfl | (simp; done) | (simp; omega)) | exact Qt (by first | rfl | simp)), (by first | exact Qo rfl | exact Qq (by decide) | exact Qp | exact Qn _ | exact Qs (by simp) (by rfl) | exact Qr (by simp) (by rfl) (by first | rfl | (simp; done) | (simp; omega)) | exact Qt (by first | rfl | simp)), (by first | exact Qo rfl | exact Qq (by decide) | exact Qp | exact Qn _ | exact Qs (by simp) (by rfl) | exact Qr (by simp) (by rfl) (by first | rfl | (simp; done) | (simp; omega)) | exact Qt (by first | rfl | simp)), (by first | exact Qo rfl | exact Qq (by decide) | exact Qp | exact Qn _ | exact Qs (by simp) (by rfl) | exact Qr (by simp) (by rfl) (by first | rfl | (simp; done) | (simp; omega)) | exact Qt (by first | rfl | simp)), trivial⟩
     ·exact ⟨fun _ => ⟨_, rfl, Qu rfl (JU _)⟩, fun h => by simp at h, fun _ => ⟨_, rfl, Qw (by rw [hO2]; simp [dueC])⟩, fun h => by simp at h, trivial⟩
     ·simp [wfV, QY, QX, lookR, grow]
     ·exact ⟨fun e he r' hr' => by rw [JU _ e he] at hr'; simp at hr', wf_data _ _, trivial⟩
    ·intro hb
     have hv : (grV x.ac.who x.ac.cur l != 0) = false := hb
     clear hb
     have hO2 := netO_no hv pre
     refine JI ?_
     simp only [zz6, QO, ↓Qb]
     refine hK2 _ ?_; try clear hK2 K2
     refine kpA [0, 5, 19, 20, 21] ?_
     refine Qz F_mixed [some 48, some 21] rfl ?_
     simp only [zzK, QR, QP, QQ, zz21, JM, zz26, JC, hwx, zz6, QO, ↓Qb]
     refine ⟨post2.length, _, by simp, le_SK id [] rfl (l' := [(0, .d (dues l)), (5, .ref 5 (netO l (pre ++ [x])).length), (19, .ref 15000 C.length), (20, .d (iv C.length)), (21, .d (iv (pre ++ [x]).length))]) (m' := [(15000, (⟨True, 30, 3, true, true, 15000, aV (C.map dueC ++ Z)⟩ : ARow)), (5, grow 30 3 5 ((netO l (pre ++ [x])).map dueC))]) ?_ ?_ ?_ ?_, (pre ++ [x]), post2, by simp [hsp], hE2, rfl, rfl⟩
     ·simp only [leV, JD, QQ, Qd, Qc, hwx, hO2]; exact ⟨(by first | exact Qo rfl | exact Qq (by decide) | exact Qp | exact Qn _ | exact Qs (by simp) (by rfl) | exact Qr (by simp) (by rfl) (by first | rfl | (simp; done) | (simp; omega)) | exact Qt (by first | rfl | simp)), (by first | exact Qo rfl | exact Qq (by decide) | exact Qp | exact Qn _ | exact Qs (by simp) (by rfl) | exact Qr (by simp) (by rfl) (by first | rfl | (simp; done) | (simp; omega)) | exact Qt (by first | rfl | simp)), (by first | exact Qo rfl | exact Qq (by decide) | exact Qp | exact Qn _ | exact Qs (by simp) (by rfl) | exact Qr (by simp) (by rfl) (by first | rfl | (simp; done) | (simp; omega)) | exact Qt (by first | rfl | simp)), (by first | exact Qo rfl | exact Qq (by decide) | exact Qp | exact Qn _ | exact Qs (by simp) (by rfl) | exact Qr (by simp) (by rfl) (by first | rfl | (simp; done) | (simp; omega)) | exact Qt (by first | rfl | simp)), (by first | exact Qo rfl | exact Qq (by decide) | exact Qp | exact Qn _ | exact Qs (by simp) (by rfl) | exact Qr (by simp) (by rfl) (by first | rfl | (simp; done) | (simp; omega)) | exact Qt (by first | rfl | simp)), trivial⟩
     ·exact ⟨fun _ => ⟨_, rfl, Qu rfl (JU _)⟩, fun h => by simp at h, fun _ => ⟨_, rfl, Qw (by rw [hO2])⟩, fun h => by simp at h, trivial⟩
     ·simp [wfV, QY, QX, lookR, grow]
     ·exact ⟨fun e he r' hr' => by rw [JU _ e he] at hr'; simp at hr', wf_data _ _, trivial⟩
  ·intro hb
   obtain rfl : post = [] := by
    cases post with
    | nil => rfl
    | cons x t => have := Qf hb; simp at hspl; omega
   clear hb
   simp only [QG] at hsp
   subst hsp
   have hnr : netR l = 0 := by rw [← hn1, hE]; rfl
   refine awp_exit ?_
   simp only [zz6, QO, ↓Qb]
   refine hK0 _ ?_; try clear hK0 K0
   refine kpA [5] ?_
   refine JA fun K0 hK0 => ?_
   refine Qz F_mixed [some 49, some 2, some 3] rfl ?_
   simp only [zzK, QR, QP, QQ, JC, JB, zz6, QO, ↓Qb]
   refine hK0 _ ?_; try clear hK0 K0
   refine kpA [2, 3] ?_
   refine JJ ?_
   simp only [zz6, QO, ↓Qb]
   rw [← hn2 hnr, hnr]
   refine done1 5 (by simp only [resCs, resC]; trivial) ?_ (by simp [Ja, Jb, Jc, dueC]) (by simp [QY, QX, dueC]) (by rfl) trivial rfl rfl ?_ (by simp [flatDs, Jc, dueC])
   ·simp only [QD, QE, resA, JZ, QR, QP, JD, QQ, Qd, Qc, JP]; rfl
   ·rfl
theorem NetF (l : List LegV) (hk : K2 l) (hl : l.length ≤ 1000000) : ACalls Try.prog 8 [dues l] [] (.tp [.d (dues (netV l)), .d (iv (netR l))]) := (Net_ l hk hl).freezeT (by simp [frzOk, frzOkL])

end Go.Proofs.Ytcpkhnciplfmkaa
