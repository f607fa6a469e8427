import Derived.Test.YtcpkhnciplfmkaaWpI
namespace Go.Proofs.Ytcpkhnciplfmkaa
open Go.RowKit
set_option linter.unusedVariables false
set_option linter.unusedSimpArgs false
open Option renaming map_some → QA, bind_some → QB
open List renaming length_append → QC, map_cons → QD, map_nil → QE, length_cons → QF, drop_zero → QH
open Nat renaming zero_add → QN, reduceEqDiff → QO, reduceLeDiff → QP, reduceBEq → QQ, reduceLT → QR, reduceAdd → QS, reduceMul → QT, reduceSub → QU
open Int renaming toNat_natCast → QV
open AV renaming idsL → QX, ids → QY, ren → QZ, renL → Qa
open _root_ renaming reduceIte → Qb, cond_false → Qc, cond_true → Qd, reduceCtorEq → Qe, imp_self → Qh, imp_and → Qi, and_imp → Qj
open IntKind renaming wrap → Ql
open ORow renaming row → Qm
open VLe renaming refl → Qn, still → Qo, nild_ → Qp, nil_ → Qq, refE → Qr, ptrE → Qs, dE → Qt
open Go.Proofs.Ytcpkhnciplfmkaa renaming awp_plain → Qz, awp_seq → JA, evS_assign → JB, evS_move → JC, look_cons → JD, evS_call → JE, evC_value → JF, awp_skip → JI, awp_ret → JJ, gr_v → JM, len_map → JN, addRows → JO, pickK_l → JQ, pickK_r → JR, call_go → JT, freeN → JV, S_getD → JZ
theorem F_go11 : goFn Try.prog 11 := ⟨_, Try.func11, rfl, rfl⟩
theorem F_go9 : goFn Try.prog 9 := ⟨_, Try.func9, rfl, rfl⟩
set_option maxRecDepth 100000 in
set_option maxHeartbeats 4000000 in
theorem netParts_ (l : List LegV) (n : Int) (hk : K2 l) : ACalls Try.prog 4 [dues l, iv n] [] (bv true) := by
 refine acalls_S (rs := [.tmp 4]) Try.func4 rfl rfl 114 [(0, .d (dues l)), (1, .d (iv n))] rfl (by simp) rfl ?_
 refine JA fun K0 hK0 => ?_
 refine Qz F_mixed [some 4] rfl ?_
 simp only [zzK, QR, QP, QQ, JB, zz6, QO, ↓Qb]
 refine hK0 _ ?_; try clear hK0 K0
 refine kpA [0, 1] ?_
 refine JA fun K0 hK0 => ?_
 refine JA fun K1 hK1 => ?_
 refine Qz F_mixed [some 16, some 17, some 18] rfl ?_
 simp only [zzK, QR, QP, QQ, JC, JE, zz12, F_sl22, Option.isSome_some, zz21, JM, zz25, dues, JN, zz6, QO, ↓Qb]
 refine hK1 _ ?_; try clear hK1 K1
 refine kpA [0, 1, 18] ?_
 refine cnA ?_ ?_
 ·intro hb
  clear hb
  refine JA fun K2 hK2 => ?_
  refine Qz F_mixed [some 4] rfl ?_
  simp only [zzK, QR, QP, QQ, JB, zz6, QO, ↓Qb]
  refine hK2 _ ?_; try clear hK2 K2
  refine kpA [4] ?_
  refine JJ ?_
  simp only [zz6, QO, ↓Qb]
  refine dnA ?_
  simp only [QD, QE, resA, JZ, QR, QP, JD, QQ, Qd, Qc, resAll]
  
 ·intro hb
  have hl : l.length ≤ 300 := by simp at hb; omega
  clear hb
  refine JI ?_
  simp only [zz6, QO, ↓Qb]
  refine hK0 _ ?_; try clear hK0 K0
  refine kpA [0, 1] ?_
  refine JA fun K0 hK0 => ?_
  refine Qz F_mixed [some 20, some 21, some 19, some 22, some 23, some 5, some 6] rfl ?_
  simp only [zzK, QR, QP, QQ, JC, JE, JF, zz14, zzD, QS, QN, zzF, JB, dues, zz6, QO, ↓Qb]
  refine JT F_go8 (fun hG => NetF l hk (by omega)) (by simp [QY, QX]) (by simp) ?_
  simp only [zzK, QR, QP, QQ, JC, JE, JF, zz14, zzD, QS, QN, zzF, JB, dues, zz6, QO, ↓Qb, atsL, oksG, JV, QZ, Qa, JO, Qm, QT, QS, zz9, QB, QA, zzC, yyF, QF, zz2]
  refine hK0 _ ?_; try clear hK0 K0
  refine kpA [0, 1, 5, 6] ?_
  refine JA fun K0 hK0 => ?_
  refine Qz F_mixed [some 7] rfl ?_
  simp only [zzK, QR, QP, QQ, JB, zz6, QO, ↓Qb]
  refine hK0 _ ?_; try clear hK0 K0
  refine kpA [0, 1, 5, 6, 7] ?_
  refine JA fun K0 hK0 => ?_
  refine JA fun K1 hK1 => ?_
  have hwl : Ql .i64 ((l.length : Int) - 1) = (l.length : Int) - 1 := wrapI (by omega) (by omega)
  refine Qz F_mixed [some 24, some 25, some 26, some 8] rfl ?_
  simp only [zzK, QR, QP, QQ, JC, JE, zz12, F_sl22, Option.isSome_some, zz21, JM, zz33, JB, dues, JN, hwl, zz6, QO, ↓Qb]
  refine hK1 _ ?_; try clear hK1 K1
  refine kpA [0, 1, 5, 6, 7, 8] ?_
  refine awp_block ?_
  refine awp_loop (fun m s => ∃ (pre : List LegV) (post : List LegV), (l = pre ++ post) ∧ m = pre.length ∧ s = S 114 [(0, .d (dues l)), (1, .d (iv n)), (5, .d (dues (netV l))), (6, .d (iv (netR l))), (7, .ref 7 (post.reverse).length), (8, .d (iv (((pre.length : Nat) : Int) - 1)))] [(7, grow 30 3 7 ((post.reverse).map dueC))]) (l.length) _ (le_SK id [7] rfl (l' := [(0, .d (dues l)), (1, .d (iv n)), (5, .d (dues (netV l))), (6, .d (iv (netR l))), (7, .ref 7 ([].reverse).length), (8, .d (iv (((l.length : Nat) : Int) - 1)))]) (m' := [(7, grow 30 3 7 (([].reverse).map dueC))]) ?_ ?_ ?_ ?_) ⟨l, [], by simp, rfl, rfl⟩ ?_
  ·simp only [leV, JD, QQ, Qd, Qc]; exact ⟨(by first | exact Qo rfl | exact Qq (by decide) | exact Qp | exact Qn _ | exact Qs (by simp) (by rfl) | exact Qr (by simp) (by rfl) (by first | rfl | (simp; done) | (simp; omega)) | exact Qt (by first | rfl | simp)), (by first | exact Qo rfl | exact Qq (by decide) | exact Qp | exact Qn _ | exact Qs (by simp) (by rfl) | exact Qr (by simp) (by rfl) (by first | rfl | (simp; done) | (simp; omega)) | exact Qt (by first | rfl | simp)), (by first | exact Qo rfl | exact Qq (by decide) | exact Qp | exact Qn _ | exact Qs (by simp) (by rfl) | exact Qr (by simp) (by rfl) (by first | rfl | (simp; done) | (simp; omega)) | exact Qt (by first | rfl | simp)), (by first | exact Qo rfl | exact Qq (by decide) | exact Qp | exact Qn _ | exact Qs (by simp) (by rfl) | exact Qr (by simp) (by rfl) (by first | rfl | (simp; done) | (simp; omega)) | exact Qt (by first | rfl | simp)), (by first | exact Qo rfl | exact Qq (by decide) | exact Qp | exact Qn _ | exact Qs (by simp) (by rfl) | exact Qr (by simp) (by rfl) (by first | rfl | (simp; done) | (simp; omega)) | exact Qt (by first | rfl | simp)), (Qt rfl), trivial⟩
  ·exact ⟨fun h => by simp at h, fun _ => rfl, trivial⟩
  ·simp [wfV, QY, QX, lookR, grow]
  ·exact ⟨wf_data _ _, trivial⟩
  rintro m s ⟨pre, post, hsp, rfl, rfl⟩
  have hspl := congrArg List.length hsp
  simp only [QC] at hspl
  refine JA fun K2 hK2 => ?_
  refine JA fun K3 hK3 => ?_
  refine Qz F_mixed [some 27, some 28] rfl ?_
  simp only [zzK, QR, QP, QQ, JC, zz21, JM, zz31, zz6, QO, ↓Qb]
  refine hK3 _ ?_; try clear hK3 K3
  refine kpA [0, 1, 5, 6, 7, 8, 28] ?_
  refine cnA ?_ ?_
  ·intro hb
   obtain ⟨pre2, x, rfl⟩ : ∃ p x, pre = p ++ [x] := by
    rcases List.eq_nil_or_concat pre with rfl | ⟨p, x, rfl⟩
    ·have := of_decide_eq_true hb; simp at this
    ·exact ⟨p, x, by simp⟩
   clear hb
   simp only [QC, List.length_singleton] at hspl
   have hpl : (pre2 ++ [x]).length = pre2.length + 1 := by simp
   have gx : (l.map dueC).getD pre2.length [] = [iv x.ac.who, iv x.ac.cur, iv x.amt] := due_at (B := post) (by rw [hsp]; simp) rfl
   have bx := ltI (show pre2.length < l.length by omega)
   have hix : (((pre2.length + 1 : Nat) : Int) - 1) = ((pre2.length : Nat) : Int) := by omega
   have hwx : Ql .i64 ((pre2.length : Int) - 1) = (pre2.length : Int) - 1 := wrapI (by omega) (by omega)
   simp only [hpl, hix]
   refine JI ?_
   simp only [zz6, QO, ↓Qb]
   refine hK2 _ ?_; try clear hK2 K2
   refine kpA [0, 1, 5, 6, 7, 8] ?_
   refine JA fun K2 hK2 => ?_
   refine awp_block ?_
   refine Qz F_mixed [some 31, some 32, some 33, some 34, some 35, some 36, some 37, some 7] rfl ?_
   simp only [zzK, QR, QP, QQ, JC, evS_indexAddr, zz23, zz24, F_sl22, F_sz30, QA, zzC, yyE, Qe, F_ok30, F_ag30, zz8, zzD, QS, QN, zzH, F_zero30, zz3, newRow1, zz1, zzG, maxLen_le, QT, JE, F_by30, zz4, zz9, QB, JB, dues, hpl, hix, gx, bx, JN, ge0, QV, grow, unDs_map, D.agg.injEq, dueC, zz6, QO, ↓Qb]
   have hm : post.reverse.length + 1 ≤ 1000000 := by rw [List.length_reverse]; omega
   first | refine ⟨le_maxLen hm, by omega, ?_⟩ | refine ⟨by simp, le_maxLen hm, by omega, ?_⟩
   clear hm
   refine hK2 _ ?_; try clear hK2 K2
   refine kpA [0, 1, 5, 6, 7, 8] ?_
   refine Qz F_mixed [some 29, some 30, some 8] rfl ?_
   simp only [zzK, QR, QP, QQ, JC, zz21, JM, zz33, JB, hwx, hix, hpl, zz6, QO, ↓Qb]
   refine ⟨pre2.length, _, by simp, le_SK (fun r => bif r == 7 then 37 else r) [] rfl (l' := [(0, .d (dues l)), (1, .d (iv n)), (5, .d (dues (netV l))), (6, .d (iv (netR l))), (7, .ref 7 ((x :: post).reverse).length), (8, .d (iv (((pre2.length : Nat) : Int) - 1)))]) (m' := [(7, grow 30 3 7 (((x :: post).reverse).map dueC))]) ?_ ?_ ?_ ?_, pre2, (x :: post), by simp [hsp], rfl, rfl⟩
   ·simp only [leV, JD, QQ, Qd, Qc, hwx]; exact ⟨(by first | exact Qo rfl | exact Qq (by decide) | exact Qp | exact Qn _ | exact Qs (by simp) (by rfl) | exact Qr (by simp) (by rfl) (by first | rfl | (simp; done) | (simp; omega)) | exact Qt (by first | rfl | simp)), (by first | exact Qo rfl | exact Qq (by decide) | exact Qp | exact Qn _ | exact Qs (by simp) (by rfl) | exact Qr (by simp) (by rfl) (by first | rfl | (simp; done) | (simp; omega)) | exact Qt (by first | rfl | simp)), (by first | exact Qo rfl | exact Qq (by decide) | exact Qp | exact Qn _ | exact Qs (by simp) (by rfl) | exact Qr (by simp) (by rfl) (by first | rfl | (simp; done) | (simp; omega)) | exact Qt (by first | rfl | simp)), (by first | exact Qo rfl | exact Qq (by decide) | exact Qp | exact Qn _ | exact Qs (by simp) (by rfl) | exact Qr (by simp) (by rfl) (by first | rfl | (simp; done) | (simp; omega)) | exact Qt (by first | rfl | simp)), (Qr (by simp) (by rfl) (by simp)), (Qt (by simp)), trivial⟩
   ·exact ⟨fun _ => ⟨_, rfl, RowLe.data_ (by simp [dueC])⟩, fun h => by simp at h, trivial⟩
   ·simp [wfV, QY, QX, lookR, grow]
   ·exact ⟨wf_data _ _, trivial⟩
  ·intro hb
   obtain rfl : pre = [] := by
    cases pre with
    | nil => rfl
    | cons x p => have := of_decide_eq_false hb; simp at this <;> omega
   clear hb
   simp only [List.nil_append] at hsp
   subst hsp
   obtain ⟨hr1, hr2⟩ := net_rev l
   refine awp_exit ?_
   simp only [zz6, QO, ↓Qb]
   refine hK0 _ ?_; try clear hK0 K0
   refine kpA [0, 1, 5, 6, 7] ?_
   refine JA fun K0 hK0 => ?_
   refine Qz F_mixed [some 39, some 40, some 38, some 41, some 42, some 9, some 10] rfl ?_
   simp only [zzK, QR, QP, QQ, JC, JE, JF, zz14, zzD, QS, QN, zzF, JB, dues, grow, D.sl.injEq, JN, hr1, hr2, zz6, QO, ↓Qb]
   refine JT F_go8 (fun hG => NetF l.reverse hk.rev (by simp; omega)) (by simp [QY, QX]) (by simp) ?_
   simp only [zzK, QR, QP, QQ, JC, JE, JF, zz14, zzD, QS, QN, zzF, JB, dues, grow, JN, hr1, hr2, zz6, QO, ↓Qb, atsL, oksG, JV, QZ, Qa, JO, Qm, QT, QS, zz9, QB, QA, zzC, yyF, QF, zz2]
   first | refine ⟨by simp, ?_⟩ | skip
   refine hK0 _ ?_; try clear hK0 K0
   refine kpA [0, 1, 5, 6, 9, 10] ?_
   refine JA fun K0 hK0 => ?_
   refine JA fun K1 hK1 => ?_
   refine Qz F_mixed [some 43, some 44, some 45, some 46, some 47, some 48, some 49, some 50, some 51] rfl ?_
   simp only [zzK, QR, QP, QQ, QU, JZ, zz5, Qj, Qi, Qh, and_self, JC, zz21, JM, zz28, JE, JF, zz29, zz30, zz13, JQ, JR, dues, bne_self_eq_false, zz6, QO, ↓Qb]
   refine JT F_go11 (fun hG => nkDues_ (netV l) (by have := net_len l; omega)) (by simp [QY, QX]) (by simp) ?_
   simp only [zzK, QR, QP, QQ, QU, JZ, zz5, Qj, Qi, Qh, and_self, JC, zz21, JM, zz28, JE, JF, zz29, zz30, zz13, JQ, JR, dues, bne_self_eq_false, zz6, QO, ↓Qb, atsL, oksG, JV, QZ, Qa, JO, Qm, QT, QS, zz9, QB, QA, zzC, yyF, zzD, zz2]
   refine hK1 _ ?_; try clear hK1 K1
   refine kpA [0, 1, 5, 6, 51] ?_
   refine cnA ?_ ?_
   ·intro hb
    simp at hb
   ·intro hb
    clear hb
    refine JI ?_
    simp only [zz6, QO, ↓Qb]
    refine hK0 _ ?_; try clear hK0 K0
    refine kpA [0, 1, 5, 6] ?_
    refine JA fun K0 hK0 => ?_
    refine JA fun K1 hK1 => ?_
    refine Qz F_mixed [some 52, some 53] rfl ?_
    simp only [zzK, QR, QP, QQ, JC, zz21, JM, zz28, zz6, QO, ↓Qb]
    refine hK1 _ ?_; try clear hK1 K1
    refine kpA [0, 1, 5, 53] ?_
    refine cnA ?_ ?_
    ·intro hb
     clear hb
     refine JA fun K2 hK2 => ?_
     refine Qz F_mixed [some 54, some 4] rfl ?_
     simp only [zzK, QR, QP, QQ, JE, JF, JB, zz6, QO, ↓Qb]
     refine JT F_go9 (fun hG => wakes17_) (by simp [QY, QX]) (by simp) ?_
     simp only [zzK, QR, QP, QQ, JE, JF, JB, zz6, QO, ↓Qb, atsL, oksG, JV, QZ, Qa, JO, Qm, QT, QS, zz9, QB, QA, zzC, yyF, zzD, zz2]
     refine hK2 _ ?_; try clear hK2 K2
     refine kpA [4] ?_
     refine JJ ?_
     simp only [zz6, QO, ↓Qb]
     refine dnA ?_
     simp only [QD, QE, resA, JZ, QR, QP, JD, QQ, Qd, Qc, resAll]
     
    ·intro hb
     have hn : netR l = 0 := by simpa using hb
     clear hb
     obtain ⟨ha1, ha2⟩ := net_again hn
     have hnl := net_len l
     have hkn := nK hk
     refine JI ?_
     simp only [zz6, QO, ↓Qb]
     refine hK0 _ ?_; try clear hK0 K0
     refine kpA [0, 1, 5] ?_
     refine JA fun K0 hK0 => ?_
     refine Qz F_mixed [some 56, some 57, some 55, some 58, some 59, some 11, some 6] rfl ?_
     simp only [zzK, QR, QP, QQ, JC, JE, JF, zz14, zzD, QS, QN, zzF, JB, dues, ha1, ha2, zz6, QO, ↓Qb]
     refine JT F_go8 (fun hG => NetF (netV l) hkn (by omega)) (by simp [QY, QX]) (by simp) ?_
     simp only [zzK, QR, QP, QQ, JC, JE, JF, zz14, zzD, QS, QN, zzF, JB, dues, ha1, ha2, zz6, QO, ↓Qb, atsL, oksG, JV, QZ, Qa, JO, Qm, QT, QS, zz9, QB, QA, zzC, yyF, QF, zz2]
     refine hK0 _ ?_; try clear hK0 K0
     refine kpA [0, 1, 5, 6, 11] ?_
     refine JA fun K0 hK0 => ?_
     refine JA fun K1 hK1 => ?_
     refine Qz F_mixed [some 60, some 61, some 62, some 63, some 64, some 65, some 66, some 67] rfl ?_
     simp only [zzK, QR, QP, QQ, QU, JZ, zz5, Qj, Qi, Qh, and_self, JC, zz21, JM, zz28, JE, JF, zz29, zz30, zz13, JQ, JR, dues, bne_self_eq_false, zz6, QO, ↓Qb]
     refine JT F_go11 (fun hG => nkDues_ (netV l) (by omega)) (by simp [QY, QX]) (by simp) ?_
     simp only [zzK, QR, QP, QQ, QU, JZ, zz5, Qj, Qi, Qh, and_self, JC, zz21, JM, zz28, JE, JF, zz29, zz30, zz13, JQ, JR, dues, bne_self_eq_false, zz6, QO, ↓Qb, atsL, oksG, JV, QZ, Qa, JO, Qm, QT, QS, zz9, QB, QA, zzC, yyF, zzD, zz2]
     refine hK1 _ ?_; try clear hK1 K1
     refine kpA [0, 1, 5, 67] ?_
     refine cnA ?_ ?_
     ·intro hb
      simp at hb
     ·intro hb
      clear hb
      have hlw1 : Ql .i64 ((l.length : Int) + 1) = ((l.length + 1 : Nat) : Int) := wrapI (by omega) (by omega)
      have hlw : Ql .u64 ((l.length + 1 : Nat) : Int) = ((l.length + 1 : Nat) : Int) := wrapU (by omega) (by omega)
      have hnz : (((l.length + 1 : Nat) : Int) = 0) = False := eq_false (by omega)
      obtain ⟨K, hK, hKl⟩ := modK' (a := n) (n := l.length + 1) (by omega) (by omega)
      have kb := eq_true (show (K : Int) ≤ (l.length : Int) by omega)
      have tk1 : (l.map dueC).take K = (l.take K).map dueC := List.map_take.symm
      have tk2 : (l.map dueC).take l.length = l.map dueC := List.take_of_length_le (by simp)
      have tk3 : (l.map dueC).drop K = (l.drop K).map dueC := List.map_drop.symm
      have hla := net_len (l.take K)
      have hlb := net_len (l.drop K)
      have hl1 : (l.take K).length ≤ l.length := by simp; omega
      have hl2 : (l.drop K).length ≤ l.length := by simp
      refine JI ?_
      simp only [zz6, QO, ↓Qb]
      refine hK0 _ ?_; try clear hK0 K0
      refine kpA [0, 1, 5] ?_
      refine JA fun K0 hK0 => ?_
      refine Qz F_mixed [some 68, some 69, some 70, some 71, some 72, some 73, some 74, some 75, some 12] rfl ?_
      simp only [zzK, QR, QP, QQ, JC, zz27, JM, F_cv3_33, F_cvV33, JE, zz12, F_sl22, Option.isSome_some, zz21, zz26, b_rem, pure_rem, ne_eq, Int.reduceEq, not_false_eq_true, F_cv33_3, F_cvV3, JB, dues, JN, hlw1, hlw, hnz, not_false_iff, hK, zz6, QO, ↓Qb]
      refine hK0 _ ?_; try clear hK0 K0
      refine kpA [0, 5, 12] ?_
      refine JA fun K0 hK0 => ?_
      refine Qz F_mixed [some 77, some 78, some 79, some 80, some 76, some 81, some 82, some 13, some 6] rfl ?_
      simp only [zzK, QR, QP, QQ, JC, evS_slice, slX_sl, slK_some, slV_none, slV_int, okO_none, okO_some, QA, Option.map_none, F_sl22, F_sz30, JE, JF, zz14, zzD, QS, QN, zzF, JB, dues, JN, kb, ge0, QV, QH, Int.toNat_zero, Int.le_refl, tk1, zz6, QO, ↓Qb]
      refine JT F_go8 (fun hG => Net_ (l.take K) (hk.take K) (by omega)) (by simp [QY, QX]) (by simp) ?_
      simp only [zzK, QR, QP, QQ, JC, evS_slice, slX_sl, slK_some, slV_none, slV_int, okO_none, okO_some, QA, Option.map_none, F_sl22, F_sz30, JE, JF, zz14, zzD, QS, QN, zzF, JB, dues, JN, kb, ge0, QV, QH, Int.toNat_zero, Int.le_refl, tk1, zz6, QO, ↓Qb, atsL, oksG, JV, QZ, Qa, JO, Qm, QT, QS, zz9, QB, QA, zzC, yyF, QF, zz2]
      refine hK0 _ ?_; try clear hK0 K0
      refine kpA [0, 5, 6, 12, 13] ?_
      refine JA fun K0 hK0 => ?_
      refine Qz F_mixed [some 84, some 85, some 86, some 87, some 83, some 88, some 89, some 14, some 10] rfl ?_
      simp only [zzK, QR, QP, QQ, JC, evS_slice, slX_sl, slK_some, slV_none, slV_int, okO_none, okO_some, QA, Option.map_none, F_sl22, F_sz30, JE, JF, zz14, zzD, QS, QN, zzF, JB, dues, JN, kb, ge0, QV, Int.le_refl, tk2, tk3, zz6, QO, ↓Qb]
      refine JT F_go8 (fun hG => NetF (l.drop K) (hk.drop K) (by omega)) (by simp [QY, QX]) (by simp) ?_
      simp only [zzK, QR, QP, QQ, JC, evS_slice, slX_sl, slK_some, slV_none, slV_int, okO_none, okO_some, QA, Option.map_none, F_sl22, F_sz30, JE, JF, zz14, zzD, QS, QN, zzF, JB, dues, JN, kb, ge0, QV, Int.le_refl, tk2, tk3, zz6, QO, ↓Qb, atsL, oksG, JV, QZ, Qa, JO, Qm, QT, QS, zz9, QB, QA, zzC, yyF, QF, zz2]
      refine hK0 _ ?_; try clear hK0 K0
      refine kpA [5, 6, 10, 13, 14] ?_
      refine JA fun K0 hK0 => ?_
      refine JA fun K1 hK1 => ?_
      refine Qz F_mixed [some 90, some 91, some 92, some 93, some 94, some 95] rfl ?_
      simp only [zzK, QR, QP, QQ, QU, JZ, zz5, Qj, Qi, Qh, and_self, JC, zz21, JM, zz28, zz13, JQ, JR, zz6, QO, ↓Qb]
      refine hK1 _ ?_; try clear hK1 K1
      refine kpA [5, 13, 14, 95] ?_
      refine cnA ?_ ?_
      ·intro hb
       clear hb
       refine JA fun K2 hK2 => ?_
       refine Qz F_mixed [some 96, some 4] rfl ?_
       simp only [zzK, QR, QP, QQ, JE, JF, JB, zz6, QO, ↓Qb]
       refine JT F_go9 (fun hG => wakes17_) (by simp [QY, QX]) (by simp) ?_
       simp only [zzK, QR, QP, QQ, JE, JF, JB, zz6, QO, ↓Qb, atsL, oksG, JV, QZ, Qa, JO, Qm, QT, QS, zz9, QB, QA, zzC, yyF, zzD, zz2]
       refine hK2 _ ?_; try clear hK2 K2
       refine kpA [4] ?_
       refine JJ ?_
       simp only [zz6, QO, ↓Qb]
       refine dnA ?_
       simp only [QD, QE, resA, JZ, QR, QP, JD, QQ, Qd, Qc, resAll]
       
      ·intro hb
       have hA : netR (l.take K) = 0 ∧ netR (l.drop K) = 0 := by simpa using hb
       clear hb
       obtain ⟨hm1, hm2⟩ := net_many hA.1 hA.2
       rw [List.take_append_drop] at hm1 hm2
       rw [hn] at hm1
       refine JI ?_
       simp only [zz6, QO, ↓Qb]
       refine hK0 _ ?_; try clear hK0 K0
       refine kpA [5, 13, 14] ?_
       refine JA fun K0 hK0 => ?_
       refine Qz F_mixed [some 98, some 99, some 100, some 101, some 97, some 102, some 103, some 15, some 6] rfl ?_
       simp only [zzK, QR, QP, QQ, JC, JE, F_sl22, F_zero30, F_sz30, F_by30, zz4, maxLen_le, QT, newRow1, zz9, QB, QA, zzC, yyE, Qe, zzD, QS, QN, zzH, JF, zz14, JB, dues, JN, unDs_map, grow, hm1, hm2, zz6, QO, ↓Qb]
       have hm3 : (netV (l.take K)).length + (netV (l.drop K)).length ≤ 1000000 := by omega
       refine ⟨le_maxLen hm3, by omega, ?_⟩
       simp only [← List.map_append]
       refine JT F_go8 (fun hG => NetF (netV (l.take K) ++ netV (l.drop K)) ((nK (hk.take K)).app (nK (hk.drop K))) (by simp; omega)) (by simp [QY, QX]) (by simp) ?_
       simp only [zzK, QR, QP, QQ, JC, JE, F_sl22, F_zero30, F_sz30, F_by30, zz4, maxLen_le, QT, newRow1, zz9, QB, QA, zzC, yyE, Qe, zzD, QS, QN, zzH, JF, zz14, JB, dues, JN, unDs_map, grow, hm1, hm2, zz6, QO, ↓Qb, atsL, oksG, JV, QZ, Qa, JO, Qm, QT, QS, unDs_cons, QB, QA, S_mem, yyF, QF, zz2]
       first | refine ⟨by simp, ?_⟩ | skip
       refine hK0 _ ?_; try clear hK0 K0
       refine kpA [5, 6, 15] ?_
       refine JA fun K0 hK0 => ?_
       refine Qz F_mixed [some 104, some 105, some 106, some 107, some 108, some 109, some 110, some 111, some 112, some 113, some 4] rfl ?_
       simp only [zzK, QR, QP, QQ, QU, JZ, zz5, Qj, Qi, Qh, and_self, JC, zz21, JM, zz34, JE, JF, zz13, JQ, JR, JB, dues, Gp_some, beq_self_eq_true, Bool.and_true, zz6, QO, ↓Qb]
       refine JT F_go11 (fun hG => nkDues_ (netV l) (by omega)) (by simp [QY, QX]) (by simp) ?_
       simp only [zzK, QR, QP, QQ, QU, JZ, zz5, Qj, Qi, Qh, and_self, JC, zz21, JM, zz34, JE, JF, zz13, JQ, JR, JB, dues, Gp_some, beq_self_eq_true, Bool.and_true, zz6, QO, ↓Qb, atsL, oksG, JV, QZ, Qa, JO, Qm, QT, QS, zz9, QB, QA, zzC, yyF, zzD, zz2]
       refine JT F_go9 (fun hG => wakes17_) (by simp [QY, QX]) (by simp) ?_
       simp only [zzK, QR, QP, QQ, QU, JZ, zz5, Qj, Qi, Qh, and_self, JC, zz21, JM, zz34, JE, JF, zz13, JQ, JR, JB, dues, Gp_some, beq_self_eq_true, Bool.and_true, zz6, QO, ↓Qb, atsL, oksG, JV, QZ, Qa, JO, Qm, QT, QS, zz9, QB, QA, zzC, yyF, zzD, zz2]
       refine hK0 _ ?_; try clear hK0 K0
       refine kpA [4] ?_
       refine JJ ?_
       simp only [zz6, QO, ↓Qb]
       refine dnA ?_
       simp only [QD, QE, resA, JZ, QR, QP, JD, QQ, Qd, Qc, resAll]
       try simp
theorem netParts2_ (l : List DueV) (n : Int) : ACalls Try.prog 4 [.sl 3 (l.map dueC2), iv n] [] (bv true) := by
 have e := netParts_ (l.map dueL) n (dueL_k l)
 rwa [dueL_d] at e

end Go.Proofs.Ytcpkhnciplfmkaa
