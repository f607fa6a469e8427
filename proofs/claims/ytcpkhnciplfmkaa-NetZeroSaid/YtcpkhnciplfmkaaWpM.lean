import Derived.Test.YtcpkhnciplfmkaaWpI
namespace Go.Proofs.Ytcpkhnciplfmkaa
open Go.RowKit
set_option linter.unusedVariables false
set_option linter.unusedSimpArgs false
open Option renaming map_some → QA, bind_some → QB
open List renaming length_append → QC, map_cons → QD, map_nil → QE, length_cons → QF, append_nil → QG
open Nat renaming zero_add → QN, reduceEqDiff → QO, reduceLeDiff → QP, reduceBEq → QQ, reduceLT → QR, reduceAdd → QS, reduceMul → QT, reduceSub → QU
open Int renaming toNat_natCast → QV
open D.agg renaming injEq → QW
open AV renaming idsL → QX, ids → QY, ren → QZ, renL → Qa
open _root_ renaming reduceIte → Qb, cond_false → Qc, cond_true → Qd, reduceCtorEq → Qe, of_decide_eq_false → Qf, of_decide_eq_true → Qg
open IntKind renaming wrap → Ql
open ORow renaming row → Qm
open VLe renaming refl → Qn, still → Qo, nild_ → Qp, nil_ → Qq, refE → Qr, ptrE → Qs, dE → Qt
open RowLe renaming data_ → Qw
open Go.Proofs.Ytcpkhnciplfmkaa renaming awp_plain → Qz, awp_seq → JA, evS_assign → JB, evS_move → JC, look_cons → JD, evS_call → JE, evC_value → JF, awp_block → JH, awp_skip → JI, gr_v → JM, len_map → JN, addRows → JO, call_go → JT, evS_indexAddr → JW, S_getD → JZ
theorem F_go9 : goFn Try.prog 9 := ⟨_, Try.func9, rfl, rfl⟩
theorem F_go12 : goFn Try.prog 12 := ⟨_, Try.func12, rfl, rfl⟩
set_option maxRecDepth 100000 in
set_option maxHeartbeats 4000000 in
theorem netZero_ (l : List LegV) (c : Int) (hk : K2 l) : ACalls Try.prog 5 [dues l, iv c] [] (bv true) := by
 refine acalls_S (rs := [.tmp 4]) Try.func5 rfl rfl 112 [(0, .d (dues l)), (1, .d (iv c))] rfl (by simp) rfl ?_
 refine JA fun K0 hK0 => ?_
 refine Qz F_mixed [some 4] rfl ?_
 simp only [zzK, QR, QP, QQ, JB, zz6, QO, ↓Qb]
 refine hK0 _ ?_; try clear hK0 K0
 refine kpA [0, 1] ?_
 refine JA fun K0 hK0 => ?_
 refine JA fun K1 hK1 => ?_
 refine Qz F_mixed [some 14, some 15, some 16] rfl ?_
 simp only [zzK, QR, QP, QQ, JC, JE, zz12, F_sl22, Option.isSome_some, zz21, JM, zz25, dues, JN, zz6, QO, ↓Qb]
 refine hK1 _ ?_; try clear hK1 K1
 refine kpA [0, 1, 16] ?_
 refine cnA ?_ ?_
 ·intro hb
  clear hb
  refine JA fun K2 hK2 => ?_
  refine Qz F_mixed [some 4] rfl ?_
  simp only [zzK, QR, QP, QQ, JB, zz6, QO, ↓Qb]
  refine hK2 _ ?_; try clear hK2 K2
  refine kpA [4] ?_
  refine awp_ret ?_
  simp only [zz6, QO, ↓Qb]
  refine dnA ?_
  simp only [QD, QE, resA, JZ, QR, QP, JD, QQ, Qd, Qc, resAll]
  
 ·intro hb
  have hl : l.length ≤ 300 := by simp at hb; omega
  clear hb
  refine JI ?_
  simp only [zz6, QO, ↓Qb]
  refine hK0 _ ?_; try clear hK0 K0
  refine kpA [0, 1] ?_
  refine JA fun K0 hK0 => ?_
  refine Qz F_mixed [some 18, some 19, some 17, some 20, some 21, some 5, some 6] rfl ?_
  simp only [zzK, QR, QP, QQ, JC, JE, JF, zz14, zzD, QS, QN, zzF, JB, dues, zz6, QO, ↓Qb]
  refine JT F_go8 (fun hG => NetF l hk (by omega)) (by simp [QY, QX]) (by simp) ?_
  simp only [zzK, QR, QP, QQ, JC, JE, JF, zz14, zzD, QS, QN, zzF, JB, dues, zz6, QO, ↓Qb, atsL, oksG, freeN, QZ, Qa, JO, Qm, QT, QS, zz9, QB, QA, zzC, yyF, QF, zz2]
  refine hK0 _ ?_; try clear hK0 K0
  refine kpA [0, 1, 5, 6] ?_
  refine JA fun K0 hK0 => ?_
  refine JA fun K1 hK1 => ?_
  refine Qz F_mixed [some 22, some 23] rfl ?_
  simp only [zzK, QR, QP, QQ, JC, zz21, JM, zz28, zz6, QO, ↓Qb]
  refine hK1 _ ?_; try clear hK1 K1
  refine kpA [0, 1, 5, 23] ?_
  refine cnA ?_ ?_
  ·intro hb
   clear hb
   refine JA fun K2 hK2 => ?_
   refine Qz F_mixed [some 24, some 4] rfl ?_
   simp only [zzK, QR, QP, QQ, JE, JF, JB, zz6, QO, ↓Qb]
   refine JT F_go9 (fun hG => wakes17_) (by simp [QY, QX]) (by simp) ?_
   simp only [zzK, QR, QP, QQ, JE, JF, JB, zz6, QO, ↓Qb, atsL, oksG, freeN, QZ, Qa, JO, Qm, QT, QS, zz9, QB, QA, zzC, yyF, zzD, zz2]
   refine hK2 _ ?_; try clear hK2 K2
   refine kpA [4] ?_
   refine awp_ret ?_
   simp only [zz6, QO, ↓Qb]
   refine dnA ?_
   simp only [QD, QE, resA, JZ, QR, QP, JD, QQ, Qd, Qc, resAll]
   
  ·intro hb
   have hn : netR l = 0 := by simpa using hb
   clear hb
   have hrt := netR_rt hn
   obtain ⟨hz1, hz2⟩ := zero_net hrt
   have hnl := net_len l
   refine JI ?_
   simp only [zz6, QO, ↓Qb]
   refine hK0 _ ?_; try clear hK0 K0
   refine kpA [0, 1, 5] ?_
   refine JA fun K0 hK0 => ?_
   refine Qz F_mixed [some 25, some 26, some 7] rfl ?_
   simp only [zzK, QR, QP, QQ, JC, JE, JF, JB, dues, JN, zz6, QO, ↓Qb]
   refine JT F_go12 (fun hG => nTwin_ l (by omega)) (by simp [QY, QX]) (by simp) ?_
   simp only [zzK, QR, QP, QQ, JC, JE, JF, JB, dues, JN, zz6, QO, ↓Qb, atsL, oksG, freeN, QZ, Qa, JO, Qm, QT, QS, zz9, QB, QA, zzC, yyF, zzD, zz2]
   refine hK0 _ ?_; try clear hK0 K0
   refine kpA [0, 1, 5, 7] ?_
   refine JA fun K0 hK0 => ?_
   refine JA fun K1 hK1 => ?_
   have hwl : Ql .i64 ((l.length : Int) - 1) = (l.length : Int) - 1 := wrapI (by omega) (by omega)
   refine Qz F_mixed [some 27, some 28, some 29, some 8] rfl ?_
   simp only [zzK, QR, QP, QQ, JC, JE, zz12, F_sl22, Option.isSome_some, zz21, JM, zz33, JB, dues, JN, hwl, zz6, QO, ↓Qb]
   refine hK1 _ ?_; try clear hK1 K1
   refine kpA [0, 1, 5, 7, 8] ?_
   refine JH ?_
   refine awp_loop (fun m s => ∃ (pre : List LegV) (post : List LegV), (l = pre ++ post) ∧ m = pre.length ∧ s = S 112 [(0, .d (dues l)), (1, .d (iv c)), (5, .d (dues (netV l))), (7, .ref 7 (l ++ (post.map negD).reverse).length), (8, .d (iv (((pre.length : Nat) : Int) - 1)))] [(7, grow 30 3 7 ((l ++ (post.map negD).reverse).map dueC))]) (l.length) _ (le_SK (fun r => bif r == 7 then 27000 else r) [] rfl (l' := [(0, .d (dues l)), (1, .d (iv c)), (5, .d (dues (netV l))), (7, .ref 7 (l ++ ([].map negD).reverse).length), (8, .d (iv (((l.length : Nat) : Int) - 1)))]) (m' := [(7, grow 30 3 7 ((l ++ ([].map negD).reverse).map dueC))]) ?_ ?_ ?_ ?_) ⟨l, [], by simp, rfl, rfl⟩ ?_
   ·simp only [leV, JD, QQ, Qd, Qc]; exact ⟨(by first | exact Qo rfl | exact Qq (by decide) | exact Qp | exact Qn _ | exact Qs (by simp) (by rfl) | exact Qr (by simp) (by rfl) (by first | rfl | (simp; done) | (simp; omega)) | exact Qt (by first | rfl | simp)), (by first | exact Qo rfl | exact Qq (by decide) | exact Qp | exact Qn _ | exact Qs (by simp) (by rfl) | exact Qr (by simp) (by rfl) (by first | rfl | (simp; done) | (simp; omega)) | exact Qt (by first | rfl | simp)), (by first | exact Qo rfl | exact Qq (by decide) | exact Qp | exact Qn _ | exact Qs (by simp) (by rfl) | exact Qr (by simp) (by rfl) (by first | rfl | (simp; done) | (simp; omega)) | exact Qt (by first | rfl | simp)), (Qr (by simp) (by rfl) (by simp)), (Qt rfl), trivial⟩
   ·exact ⟨fun _ => ⟨_, rfl, (by first | exact Qw (by first | rfl | simp) | exact RowLe.uq2 (by first | rfl | simp) (by simp) ids_data | exact RowLe.still (by simp [QX, QY]) | exact RowLe.same (by simp) (by simp [QX, QY]))⟩, fun h => by simp at h, trivial⟩
   ·simp [wfV, QY, QX, lookR, grow]
   ·exact ⟨wf_data _ _, trivial⟩
   rintro m s ⟨pre, post, hsp, rfl, rfl⟩
   have hspl := congrArg List.length hsp
   simp only [QC] at hspl
   have hal : (l ++ (post.map negD).reverse).length = l.length + post.length := by simp
   refine JA fun K2 hK2 => ?_
   refine JA fun K3 hK3 => ?_
   refine Qz F_mixed [some 30, some 31] rfl ?_
   simp only [zzK, QR, QP, QQ, JC, zz21, JM, zz31, zz6, QO, ↓Qb]
   refine hK3 _ ?_; try clear hK3 K3
   refine kpA [0, 1, 5, 7, 8, 31] ?_
   refine cnA ?_ ?_
   ·intro hb
    obtain ⟨pre2, x, rfl⟩ : ∃ p x, pre = p ++ [x] := by
     rcases List.eq_nil_or_concat pre with rfl | ⟨p, x, rfl⟩
     ·have := Qg hb; simp at this
     ·exact ⟨p, x, by simp⟩
    clear hb
    simp only [QC, List.length_singleton] at hspl
    have hpl : (pre2 ++ [x]).length = pre2.length + 1 := by simp
    have gx : (l.map dueC).getD pre2.length [] = [iv x.ac.who, iv x.ac.cur, iv x.amt] := due_at (B := post) (by rw [hsp]; simp) rfl
    have bx := ltI (show pre2.length < l.length by omega)
    have hix : (((pre2.length + 1 : Nat) : Int) - 1) = ((pre2.length : Nat) : Int) := by omega
    have hwx : Ql .i64 ((pre2.length : Int) - 1) = (pre2.length : Int) - 1 := wrapI (by omega) (by omega)
    have hxr : rightN x.amt = true := rt_of hrt x (by rw [hsp]; simp)
    have hxn : Ql .i64 (0 - x.amt) = 0 - x.amt := by simp [rightN] at hxr; exact wrapI (by omega) (by omega)
    simp only [hpl, hix]
    refine JI ?_
    simp only [zz6, QO, ↓Qb]
    refine hK2 _ ?_; try clear hK2 K2
    refine kpA [0, 1, 5, 7, 8] ?_
    refine JA fun K2 hK2 => ?_
    refine JH ?_
    refine awp_draw F_mixed [some 34, some 35, some 36, some 37, some 38, some 39, some 40, some 41, some 42, some 43, some 44, some 45, some 46, some 47, some 48, some 49, some 50, some 51, some 52, some 53, some 7] rfl (by kernel_rfl) ?_
    simp only [zzK, QR, QP, QQ, JC, JW, zz23, zz24, F_sl22, F_sz30, QA, zzC, yyE, Qe, zz19, F_off30_0, zzH, QN, QS, F_ok3, F_ag3, F_sz3, zz8, zzD, F_off30_1, F_off30_2, zz29, JM, zz37, F_zero30, F_bld30, zz7, splice, Option.getD_some, QG, zz1, zzG, zz10, F_fld30_0, F_fld30_1, F_fld30_2, zz3, newRow1, maxLen_le, QT, JE, F_by30, zz4, zz9, QB, JB, dues, hpl, hix, gx, bx, hxn, JN, ge0, QV, grow, unDs_map, QW, dueC, zz6, QO, ↓Qb]
    have hm : (l ++ (post.map negD).reverse).length + 1 ≤ 1000000 := by rw [hal]; omega
    first | refine ⟨le_maxLen hm, by omega, ?_⟩ | refine ⟨by simp, le_maxLen hm, by omega, ?_⟩
    clear hm
    refine hK2 _ ?_; try clear hK2 K2
    refine kpA [0, 1, 5, 7, 8] ?_
    refine Qz F_mixed [some 32, some 33, some 8] rfl ?_
    simp only [zzK, QR, QP, QQ, JC, zz21, JM, zz33, JB, hwx, hix, hpl, zz6, QO, ↓Qb]
    refine ⟨pre2.length, _, by simp, le_SK (fun r => bif r == 7 then 53 else r) [] rfl (l' := [(0, .d (dues l)), (1, .d (iv c)), (5, .d (dues (netV l))), (7, .ref 7 (l ++ ((x :: post).map negD).reverse).length), (8, .d (iv (((pre2.length : Nat) : Int) - 1)))]) (m' := [(7, grow 30 3 7 ((l ++ ((x :: post).map negD).reverse).map dueC))]) ?_ ?_ ?_ ?_, pre2, (x :: post), by simp [hsp], rfl, rfl⟩
    ·simp only [leV, JD, QQ, Qd, Qc, hwx]; exact ⟨(by first | exact Qo rfl | exact Qq (by decide) | exact Qp | exact Qn _ | exact Qs (by simp) (by rfl) | exact Qr (by simp) (by rfl) (by first | rfl | (simp; done) | (simp; omega)) | exact Qt (by first | rfl | simp)), (by first | exact Qo rfl | exact Qq (by decide) | exact Qp | exact Qn _ | exact Qs (by simp) (by rfl) | exact Qr (by simp) (by rfl) (by first | rfl | (simp; done) | (simp; omega)) | exact Qt (by first | rfl | simp)), (by first | exact Qo rfl | exact Qq (by decide) | exact Qp | exact Qn _ | exact Qs (by simp) (by rfl) | exact Qr (by simp) (by rfl) (by first | rfl | (simp; done) | (simp; omega)) | exact Qt (by first | rfl | simp)), (Qr (by simp) (by rfl) (by simp; omega)), (Qt (by simp)), trivial⟩
    ·exact ⟨fun _ => ⟨_, rfl, Qw (by simp [dueC, negD])⟩, fun h => by simp at h, trivial⟩
    ·simp [wfV, QY, QX, lookR, grow]
    ·exact ⟨wf_data _ _, trivial⟩
   ·intro hb
    obtain rfl : pre = [] := by
     cases pre with
     | nil => rfl
     | cons x p => have := Qf hb; simp at this <;> omega
    clear hb
    simp only [List.nil_append] at hsp
    subst hsp
    refine awp_exit ?_
    simp only [zz6, QO, ↓Qb]
    refine hK0 _ ?_; try clear hK0 K0
    refine kpA [0, 1, 5, 7] ?_
    refine JA fun K0 hK0 => ?_
    refine Qz F_mixed [some 55, some 56, some 54, some 57, some 58, some 9, some 6] rfl ?_
    simp only [zzK, QR, QP, QQ, JC, JE, JF, zz14, zzD, QS, QN, zzF, JB, dues, grow, D.sl.injEq, JN, hz1, hz2, zz6, QO, ↓Qb]
    refine JT F_go8 (fun hG => NetF (l ++ (l.map negD).reverse) (hk.app hk.neg.rev) (by simp; omega)) (by simp [QY, QX]) (by simp) ?_
    simp only [zzK, QR, QP, QQ, JC, JE, JF, zz14, zzD, QS, QN, zzF, JB, dues, grow, JN, hz1, hz2, zz6, QO, ↓Qb, atsL, oksG, freeN, QZ, Qa, JO, Qm, QT, QS, zz9, QB, QA, zzC, yyF, QF, zz2]
    first | refine ⟨by simp, ?_⟩ | skip
    refine hK0 _ ?_; try clear hK0 K0
    refine kpA [0, 1, 5, 6, 9] ?_
    refine JA fun K0 hK0 => ?_
    refine JA fun K1 hK1 => ?_
    refine Qz F_mixed [some 59, some 60, some 61, some 62, some 63, some 64, some 65] rfl ?_
    simp only [zzK, QR, QP, QQ, QU, JZ, zz5, and_imp, imp_and, imp_self, and_self, JC, zz21, JM, zz28, JE, zz12, F_sl22, Option.isSome_some, zz13, pickK_l, pickK_r, QE, List.length_nil, Int.natCast_zero, bne_self_eq_false, Gp_some, zz6, QO, ↓Qb]
    refine hK1 _ ?_; try clear hK1 K1
    refine kpA [0, 1, 5, 65] ?_
    refine cnA ?_ ?_
    ·intro hb
     simp at hb
    ·intro hb
     clear hb
     refine JI ?_
     simp only [zz6, QO, ↓Qb]
     refine hK0 _ ?_; try clear hK0 K0
     refine kpA [0, 1, 5] ?_
     refine JA fun K0 hK0 => ?_
     refine Qz F_mixed [some 10, some 11] rfl ?_
     simp only [zzK, QR, QP, QQ, JB, zz6, QO, ↓Qb]
     refine hK0 _ ?_; try clear hK0 K0
     refine kpA [0, 1, 5, 10, 11] ?_
     refine JA fun K0 hK0 => ?_
     refine JA fun K1 hK1 => ?_
     refine Qz F_mixed [some 12] rfl ?_
     simp only [zzK, QR, QP, QQ, JB, zz6, QO, ↓Qb]
     refine hK1 _ ?_; try clear hK1 K1
     refine kpA [0, 1, 5, 10, 11, 12] ?_
     refine JH ?_
     refine awp_loop (fun m s => ∃ (pre : List LegV) (post : List LegV), (l = pre ++ post) ∧ m = post.length ∧ s = S 112 [(0, .d (dues l)), (1, .d (iv c)), (5, .d (dues (netV l))), (10, .d (iv (wSum c pre))), (11, .d (iv 0)), (12, .d (iv pre.length))] []) (l.length) _ (le_SK id [] rfl (l' := [(0, .d (dues l)), (1, .d (iv c)), (5, .d (dues (netV l))), (10, .d (iv (wSum c []))), (11, .d (iv 0)), (12, .d (iv [].length))]) (m' := []) ?_ ?_ ?_ ?_) ⟨[], l, rfl, rfl, rfl⟩ ?_
     ·simp only [leV, JD, QQ, Qd, Qc]; exact ⟨(by first | exact Qo rfl | exact Qq (by decide) | exact Qp | exact Qn _ | exact Qs (by simp) (by rfl) | exact Qr (by simp) (by rfl) (by first | rfl | (simp; done) | (simp; omega)) | exact Qt (by first | rfl | simp)), (by first | exact Qo rfl | exact Qq (by decide) | exact Qp | exact Qn _ | exact Qs (by simp) (by rfl) | exact Qr (by simp) (by rfl) (by first | rfl | (simp; done) | (simp; omega)) | exact Qt (by first | rfl | simp)), (by first | exact Qo rfl | exact Qq (by decide) | exact Qp | exact Qn _ | exact Qs (by simp) (by rfl) | exact Qr (by simp) (by rfl) (by first | rfl | (simp; done) | (simp; omega)) | exact Qt (by first | rfl | simp)), (Qt (by rw [wSum_nil])), (by first | exact Qo rfl | exact Qq (by decide) | exact Qp | exact Qn _ | exact Qs (by simp) (by rfl) | exact Qr (by simp) (by rfl) (by first | rfl | (simp; done) | (simp; omega)) | exact Qt (by first | rfl | simp)), (by first | exact Qo rfl | exact Qq (by decide) | exact Qp | exact Qn _ | exact Qs (by simp) (by rfl) | exact Qr (by simp) (by rfl) (by first | rfl | (simp; done) | (simp; omega)) | exact Qt (by first | rfl | simp)), trivial⟩
     ·exact trivial
     ·simp [wfV, QY, QX, lookR, grow]
     ·simp [wfR]
     rintro m s ⟨pre, post, hsp, rfl, rfl⟩
     have hspl := congrArg List.length hsp
     simp only [QC] at hspl
     refine JA fun K2 hK2 => ?_
     refine JA fun K3 hK3 => ?_
     refine Qz F_mixed [some 66, some 67, some 68, some 69] rfl ?_
     simp only [zzK, QR, QP, QQ, JC, JE, zz12, F_sl22, Option.isSome_some, zz21, JM, zz22, dues, JN, zz6, QO, ↓Qb]
     refine hK3 _ ?_; try clear hK3 K3
     refine kpA [0, 1, 5, 10, 11, 12, 69] ?_
     refine cnA ?_ ?_
     ·intro hb
      obtain ⟨x, post2, rfl⟩ : ∃ x t, post = x :: t := by
       cases post with
       | nil => have := Qg hb; simp at hspl; omega
       | cons x t => exact ⟨x, t, rfl⟩
      clear hb
      simp only [QF] at hspl
      have gx : (l.map dueC).getD pre.length [] = [iv x.ac.who, iv x.ac.cur, iv x.amt] := by
       rw [hsp, List.map_append]; exact gd_mid' (A := pre.map dueC) _ _ (by simp)
      have bx := ltI (show pre.length < l.length by omega)
      have hwx : Ql .i64 ((pre.length : Int) + 1) = ((pre ++ [x]).length : Int) := by rw [wrapI (by omega) (by omega)]; simp
      refine JI ?_
      simp only [zz6, QO, ↓Qb]
      refine hK2 _ ?_; try clear hK2 K2
      refine kpA [0, 1, 5, 10, 11, 12] ?_
      refine JA fun K2 hK2 => ?_
      refine JH ?_
      refine JA fun K3 hK3 => ?_
      refine Qz F_mixed [some 72, some 73, some 74, some 75, some 76, some 77, some 78] rfl ?_
      simp only [zzK, QR, QP, QQ, JC, JW, zz23, zz24, F_sl22, F_sz30, QA, zzC, yyE, Qe, zz19, F_off30_1, zzH, QN, QS, F_ok3, F_ag3, F_sz3, zz8, zzD, zz21, JM, zz34, dues, gx, bx, hwx, JN, ge0, QV, QW, zz6, QO, ↓Qb]
      refine hK3 _ ?_; try clear hK3 K3
      refine kpA [0, 1, 5, 10, 11, 12, 78] ?_
      refine cnA ?_ ?_
      ·intro hb
       have hs : (x.ac.cur == c) = true := by simpa using hb
       clear hb
       have hws := wSum_yes hs pre
       refine Qz F_mixed [some 79, some 80, some 81, some 82, some 83, some 84, some 85, some 10] rfl ?_
       simp only [zzK, QR, QP, QQ, JC, JW, zz23, zz24, F_sl22, F_sz30, QA, zzC, yyE, Qe, zz19, F_off30_2, zzH, QN, QS, F_ok3, F_ag3, F_sz3, zz8, zzD, zz21, JM, zz26, JB, dues, hws, gx, bx, hwx, JN, ge0, QV, QW, zz6, QO, ↓Qb]
       refine hK2 _ ?_; try clear hK2 K2
       refine kpA [0, 1, 5, 10, 11, 12] ?_
       refine Qz F_mixed [some 70, some 71, some 12] rfl ?_
       simp only [zzK, QR, QP, QQ, JC, zz21, JM, zz26, JB, hwx, zz6, QO, ↓Qb]
       refine ⟨post2.length, _, by simp, le_SK id [] rfl (l' := [(0, .d (dues l)), (1, .d (iv c)), (5, .d (dues (netV l))), (10, .d (iv (wSum c (pre ++ [x])))), (11, .d (iv 0)), (12, .d (iv (pre ++ [x]).length))]) (m' := []) ?_ ?_ ?_ ?_, (pre ++ [x]), post2, by simp [hsp], rfl, rfl⟩
       ·simp only [leV, JD, QQ, Qd, Qc, hwx, hws]; exact ⟨(by first | exact Qo rfl | exact Qq (by decide) | exact Qp | exact Qn _ | exact Qs (by simp) (by rfl) | exact Qr (by simp) (by rfl) (by first | rfl | (simp; done) | (simp; omega)) | exact Qt (by first | rfl | simp)), (by first | exact Qo rfl | exact Qq (by decide) | exact Qp | exact Qn _ | exact Qs (by simp) (by rfl) | exact Qr (by simp) (by rfl) (by first | rfl | (simp; done) | (simp; omega)) | exact Qt (by first | rfl | simp)), (by first | exact Qo rfl | exact Qq (by decide) | exact Qp | exact Qn _ | exact Qs (by simp) (by rfl) | exact Qr (by simp) (by rfl) (by first | rfl | (simp; done) | (simp; omega)) | exact Qt (by first | rfl | simp)), (by first | exact Qo rfl | exact Qq (by decide) | exact Qp | exact Qn _ | exact Qs (by simp) (by rfl) | exact Qr (by simp) (by rfl) (by first | rfl | (simp; done) | (simp; omega)) | exact Qt (by first | rfl | simp)), (by first | exact Qo rfl | exact Qq (by decide) | exact Qp | exact Qn _ | exact Qs (by simp) (by rfl) | exact Qr (by simp) (by rfl) (by first | rfl | (simp; done) | (simp; omega)) | exact Qt (by first | rfl | simp)), (by first | exact Qo rfl | exact Qq (by decide) | exact Qp | exact Qn _ | exact Qs (by simp) (by rfl) | exact Qr (by simp) (by rfl) (by first | rfl | (simp; done) | (simp; omega)) | exact Qt (by first | rfl | simp)), trivial⟩
       ·exact trivial
       ·simp [wfV, QY, QX, lookR, grow]
       ·simp [wfR]
      ·intro hb
       have hs : (x.ac.cur == c) = false := by simpa using hb
       clear hb
       have hws := wSum_no hs pre
       refine JI ?_
       simp only [zz6, QO, ↓Qb]
       refine hK2 _ ?_; try clear hK2 K2
       refine kpA [0, 1, 5, 10, 11, 12] ?_
       refine Qz F_mixed [some 70, some 71, some 12] rfl ?_
       simp only [zzK, QR, QP, QQ, JC, zz21, JM, zz26, JB, hwx, zz6, QO, ↓Qb]
       refine ⟨post2.length, _, by simp, le_SK id [] rfl (l' := [(0, .d (dues l)), (1, .d (iv c)), (5, .d (dues (netV l))), (10, .d (iv (wSum c (pre ++ [x])))), (11, .d (iv 0)), (12, .d (iv (pre ++ [x]).length))]) (m' := []) ?_ ?_ ?_ ?_, (pre ++ [x]), post2, by simp [hsp], rfl, rfl⟩
       ·simp only [leV, JD, QQ, Qd, Qc, hwx, hws]; exact ⟨(by first | exact Qo rfl | exact Qq (by decide) | exact Qp | exact Qn _ | exact Qs (by simp) (by rfl) | exact Qr (by simp) (by rfl) (by first | rfl | (simp; done) | (simp; omega)) | exact Qt (by first | rfl | simp)), (by first | exact Qo rfl | exact Qq (by decide) | exact Qp | exact Qn _ | exact Qs (by simp) (by rfl) | exact Qr (by simp) (by rfl) (by first | rfl | (simp; done) | (simp; omega)) | exact Qt (by first | rfl | simp)), (by first | exact Qo rfl | exact Qq (by decide) | exact Qp | exact Qn _ | exact Qs (by simp) (by rfl) | exact Qr (by simp) (by rfl) (by first | rfl | (simp; done) | (simp; omega)) | exact Qt (by first | rfl | simp)), (by first | exact Qo rfl | exact Qq (by decide) | exact Qp | exact Qn _ | exact Qs (by simp) (by rfl) | exact Qr (by simp) (by rfl) (by first | rfl | (simp; done) | (simp; omega)) | exact Qt (by first | rfl | simp)), (by first | exact Qo rfl | exact Qq (by decide) | exact Qp | exact Qn _ | exact Qs (by simp) (by rfl) | exact Qr (by simp) (by rfl) (by first | rfl | (simp; done) | (simp; omega)) | exact Qt (by first | rfl | simp)), (by first | exact Qo rfl | exact Qq (by decide) | exact Qp | exact Qn _ | exact Qs (by simp) (by rfl) | exact Qr (by simp) (by rfl) (by first | rfl | (simp; done) | (simp; omega)) | exact Qt (by first | rfl | simp)), trivial⟩
       ·exact trivial
       ·simp [wfV, QY, QX, lookR, grow]
       ·simp [wfR]
     ·intro hb
      obtain rfl : post = [] := by
       cases post with
       | nil => rfl
       | cons x t => have := Qf hb; simp at hspl; omega
      clear hb
      simp only [QG] at hsp
      subst hsp
      refine awp_exit ?_
      simp only [zz6, QO, ↓Qb]
      refine hK0 _ ?_; try clear hK0 K0
      refine kpA [1, 5, 10, 11] ?_
      refine JA fun K0 hK0 => ?_
      refine JA fun K1 hK1 => ?_
      refine Qz F_mixed [some 13] rfl ?_
      simp only [zzK, QR, QP, QQ, JB, zz6, QO, ↓Qb]
      refine hK1 _ ?_; try clear hK1 K1
      refine kpA [1, 5, 10, 11, 13] ?_
      refine JH ?_
      refine awp_loop (fun m s => ∃ (pre : List LegV) (post : List LegV), (netV l = pre ++ post) ∧ m = post.length ∧ s = S 112 [(1, .d (iv c)), (5, .d (dues (netV l))), (10, .d (iv (wSum c l))), (11, .d (iv (wSum c pre))), (13, .d (iv pre.length))] []) ((netV l).length) _ (le_SK id [] rfl (l' := [(1, .d (iv c)), (5, .d (dues (netV l))), (10, .d (iv (wSum c l))), (11, .d (iv (wSum c []))), (13, .d (iv [].length))]) (m' := []) ?_ ?_ ?_ ?_) ⟨[], (netV l), rfl, rfl, rfl⟩ ?_
      ·simp only [leV, JD, QQ, Qd, Qc]; exact ⟨(by first | exact Qo rfl | exact Qq (by decide) | exact Qp | exact Qn _ | exact Qs (by simp) (by rfl) | exact Qr (by simp) (by rfl) (by first | rfl | (simp; done) | (simp; omega)) | exact Qt (by first | rfl | simp)), (by first | exact Qo rfl | exact Qq (by decide) | exact Qp | exact Qn _ | exact Qs (by simp) (by rfl) | exact Qr (by simp) (by rfl) (by first | rfl | (simp; done) | (simp; omega)) | exact Qt (by first | rfl | simp)), (by first | exact Qo rfl | exact Qq (by decide) | exact Qp | exact Qn _ | exact Qs (by simp) (by rfl) | exact Qr (by simp) (by rfl) (by first | rfl | (simp; done) | (simp; omega)) | exact Qt (by first | rfl | simp)), (Qt (by rw [wSum_nil])), (by first | exact Qo rfl | exact Qq (by decide) | exact Qp | exact Qn _ | exact Qs (by simp) (by rfl) | exact Qr (by simp) (by rfl) (by first | rfl | (simp; done) | (simp; omega)) | exact Qt (by first | rfl | simp)), trivial⟩
      ·exact trivial
      ·simp [wfV, QY, QX, lookR, grow]
      ·simp [wfR]
      rintro m s ⟨pre, post, hsp, rfl, rfl⟩
      have hspl := congrArg List.length hsp
      simp only [QC] at hspl
      refine JA fun K2 hK2 => ?_
      refine JA fun K3 hK3 => ?_
      refine Qz F_mixed [some 86, some 87, some 88, some 89] rfl ?_
      simp only [zzK, QR, QP, QQ, JC, JE, zz12, F_sl22, Option.isSome_some, zz21, JM, zz22, dues, JN, zz6, QO, ↓Qb]
      refine hK3 _ ?_; try clear hK3 K3
      refine kpA [1, 5, 10, 11, 13, 89] ?_
      refine cnA ?_ ?_
      ·intro hb
       obtain ⟨x, post2, rfl⟩ : ∃ x t, post = x :: t := by
        cases post with
        | nil => have := Qg hb; simp at hspl; omega
        | cons x t => exact ⟨x, t, rfl⟩
       clear hb
       simp only [QF] at hspl
       have gx : ((netV l).map dueC).getD pre.length [] = [iv x.ac.who, iv x.ac.cur, iv x.amt] := by
        rw [hsp, List.map_append]; exact gd_mid' (A := pre.map dueC) _ _ (by simp)
       have bx := ltI (show pre.length < (netV l).length by omega)
       have hwx : Ql .i64 ((pre.length : Int) + 1) = ((pre ++ [x]).length : Int) := by rw [wrapI (by omega) (by omega)]; simp
       refine JI ?_
       simp only [zz6, QO, ↓Qb]
       refine hK2 _ ?_; try clear hK2 K2
       refine kpA [1, 5, 10, 11, 13] ?_
       refine JA fun K2 hK2 => ?_
       refine JH ?_
       refine JA fun K3 hK3 => ?_
       refine Qz F_mixed [some 92, some 93, some 94, some 95, some 96, some 97, some 98] rfl ?_
       simp only [zzK, QR, QP, QQ, JC, JW, zz23, zz24, F_sl22, F_sz30, QA, zzC, yyE, Qe, zz19, F_off30_1, zzH, QN, QS, F_ok3, F_ag3, F_sz3, zz8, zzD, zz21, JM, zz34, dues, gx, bx, hwx, JN, ge0, QV, QW, zz6, QO, ↓Qb]
       refine hK3 _ ?_; try clear hK3 K3
       refine kpA [1, 5, 10, 11, 13, 98] ?_
       refine cnA ?_ ?_
       ·intro hb
        have hs : (x.ac.cur == c) = true := by simpa using hb
        clear hb
        have hws := wSum_yes hs pre
        refine Qz F_mixed [some 99, some 100, some 101, some 102, some 103, some 104, some 105, some 11] rfl ?_
        simp only [zzK, QR, QP, QQ, JC, JW, zz23, zz24, F_sl22, F_sz30, QA, zzC, yyE, Qe, zz19, F_off30_2, zzH, QN, QS, F_ok3, F_ag3, F_sz3, zz8, zzD, zz21, JM, zz26, JB, dues, hws, gx, bx, hwx, JN, ge0, QV, QW, zz6, QO, ↓Qb]
        refine hK2 _ ?_; try clear hK2 K2
        refine kpA [1, 5, 10, 11, 13] ?_
        refine Qz F_mixed [some 90, some 91, some 13] rfl ?_
        simp only [zzK, QR, QP, QQ, JC, zz21, JM, zz26, JB, hwx, zz6, QO, ↓Qb]
        refine ⟨post2.length, _, by simp, le_SK id [] rfl (l' := [(1, .d (iv c)), (5, .d (dues (netV l))), (10, .d (iv (wSum c l))), (11, .d (iv (wSum c (pre ++ [x])))), (13, .d (iv (pre ++ [x]).length))]) (m' := []) ?_ ?_ ?_ ?_, (pre ++ [x]), post2, by simp [hsp], rfl, rfl⟩
        ·simp only [leV, JD, QQ, Qd, Qc, hwx, hws]; exact ⟨(by first | exact Qo rfl | exact Qq (by decide) | exact Qp | exact Qn _ | exact Qs (by simp) (by rfl) | exact Qr (by simp) (by rfl) (by first | rfl | (simp; done) | (simp; omega)) | exact Qt (by first | rfl | simp)), (by first | exact Qo rfl | exact Qq (by decide) | exact Qp | exact Qn _ | exact Qs (by simp) (by rfl) | exact Qr (by simp) (by rfl) (by first | rfl | (simp; done) | (simp; omega)) | exact Qt (by first | rfl | simp)), (by first | exact Qo rfl | exact Qq (by decide) | exact Qp | exact Qn _ | exact Qs (by simp) (by rfl) | exact Qr (by simp) (by rfl) (by first | rfl | (simp; done) | (simp; omega)) | exact Qt (by first | rfl | simp)), (by first | exact Qo rfl | exact Qq (by decide) | exact Qp | exact Qn _ | exact Qs (by simp) (by rfl) | exact Qr (by simp) (by rfl) (by first | rfl | (simp; done) | (simp; omega)) | exact Qt (by first | rfl | simp)), (by first | exact Qo rfl | exact Qq (by decide) | exact Qp | exact Qn _ | exact Qs (by simp) (by rfl) | exact Qr (by simp) (by rfl) (by first | rfl | (simp; done) | (simp; omega)) | exact Qt (by first | rfl | simp)), trivial⟩
        ·exact trivial
        ·simp [wfV, QY, QX, lookR, grow]
        ·simp [wfR]
       ·intro hb
        have hs : (x.ac.cur == c) = false := by simpa using hb
        clear hb
        have hws := wSum_no hs pre
        refine JI ?_
        simp only [zz6, QO, ↓Qb]
        refine hK2 _ ?_; try clear hK2 K2
        refine kpA [1, 5, 10, 11, 13] ?_
        refine Qz F_mixed [some 90, some 91, some 13] rfl ?_
        simp only [zzK, QR, QP, QQ, JC, zz21, JM, zz26, JB, hwx, zz6, QO, ↓Qb]
        refine ⟨post2.length, _, by simp, le_SK id [] rfl (l' := [(1, .d (iv c)), (5, .d (dues (netV l))), (10, .d (iv (wSum c l))), (11, .d (iv (wSum c (pre ++ [x])))), (13, .d (iv (pre ++ [x]).length))]) (m' := []) ?_ ?_ ?_ ?_, (pre ++ [x]), post2, by simp [hsp], rfl, rfl⟩
        ·simp only [leV, JD, QQ, Qd, Qc, hwx, hws]; exact ⟨(by first | exact Qo rfl | exact Qq (by decide) | exact Qp | exact Qn _ | exact Qs (by simp) (by rfl) | exact Qr (by simp) (by rfl) (by first | rfl | (simp; done) | (simp; omega)) | exact Qt (by first | rfl | simp)), (by first | exact Qo rfl | exact Qq (by decide) | exact Qp | exact Qn _ | exact Qs (by simp) (by rfl) | exact Qr (by simp) (by rfl) (by first | rfl | (simp; done) | (simp; omega)) | exact Qt (by first | rfl | simp)), (by first | exact Qo rfl | exact Qq (by decide) | exact Qp | exact Qn _ | exact Qs (by simp) (by rfl) | exact Qr (by simp) (by rfl) (by first | rfl | (simp; done) | (simp; omega)) | exact Qt (by first | rfl | simp)), (by first | exact Qo rfl | exact Qq (by decide) | exact Qp | exact Qn _ | exact Qs (by simp) (by rfl) | exact Qr (by simp) (by rfl) (by first | rfl | (simp; done) | (simp; omega)) | exact Qt (by first | rfl | simp)), (by first | exact Qo rfl | exact Qq (by decide) | exact Qp | exact Qn _ | exact Qs (by simp) (by rfl) | exact Qr (by simp) (by rfl) (by first | rfl | (simp; done) | (simp; omega)) | exact Qt (by first | rfl | simp)), trivial⟩
        ·exact trivial
        ·simp [wfV, QY, QX, lookR, grow]
        ·simp [wfR]
      ·intro hb
       obtain rfl : post = [] := by
        cases post with
        | nil => rfl
        | cons x t => have := Qf hb; simp at hspl; omega
       clear hb
       simp only [QG] at hsp
       have hcs : wSum c pre = wSum c l := by rw [← hsp]; exact net_curs hn c
       refine awp_exit ?_
       simp only [zz6, QO, ↓Qb]
       refine hK0 _ ?_; try clear hK0 K0
       refine kpA [10, 11] ?_
       refine JA fun K0 hK0 => ?_
       refine Qz F_mixed [some 106, some 107, some 108, some 109, some 110, some 111, some 4] rfl ?_
       simp only [zzK, QR, QP, QQ, QU, JZ, zz5, and_imp, imp_and, imp_self, and_self, JC, zz21, JM, zz34, JE, JF, zz13, pickK_l, pickK_r, JB, hcs, beq_self_eq_true, Gp_some, zz6, QO, ↓Qb]
       refine JT F_go9 (fun hG => wakes17_) (by simp [QY, QX]) (by simp) ?_
       simp only [zzK, QR, QP, QQ, QU, JZ, zz5, and_imp, imp_and, imp_self, and_self, JC, zz21, JM, zz34, JE, JF, zz13, pickK_l, pickK_r, JB, hcs, beq_self_eq_true, Gp_some, zz6, QO, ↓Qb, atsL, oksG, freeN, QZ, Qa, JO, Qm, QT, QS, zz9, QB, QA, zzC, yyF, zzD, zz2]
       refine hK0 _ ?_; try clear hK0 K0
       refine kpA [4] ?_
       refine awp_ret ?_
       simp only [zz6, QO, ↓Qb]
       refine dnA ?_
       simp only [QD, QE, resA, JZ, QR, QP, JD, QQ, Qd, Qc, resAll]
       try simp
theorem netZero2_ (l : List DueV) (n : Int) : ACalls Try.prog 5 [.sl 3 (l.map dueC2), iv n] [] (bv true) := by
 have e := netZero_ (l.map dueL) n (dueL_k l)
 rwa [dueL_d] at e

end Go.Proofs.Ytcpkhnciplfmkaa
