import Derived.Test.YtcpkhnciplfmkaaWpI
namespace Go.Proofs.Ytcpkhnciplfmkaa
open Go.RowKit
set_option linter.unusedVariables false
set_option linter.unusedSimpArgs false
open Option renaming map_some → QA, bind_some → QB
open List renaming length_append → QC, map_cons → QD, map_nil → QE, length_cons → QF, append_nil → QG
open Nat renaming zero_add → QN, reduceEqDiff → QO, reduceLeDiff → QP, reduceBEq → QQ, reduceLT → QR, reduceAdd → QS, reduceMul → QT, reduceSub → QU
open Int renaming toNat_natCast → QV
open D.agg renaming injEq → QW
open AV renaming idsL → QX, ids → QY, ren → QZ, renL → Qa
open _root_ renaming reduceIte → Qb, cond_false → Qc, cond_true → Qd, reduceCtorEq → Qe, of_decide_eq_false → Qf, of_decide_eq_true → Qg, imp_self → Qh, imp_and → Qi, and_imp → Qj
open IntKind renaming wrap → Ql
open ORow renaming row → Qm
open VLe renaming refl → Qn, still → Qo, nild_ → Qp, nil_ → Qq, refE → Qr, ptrE → Qs, dE → Qt
open Go.Proofs.Ytcpkhnciplfmkaa renaming awp_plain → Qz, awp_seq → JA, evS_assign → JB, evS_move → JC, look_cons → JD, evS_call → JE, evC_value → JF, awp_block → JH, awp_skip → JI, gr_v → JM, len_map → JN, addRows → JO, pickK_l → JQ, pickK_r → JR, call_go → JT, evS_indexAddr → JW, S_getD → JZ
theorem F_go9 : goFn Try.prog 9 := ⟨_, Try.func9, rfl, rfl⟩
theorem F_bool4 : Try.prog.underlying 4 = some .bool := by kernel_rfl
set_option maxRecDepth 100000 in
set_option maxHeartbeats 4000000 in
theorem netSums_ (l : List LegV) (hk : K2 l) : ACalls Try.prog 3 [dues l] [] (bv true) := by
 refine acalls_S (rs := [.tmp 2]) Try.func3 rfl rfl 156 [(0, .d (dues l))] rfl (by simp) rfl ?_
 refine JA fun K0 hK0 => ?_
 refine Qz F_mixed [some 2] rfl ?_
 simp only [zzK, QR, QP, QQ, JB, zz6, QO, ↓Qb]
 refine hK0 _ ?_; try clear hK0 K0
 refine kpA [0] ?_
 refine JA fun K0 hK0 => ?_
 refine JA fun K1 hK1 => ?_
 refine Qz F_mixed [some 11, some 12, some 13] rfl ?_
 simp only [zzK, QR, QP, QQ, JC, JE, zz12, F_sl22, Option.isSome_some, zz21, JM, zz25, dues, JN, zz6, QO, ↓Qb]
 refine hK1 _ ?_; try clear hK1 K1
 refine kpA [0, 13] ?_
 refine cnA ?_ ?_
 ·intro hb
  clear hb
  refine JA fun K2 hK2 => ?_
  refine Qz F_mixed [some 2] rfl ?_
  simp only [zzK, QR, QP, QQ, JB, zz6, QO, ↓Qb]
  refine hK2 _ ?_; try clear hK2 K2
  refine kpA [2] ?_
  refine awp_ret ?_
  simp only [zz6, QO, ↓Qb]
  refine dnA ?_
  simp only [QD, QE, resA, JZ, QR, QP, JD, QQ, Qd, Qc, resAll]
  
 ·intro hb
  have hl : l.length ≤ 300 := by simp at hb; omega
  clear hb
  refine JI ?_
  simp only [zz6, QO, ↓Qb]
  refine hK0 _ ?_; try clear hK0 K0
  refine kpA [0] ?_
  refine JA fun K0 hK0 => ?_
  refine Qz F_mixed [some 15, some 16, some 14, some 17, some 18, some 3, some 4] rfl ?_
  simp only [zzK, QR, QP, QQ, JC, JE, JF, zz14, zzD, QS, QN, zzF, JB, dues, zz6, QO, ↓Qb]
  refine JT F_go8 (fun hG => NetF l hk (by omega)) (by simp [QY, QX]) (by simp) ?_
  simp only [zzK, QR, QP, QQ, JC, JE, JF, zz14, zzD, QS, QN, zzF, JB, dues, zz6, QO, ↓Qb, atsL, oksG, freeN, QZ, Qa, JO, Qm, QT, QS, zz9, QB, QA, zzC, yyF, QF, zz2]
  refine hK0 _ ?_; try clear hK0 K0
  refine kpA [0, 3, 4] ?_
  refine JA fun K0 hK0 => ?_
  refine JA fun K1 hK1 => ?_
  refine Qz F_mixed [some 19, some 20] rfl ?_
  simp only [zzK, QR, QP, QQ, JC, zz21, JM, zz28, zz6, QO, ↓Qb]
  refine hK1 _ ?_; try clear hK1 K1
  refine kpA [0, 3, 20] ?_
  refine cnA ?_ ?_
  ·intro hb
   have hn : netR l ≠ 0 := by simpa using hb
   clear hb
   have hv : dues (netV l) = .sl 3 [] := by rw [nV0 hn]; rfl
   refine JA fun K2 hK2 => ?_
   refine Qz F_mixed [some 21, some 22, some 23, some 24, some 25, some 26, some 2] rfl ?_
   simp only [zzK, QR, QP, QQ, QU, JZ, zz5, Qj, Qi, Qh, and_self, JC, JE, zz12, F_sl22, Option.isSome_some, zz21, JM, zz34, JF, zz13, JQ, JR, JB, hv, List.length_nil, Int.natCast_zero, beq_self_eq_true, Gp_some, zz6, QO, ↓Qb]
   refine JT F_go9 (fun hG => wakes17_) (by simp [QY, QX]) (by simp) ?_
   simp only [zzK, QR, QP, QQ, QU, JZ, zz5, Qj, Qi, Qh, and_self, JC, JE, zz12, F_sl22, Option.isSome_some, zz21, JM, zz34, JF, zz13, JQ, JR, JB, hv, Int.natCast_zero, beq_self_eq_true, Gp_some, zz6, QO, ↓Qb, atsL, oksG, freeN, QZ, Qa, JO, Qm, QT, QS, zz9, QB, QA, zzC, yyF, zzD, zz2]
   refine hK2 _ ?_; try clear hK2 K2
   refine kpA [2] ?_
   refine awp_ret ?_
   simp only [zz6, QO, ↓Qb]
   refine dnA ?_
   simp only [QD, QE, resA, JZ, QR, QP, JD, QQ, Qd, Qc, resAll]
   simp [nV0 hn]
  ·intro hb
   have hn : netR l = 0 := by simpa using hb
   clear hb
   have hnl := net_len l
   refine JI ?_
   simp only [zz6, QO, ↓Qb]
   refine hK0 _ ?_; try clear hK0 K0
   refine kpA [0, 3] ?_
   refine JA fun K0 hK0 => ?_
   refine JA fun K1 hK1 => ?_
   refine Qz F_mixed [some 5] rfl ?_
   simp only [zzK, QR, QP, QQ, JB, zz6, QO, ↓Qb]
   refine hK1 _ ?_; try clear hK1 K1
   refine kpA [0, 3, 5] ?_
   refine JH ?_
   refine awp_loop (fun m s => ∃ (pre : List LegV) (post : List LegV), (l = pre ++ post) ∧ m = post.length ∧ s = S 156 [(0, .d (dues l)), (3, .d (dues (netV l))), (5, .d (iv pre.length))] []) (l.length) _ (le_SK id [] rfl (l' := [(0, .d (dues l)), (3, .d (dues (netV l))), (5, .d (iv [].length))]) (m' := []) ?_ ?_ ?_ ?_) ⟨[], l, rfl, rfl, rfl⟩ ?_
   ·simp only [leV, JD, QQ, Qd, Qc]; exact ⟨(by first | exact Qo rfl | exact Qq (by decide) | exact Qp | exact Qn _ | exact Qs (by simp) (by rfl) | exact Qr (by simp) (by rfl) (by first | rfl | (simp; done) | (simp; omega)) | exact Qt (by first | rfl | simp)), (by first | exact Qo rfl | exact Qq (by decide) | exact Qp | exact Qn _ | exact Qs (by simp) (by rfl) | exact Qr (by simp) (by rfl) (by first | rfl | (simp; done) | (simp; omega)) | exact Qt (by first | rfl | simp)), (by first | exact Qo rfl | exact Qq (by decide) | exact Qp | exact Qn _ | exact Qs (by simp) (by rfl) | exact Qr (by simp) (by rfl) (by first | rfl | (simp; done) | (simp; omega)) | exact Qt (by first | rfl | simp)), trivial⟩
   ·exact trivial
   ·simp [wfV, QY, QX, lookR, grow]
   ·simp [wfR]
   rintro m s ⟨pre, post, hsp, rfl, rfl⟩
   have hspl := congrArg List.length hsp
   simp only [QC] at hspl
   refine JA fun K2 hK2 => ?_
   refine JA fun K3 hK3 => ?_
   refine Qz F_mixed [some 27, some 28, some 29, some 30] rfl ?_
   simp only [zzK, QR, QP, QQ, JC, JE, zz12, F_sl22, Option.isSome_some, zz21, JM, zz22, dues, JN, zz6, QO, ↓Qb]
   refine hK3 _ ?_; try clear hK3 K3
   refine kpA [0, 3, 5, 30] ?_
   refine cnA ?_ ?_
   ·intro hb
    obtain ⟨x, post2, rfl⟩ : ∃ x t, post = x :: t := by
     cases post with
     | nil => have := Qg hb; simp at hspl; omega
     | cons x t => exact ⟨x, t, rfl⟩
    clear hb
    simp only [QF] at hspl
    have gx : (l.map dueC).getD pre.length [] = [iv x.ac.who, iv x.ac.cur, iv x.amt] := by
     rw [hsp, List.map_append]; exact gd_mid' (A := pre.map dueC) _ _ (by simp)
    have bx := ltI (show pre.length < l.length by omega)
    have hwx : Ql .i64 ((pre.length : Int) + 1) = ((pre ++ [x]).length : Int) := by rw [wrapI (by omega) (by omega)]; simp
    have hx : x ∈ l := by rw [hsp]; simp
    obtain ⟨hg1, hg2⟩ := gr_in hk hn hx
    have hc := cnt_net hk hn hx
    refine JI ?_
    simp only [zz6, QO, ↓Qb]
    refine hK2 _ ?_; try clear hK2 K2
    refine kpA [0, 3, 5] ?_
    refine JA fun K2 hK2 => ?_
    refine JH ?_
    refine JA fun K3 hK3 => ?_
    refine awp_draw F_mixed [some 34, some 35, some 36, some 37, some 38, some 39, some 40, some 41, some 42, some 43, some 44, some 45, some 33, some 46, some 47, some 6, some 7] rfl (by kernel_rfl) ?_
    simp only [zzK, QR, QP, QQ, JC, JW, zz23, zz24, F_sl22, F_sz30, QA, zzC, yyE, Qe, zz19, F_off30_0, zzH, QN, QS, F_ok3, F_ag3, F_sz3, zz8, zzD, F_off30_1, JE, JF, zz14, JB, hg1, hg2, dues, gx, bx, hwx, JN, ge0, QV, QW, zz6, QO, ↓Qb]
    refine JT F_go10 (fun hG => Gross_ x.ac.who x.ac.cur l (by omega)) (by simp [QY, QX]) (by simp) ?_
    simp only [zzK, QR, QP, QQ, JC, JW, zz23, zz24, F_sl22, F_sz30, QA, zzC, yyE, Qe, zz19, F_off30_0, zzH, QN, QS, F_ok3, F_ag3, F_sz3, zz8, zzD, F_off30_1, JE, JF, zz14, JB, hg1, hg2, dues, gx, bx, hwx, JN, ge0, QV, QW, zz6, QO, ↓Qb, atsL, oksG, freeN, QZ, Qa, JO, Qm, QT, QS, zz9, QB, QA, S_mem, yyF, QF, zz2]
    refine hK3 _ ?_; try clear hK3 K3
    refine kpA [0, 3, 5, 6, 7] ?_
    refine JA fun K3 hK3 => ?_
    refine JA fun K4 hK4 => ?_
    refine Qz F_mixed [some 48, some 49] rfl ?_
    simp only [zzK, QR, QP, QQ, JC, zz21, JM, zz28, zz6, QO, ↓Qb]
    refine hK4 _ ?_; try clear hK4 K4
    refine kpA [0, 3, 5, 6, 49] ?_
    refine cnA ?_ ?_
    ·intro hb
     simp at hb
    ·intro hb
     clear hb
     refine JI ?_
     simp only [zz6, QO, ↓Qb]
     refine hK3 _ ?_; try clear hK3 K3
     refine kpA [0, 3, 5, 6] ?_
     refine JA fun K3 hK3 => ?_
     refine Qz F_mixed [some 8] rfl ?_
     simp only [zzK, QR, QP, QQ, JB, zz6, QO, ↓Qb]
     refine hK3 _ ?_; try clear hK3 K3
     refine kpA [0, 3, 5, 6, 8] ?_
     refine JA fun K3 hK3 => ?_
     refine JA fun K4 hK4 => ?_
     refine Qz F_mixed [some 9] rfl ?_
     simp only [zzK, QR, QP, QQ, JB, zz6, QO, ↓Qb]
     refine hK4 _ ?_; try clear hK4 K4
     refine kpA [0, 3, 5, 6, 8, 9] ?_
     refine JH ?_
     refine awp_loop (fun m s => ∃ (kp : List LegV) (kq : List LegV), (netV l = kp ++ kq) ∧ m = kq.length ∧ s = S 156 [(0, .d (dues l)), (3, .d (dues (netV l))), (5, .d (iv pre.length)), (6, .d (iv (sumA x.ac l))), (8, .d (iv (cntK x kp : Nat))), (9, .d (iv kp.length))] []) ((netV l).length) _ (le_SK id [] rfl (l' := [(0, .d (dues l)), (3, .d (dues (netV l))), (5, .d (iv pre.length)), (6, .d (iv (sumA x.ac l))), (8, .d (iv (cntK x [] : Nat))), (9, .d (iv [].length))]) (m' := []) ?_ ?_ ?_ ?_) ⟨[], (netV l), rfl, rfl, rfl⟩ ?_
     ·simp only [leV, JD, QQ, Qd, Qc]; exact ⟨(by first | exact Qo rfl | exact Qq (by decide) | exact Qp | exact Qn _ | exact Qs (by simp) (by rfl) | exact Qr (by simp) (by rfl) (by first | rfl | (simp; done) | (simp; omega)) | exact Qt (by first | rfl | simp)), (by first | exact Qo rfl | exact Qq (by decide) | exact Qp | exact Qn _ | exact Qs (by simp) (by rfl) | exact Qr (by simp) (by rfl) (by first | rfl | (simp; done) | (simp; omega)) | exact Qt (by first | rfl | simp)), (by first | exact Qo rfl | exact Qq (by decide) | exact Qp | exact Qn _ | exact Qs (by simp) (by rfl) | exact Qr (by simp) (by rfl) (by first | rfl | (simp; done) | (simp; omega)) | exact Qt (by first | rfl | simp)), (by first | exact Qo rfl | exact Qq (by decide) | exact Qp | exact Qn _ | exact Qs (by simp) (by rfl) | exact Qr (by simp) (by rfl) (by first | rfl | (simp; done) | (simp; omega)) | exact Qt (by first | rfl | simp)), (Qt rfl), (by first | exact Qo rfl | exact Qq (by decide) | exact Qp | exact Qn _ | exact Qs (by simp) (by rfl) | exact Qr (by simp) (by rfl) (by first | rfl | (simp; done) | (simp; omega)) | exact Qt (by first | rfl | simp)), trivial⟩
     ·exact trivial
     ·simp [wfV, QY, QX, lookR, grow]
     ·simp [wfR]
     rintro m s ⟨kp, kq, hsk, rfl, rfl⟩
     have hskl := congrArg List.length hsk
     simp only [QC] at hskl
     have hcl := cnt_le x kp
     refine JA fun K5 hK5 => ?_
     refine JA fun K6 hK6 => ?_
     refine Qz F_mixed [some 50, some 51, some 52, some 53] rfl ?_
     simp only [zzK, QR, QP, QQ, JC, JE, zz12, F_sl22, Option.isSome_some, zz21, JM, zz22, dues, JN, zz6, QO, ↓Qb]
     refine hK6 _ ?_; try clear hK6 K6
     refine kpA [0, 3, 5, 6, 8, 9, 53] ?_
     refine cnA ?_ ?_
     ·intro hb
      obtain ⟨u, kq2, rfl⟩ : ∃ x t, kq = x :: t := by
       cases kq with
       | nil => have := Qg hb; simp at hskl; omega
       | cons x t => exact ⟨x, t, rfl⟩
      clear hb
      simp only [QF] at hskl
      have gu : ((netV l).map dueC).getD kp.length [] = [iv u.ac.who, iv u.ac.cur, iv u.amt] := by
       rw [hsk, List.map_append]; exact gd_mid' (A := kp.map dueC) _ _ (by simp)
      have bu := ltI (show kp.length < (netV l).length by omega)
      have hwu : Ql .i64 ((kp.length : Int) + 1) = ((kp ++ [u]).length : Int) := by rw [wrapI (by omega) (by omega)]; simp
      have hy : u ∈ netV l := by rw [hsk]; simp
      refine JI ?_
      simp only [zz6, QO, ↓Qb]
      refine hK5 _ ?_; try clear hK5 K5
      refine kpA [0, 3, 5, 6, 8, 9] ?_
      refine JA fun K5 hK5 => ?_
      refine JH ?_
      refine JA fun K6 hK6 => ?_
      refine awp_draw F_mixed [some 56, some 57, some 58, some 59, some 60, some 61, some 62, some 63, some 64, some 65, some 66, some 67, some 68, some 69, some 70, some 71, some 72, some 73, some 74, some 75, some 76, some 77, some 78, some 79] rfl (by kernel_rfl) ?_
      simp only [zzK, QR, QP, QQ, QU, JZ, zz5, Qj, Qi, Qh, JC, JW, zz23, zz24, F_sl22, F_sz30, QA, zzC, yyE, Qe, zz19, F_off30_0, zzH, QN, QS, F_ok3, F_ag3, F_sz3, zz8, zzD, zz21, JM, zz34, F_off30_1, zz13, JQ, JR, dues, gx, bx, gu, bu, JN, ge0, QV, QW, zz6, QO, ↓Qb]
      refine hK6 _ ?_; try clear hK6 K6
      refine kpA [0, 3, 5, 6, 8, 9, 79] ?_
      refine cnA ?_ ?_
      ·intro hb
       have hs : keyS x u = true := by simpa [keyS] using hb
       clear hb
       obtain ⟨ha1, ha2⟩ := net_amt hk hn hx hy hs
       have hcy := cnt_yes hs kp
       have hw8 : Ql .i64 ((cntK x kp : Nat) + 1) = ((cntK x kp + 1 : Nat) : Int) := by rw [wrapI (by omega) (by omega)]; omega
       refine JA fun K7 hK7 => ?_
       refine Qz F_mixed [some 80, some 81, some 8] rfl ?_
       simp only [zzK, QR, QP, QQ, JC, zz21, JM, zz26, JB, hw8, zz6, QO, ↓Qb]
       refine hK7 _ ?_; try clear hK7 K7
       refine kpA [0, 3, 5, 6, 8, 9] ?_
       refine JA fun K7 hK7 => ?_
       refine Qz F_mixed [some 82, some 83, some 84, some 85, some 86, some 87, some 88, some 89, some 90, some 91, some 92] rfl ?_
       simp only [zzK, QR, QP, QQ, QU, JZ, zz5, Qj, Qi, Qh, JC, JW, zz23, zz24, F_sl22, F_sz30, QA, zzC, yyE, Qe, zz19, F_off30_2, zzH, QN, QS, F_ok3, F_ag3, F_sz3, zz8, zzD, zz21, JM, zz28, zz34, zz13, JQ, JR, dues, gu, bu, JN, ge0, QV, QW, zz6, QO, ↓Qb]
       refine hK7 _ ?_; try clear hK7 K7
       refine kpA [0, 3, 5, 6, 8, 9, 92] ?_
       refine cnA ?_ ?_
       ·intro hb
        simp [ha1, ha2] at hb
       ·intro hb
        clear hb
        refine JI ?_
        simp only [zz6, QO, ↓Qb]
        refine hK5 _ ?_; try clear hK5 K5
        refine kpA [0, 3, 5, 6, 8, 9] ?_
        refine Qz F_mixed [some 54, some 55, some 9] rfl ?_
        simp only [zzK, QR, QP, QQ, JC, zz21, JM, zz26, JB, hwu, zz6, QO, ↓Qb]
        refine ⟨kq2.length, _, by simp, le_SK id [] rfl (l' := [(0, .d (dues l)), (3, .d (dues (netV l))), (5, .d (iv pre.length)), (6, .d (iv (sumA x.ac l))), (8, .d (iv (cntK x (kp ++ [u]) : Nat))), (9, .d (iv (kp ++ [u]).length))]) (m' := []) ?_ ?_ ?_ ?_, (kp ++ [u]), kq2, by simp [hsk], rfl, rfl⟩
        ·simp only [leV, JD, QQ, Qd, Qc, hwu, hcy, hw8]; exact ⟨(by first | exact Qo rfl | exact Qq (by decide) | exact Qp | exact Qn _ | exact Qs (by simp) (by rfl) | exact Qr (by simp) (by rfl) (by first | rfl | (simp; done) | (simp; omega)) | exact Qt (by first | rfl | simp)), (by first | exact Qo rfl | exact Qq (by decide) | exact Qp | exact Qn _ | exact Qs (by simp) (by rfl) | exact Qr (by simp) (by rfl) (by first | rfl | (simp; done) | (simp; omega)) | exact Qt (by first | rfl | simp)), (by first | exact Qo rfl | exact Qq (by decide) | exact Qp | exact Qn _ | exact Qs (by simp) (by rfl) | exact Qr (by simp) (by rfl) (by first | rfl | (simp; done) | (simp; omega)) | exact Qt (by first | rfl | simp)), (by first | exact Qo rfl | exact Qq (by decide) | exact Qp | exact Qn _ | exact Qs (by simp) (by rfl) | exact Qr (by simp) (by rfl) (by first | rfl | (simp; done) | (simp; omega)) | exact Qt (by first | rfl | simp)), (by first | exact Qo rfl | exact Qq (by decide) | exact Qp | exact Qn _ | exact Qs (by simp) (by rfl) | exact Qr (by simp) (by rfl) (by first | rfl | (simp; done) | (simp; omega)) | exact Qt (by first | rfl | simp)), (by first | exact Qo rfl | exact Qq (by decide) | exact Qp | exact Qn _ | exact Qs (by simp) (by rfl) | exact Qr (by simp) (by rfl) (by first | rfl | (simp; done) | (simp; omega)) | exact Qt (by first | rfl | simp)), trivial⟩
        ·exact trivial
        ·simp [wfV, QY, QX, lookR, grow]
        ·simp [wfR]
      ·intro hb
       have hs : keyS x u = false := by simpa [keyS] using hb
       clear hb
       have hcy := cnt_no hs kp
       refine JI ?_
       simp only [zz6, QO, ↓Qb]
       refine hK5 _ ?_; try clear hK5 K5
       refine kpA [0, 3, 5, 6, 8, 9] ?_
       refine Qz F_mixed [some 54, some 55, some 9] rfl ?_
       simp only [zzK, QR, QP, QQ, JC, zz21, JM, zz26, JB, hwu, zz6, QO, ↓Qb]
       refine ⟨kq2.length, _, by simp, le_SK id [] rfl (l' := [(0, .d (dues l)), (3, .d (dues (netV l))), (5, .d (iv pre.length)), (6, .d (iv (sumA x.ac l))), (8, .d (iv (cntK x (kp ++ [u]) : Nat))), (9, .d (iv (kp ++ [u]).length))]) (m' := []) ?_ ?_ ?_ ?_, (kp ++ [u]), kq2, by simp [hsk], rfl, rfl⟩
       ·simp only [leV, JD, QQ, Qd, Qc, hwu, hcy]; exact ⟨(by first | exact Qo rfl | exact Qq (by decide) | exact Qp | exact Qn _ | exact Qs (by simp) (by rfl) | exact Qr (by simp) (by rfl) (by first | rfl | (simp; done) | (simp; omega)) | exact Qt (by first | rfl | simp)), (by first | exact Qo rfl | exact Qq (by decide) | exact Qp | exact Qn _ | exact Qs (by simp) (by rfl) | exact Qr (by simp) (by rfl) (by first | rfl | (simp; done) | (simp; omega)) | exact Qt (by first | rfl | simp)), (by first | exact Qo rfl | exact Qq (by decide) | exact Qp | exact Qn _ | exact Qs (by simp) (by rfl) | exact Qr (by simp) (by rfl) (by first | rfl | (simp; done) | (simp; omega)) | exact Qt (by first | rfl | simp)), (by first | exact Qo rfl | exact Qq (by decide) | exact Qp | exact Qn _ | exact Qs (by simp) (by rfl) | exact Qr (by simp) (by rfl) (by first | rfl | (simp; done) | (simp; omega)) | exact Qt (by first | rfl | simp)), (by first | exact Qo rfl | exact Qq (by decide) | exact Qp | exact Qn _ | exact Qs (by simp) (by rfl) | exact Qr (by simp) (by rfl) (by first | rfl | (simp; done) | (simp; omega)) | exact Qt (by first | rfl | simp)), (by first | exact Qo rfl | exact Qq (by decide) | exact Qp | exact Qn _ | exact Qs (by simp) (by rfl) | exact Qr (by simp) (by rfl) (by first | rfl | (simp; done) | (simp; omega)) | exact Qt (by first | rfl | simp)), trivial⟩
       ·exact trivial
       ·simp [wfV, QY, QX, lookR, grow]
       ·simp [wfR]
     ·intro hb
      obtain rfl : kq = [] := by
       cases kq with
       | nil => rfl
       | cons x t => have := Qf hb; simp at hskl; omega
      clear hb
      simp only [QG] at hsk
      rw [← hsk]
      refine awp_exit ?_
      simp only [zz6, QO, ↓Qb]
      refine hK3 _ ?_; try clear hK3 K3
      refine kpA [0, 3, 5, 6, 8] ?_
      refine JA fun K3 hK3 => ?_
      refine Qz F_mixed [some 93, some 94, some 95, some 96, some 97, some 98, some 99, some 100, some 101] rfl ?_
      simp only [zzK, QR, QP, QQ, QU, JZ, zz5, Qj, Qi, Qh, and_self, JC, zz21, JM, zz34, zz28, b_neqb, pure_neqb F_bool4, zz25, zz13, JQ, JR, zz6, QO, ↓Qb]
      refine hK3 _ ?_; try clear hK3 K3
      refine kpA [0, 3, 5, 101] ?_
      refine cnA ?_ ?_
      ·intro hb
       rcases hc with ⟨q1, q2⟩ | ⟨q1, q2⟩ <;> simp [q1, q2] at hb
      ·intro hb
       clear hb
       refine JI ?_
       simp only [zz6, QO, ↓Qb]
       refine hK2 _ ?_; try clear hK2 K2
       refine kpA [0, 3, 5] ?_
       refine Qz F_mixed [some 31, some 32, some 5] rfl ?_
       simp only [zzK, QR, QP, QQ, JC, zz21, JM, zz26, JB, hwx, zz6, QO, ↓Qb]
       refine ⟨post2.length, _, by simp, le_SK id [] rfl (l' := [(0, .d (dues l)), (3, .d (dues (netV l))), (5, .d (iv (pre ++ [x]).length))]) (m' := []) ?_ ?_ ?_ ?_, (pre ++ [x]), post2, by simp [hsp], rfl, rfl⟩
       ·simp only [leV, JD, QQ, Qd, Qc, hwx]; exact ⟨(by first | exact Qo rfl | exact Qq (by decide) | exact Qp | exact Qn _ | exact Qs (by simp) (by rfl) | exact Qr (by simp) (by rfl) (by first | rfl | (simp; done) | (simp; omega)) | exact Qt (by first | rfl | simp)), (by first | exact Qo rfl | exact Qq (by decide) | exact Qp | exact Qn _ | exact Qs (by simp) (by rfl) | exact Qr (by simp) (by rfl) (by first | rfl | (simp; done) | (simp; omega)) | exact Qt (by first | rfl | simp)), (by first | exact Qo rfl | exact Qq (by decide) | exact Qp | exact Qn _ | exact Qs (by simp) (by rfl) | exact Qr (by simp) (by rfl) (by first | rfl | (simp; done) | (simp; omega)) | exact Qt (by first | rfl | simp)), trivial⟩
       ·exact trivial
       ·simp [wfV, QY, QX, lookR, grow]
       ·simp [wfR]
   ·intro hb
    obtain rfl : post = [] := by
     cases post with
     | nil => rfl
     | cons x t => have := Qf hb; simp at hspl; omega
    clear hb
    simp only [QG] at hsp
    clear hsp
    refine awp_exit ?_
    simp only [zz6, QO, ↓Qb]
    refine hK0 _ ?_; try clear hK0 K0
    refine kpA [0, 3] ?_
    refine JA fun K0 hK0 => ?_
    refine JA fun K1 hK1 => ?_
    refine Qz F_mixed [some 10] rfl ?_
    simp only [zzK, QR, QP, QQ, JB, zz6, QO, ↓Qb]
    refine hK1 _ ?_; try clear hK1 K1
    refine kpA [0, 3, 10] ?_
    refine JH ?_
    refine awp_loop (fun m s => ∃ (i : Nat), (1 ≤ i) ∧ m = (netV l).length + 1 - i ∧ s = S 156 [(0, .d (dues l)), (3, .d (dues (netV l))), (10, .d (iv ((i : Nat) : Int)))] []) ((netV l).length) _ (le_SK id [] rfl (l' := [(0, .d (dues l)), (3, .d (dues (netV l))), (10, .d (iv ((1 : Nat) : Int)))]) (m' := []) ?_ ?_ ?_ ?_) ⟨1, Nat.le_refl 1, rfl, rfl⟩ ?_
    ·simp only [leV, JD, QQ, Qd, Qc]; exact ⟨(by first | exact Qo rfl | exact Qq (by decide) | exact Qp | exact Qn _ | exact Qs (by simp) (by rfl) | exact Qr (by simp) (by rfl) (by first | rfl | (simp; done) | (simp; omega)) | exact Qt (by first | rfl | simp)), (by first | exact Qo rfl | exact Qq (by decide) | exact Qp | exact Qn _ | exact Qs (by simp) (by rfl) | exact Qr (by simp) (by rfl) (by first | rfl | (simp; done) | (simp; omega)) | exact Qt (by first | rfl | simp)), (Qt rfl), trivial⟩
    ·exact trivial
    ·simp [wfV, QY, QX, lookR, grow]
    ·simp [wfR]
    rintro m s ⟨i, hi1, rfl, rfl⟩
    refine JA fun K2 hK2 => ?_
    refine JA fun K3 hK3 => ?_
    refine Qz F_mixed [some 102, some 103, some 104, some 105] rfl ?_
    simp only [zzK, QR, QP, QQ, JC, JE, zz12, F_sl22, Option.isSome_some, zz21, JM, zz22, dues, JN, zz6, QO, ↓Qb]
    refine hK3 _ ?_; try clear hK3 K3
    refine kpA [0, 3, 10, 105] ?_
    refine cnA ?_ ?_
    ·intro hb
     have hi : i < (netV l).length := by have := Qg hb; omega
     clear hb
     obtain ⟨A, u, v, B, hS, hA⟩ := two_at (S := netV l) hi1 hi
     have gu : ((netV l).map dueC).getD (i - 1) [] = [iv u.ac.who, iv u.ac.cur, iv u.amt] := due_at (B := v :: B) hS hA.symm
     have gv : ((netV l).map dueC).getD i [] = [iv v.ac.who, iv v.ac.cur, iv v.amt] := due_at (A := A ++ [u]) (B := B) (by rw [hS]; simp) (by simp; omega)
     have hlt := asc_next (nA hn) (nK hk) hS
     have bu := ltI (show i - 1 < (netV l).length by omega)
     have bv_ := ltI hi
     have hwm : Ql .i64 ((i : Int) - 1) = ((i - 1 : Nat) : Int) := by rw [wrapI (by omega) (by omega)]; omega
     have hwi : Ql .i64 ((i : Int) + 1) = ((i + 1 : Nat) : Int) := by rw [wrapI (by omega) (by omega)]; omega
     refine JI ?_
     simp only [zz6, QO, ↓Qb]
     refine hK2 _ ?_; try clear hK2 K2
     refine kpA [0, 3, 10] ?_
     refine JA fun K2 hK2 => ?_
     refine JH ?_
     refine JA fun K3 hK3 => ?_
     refine awp_draw F_mixed [some 108, some 109, some 110, some 111, some 112, some 113, some 114, some 115, some 116, some 117, some 118, some 119, some 120, some 121, some 122, some 123, some 124, some 125, some 126, some 127, some 128, some 129, some 130, some 131, some 132, some 133, some 134, some 135, some 136, some 137, some 138, some 139, some 140, some 141, some 142, some 143, some 144, some 145, some 146, some 147] rfl (by kernel_rfl) ?_
     simp only [zzK, QR, QP, QQ, QU, JZ, zz5, Qj, Qi, Qh, JC, zz21, JM, zz33, JW, zz23, zz24, F_sl22, F_sz30, QA, zzC, yyE, Qe, zz19, F_off30_0, zzH, QN, QS, F_ok3, F_ag3, F_sz3, zz8, zzD, zz25, zz34, F_off30_1, zz31, zz13, JQ, JR, dues, gu, gv, bu, bv_, hwm, JN, ge0, QV, QW, zz6, QO, ↓Qb]
     refine hK3 _ ?_; try clear hK3 K3
     refine kpA [0, 3, 10, 147] ?_
     refine cnA ?_ ?_
     ·intro hb
      exfalso
      simp at hb
      omega
     ·intro hb
      clear hb
      refine JI ?_
      simp only [zz6, QO, ↓Qb]
      refine hK2 _ ?_; try clear hK2 K2
      refine kpA [0, 3, 10] ?_
      refine Qz F_mixed [some 106, some 107, some 10] rfl ?_
      simp only [zzK, QR, QP, QQ, JC, zz21, JM, zz26, JB, hwi, zz6, QO, ↓Qb]
      refine ⟨(netV l).length + 1 - (i + 1), _, by omega, le_SK id [] rfl (l' := [(0, .d (dues l)), (3, .d (dues (netV l))), (10, .d (iv (((i + 1) : Nat) : Int)))]) (m' := []) ?_ ?_ ?_ ?_, (i + 1), by omega, rfl, rfl⟩
      ·simp only [leV, JD, QQ, Qd, Qc, hwi]; exact ⟨(by first | exact Qo rfl | exact Qq (by decide) | exact Qp | exact Qn _ | exact Qs (by simp) (by rfl) | exact Qr (by simp) (by rfl) (by first | rfl | (simp; done) | (simp; omega)) | exact Qt (by first | rfl | simp)), (by first | exact Qo rfl | exact Qq (by decide) | exact Qp | exact Qn _ | exact Qs (by simp) (by rfl) | exact Qr (by simp) (by rfl) (by first | rfl | (simp; done) | (simp; omega)) | exact Qt (by first | rfl | simp)), (by first | exact Qo rfl | exact Qq (by decide) | exact Qp | exact Qn _ | exact Qs (by simp) (by rfl) | exact Qr (by simp) (by rfl) (by first | rfl | (simp; done) | (simp; omega)) | exact Qt (by first | rfl | simp)), trivial⟩
      ·exact trivial
      ·simp [wfV, QY, QX, lookR, grow]
      ·simp [wfR]
    ·intro hb
     clear hb
     have hle : decide ((((netV l).length : Nat) : Int) ≤ (l.length : Int)) = true := decide_eq_true (by omega)
     refine awp_exit ?_
     simp only [zz6, QO, ↓Qb]
     refine hK0 _ ?_; try clear hK0 K0
     refine kpA [0, 3] ?_
     refine JA fun K0 hK0 => ?_
     refine Qz F_mixed [some 148, some 149, some 150, some 151, some 152, some 153, some 154, some 155, some 2] rfl ?_
     simp only [zzK, QR, QP, QQ, QU, JZ, zz5, Qj, Qi, Qh, and_self, JC, JE, zz12, F_sl22, Option.isSome_some, zz21, JM, b_leq, pure_leq, JF, zz13, JQ, JR, JB, dues, JN, hle, zz6, QO, ↓Qb]
     refine JT F_go9 (fun hG => wakes17_) (by simp [QY, QX]) (by simp) ?_
     simp only [zzK, QR, QP, QQ, QU, JZ, zz5, Qj, Qi, Qh, and_self, JC, JE, zz12, F_sl22, Option.isSome_some, zz21, JM, b_leq, pure_leq, JF, zz13, JQ, JR, JB, dues, JN, hle, zz6, QO, ↓Qb, atsL, oksG, freeN, QZ, Qa, JO, Qm, QT, QS, zz9, QB, QA, zzC, yyF, zzD, zz2]
     refine hK0 _ ?_; try clear hK0 K0
     refine kpA [2] ?_
     refine awp_ret ?_
     simp only [zz6, QO, ↓Qb]
     refine dnA ?_
     simp only [QD, QE, resA, JZ, QR, QP, JD, QQ, Qd, Qc, resAll]
     try simp
theorem netSums2_ (l : List DueV) : ACalls Try.prog 3 [.sl 3 (l.map dueC2)] [] (bv true) := by
 have e := netSums_ (l.map dueL) (dueL_k l)
 rwa [dueL_d] at e

end Go.Proofs.Ytcpkhnciplfmkaa
