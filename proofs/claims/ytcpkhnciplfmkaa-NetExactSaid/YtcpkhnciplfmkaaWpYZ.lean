/- Joined texts. No condition. -/
import Derived.Test.YtcpkhnciplfmkaaWpWX
namespace Go.Proofs.Ytcpkhnciplfmkaa
open Go.RowKit
set_option linter.unusedVariables false
set_option linter.unusedSimpArgs false
open Option renaming map_some → QA, bind_some → QB
open List renaming length_append → QC, map_cons → QD, map_nil → QE, length_cons → QF, append_nil → QG
open Nat renaming zero_add → QN, reduceEqDiff → QO, reduceLeDiff → QP, reduceBEq → QQ, reduceLT → QR, reduceAdd → QS, reduceMul → QT, reduceSub → QU
open Int renaming toNat_natCast → QV
open D.agg renaming injEq → QW
open AV renaming idsL → QX, ids → QY, ren → QZ, renL → Qa
open _root_ renaming reduceIte → Qb, cond_false → Qc, cond_true → Qd, reduceCtorEq → Qe, of_decide_eq_false → Qf, of_decide_eq_true → Qg, imp_self → Qh, imp_and → Qi, and_imp → Qj
open IntKind renaming wrap → Ql
open ORow renaming row → Qm
open VLe renaming refl → Qn, still → Qo, nild_ → Qp, nil_ → Qq, refE → Qr, ptrE → Qs, dE → Qt
open RowLe renaming same → Qu, still → Qv, data_ → Qw
open Go.Proofs.Ytcpkhnciplfmkaa renaming awp_plain → Qz, awp_seq → JA, evS_assign → JB, evS_move → JC, look_cons → JD, evS_call → JE, evC_value → JF, awp_block → JH, awp_skip → JI, awp_ret → JJ, awp_loop → JL, gr_v → JM, len_map → JN, addRows → JO, resAll → JP, pickK_l → JQ, pickK_r → JR, newRow1 → JS, call_go → JT, freeN → JV, evS_indexAddr → JW, S_getD → JZ, flatD → Jc
theorem F_go31 : goFn Try.prog 31 := ⟨_, Try.func31, rfl, rfl⟩
theorem F_go32 : goFn Try.prog 32 := ⟨_, Try.func32, rfl, rfl⟩
theorem F_go15 : goFn Try.prog 15 := ⟨_, Try.func15, rfl, rfl⟩
theorem rMoney_ (l : List LegV) (hl : l.length ≤ 1000000) : ACalls Try.prog 31 [dues l] [] (bv (rtOk l)) := by
 refine acalls_S (rs := [.tmp 2]) Try.func31 rfl rfl 17 [(0, .d (dues l))] rfl (by simp) rfl ?_
 refine JA fun K0 hK0 => ?_
 refine Qz F_mixed [some 2] rfl ?_
 simp only [zzK, QR, QP, QQ, JB, zz6, QO, ↓Qb]
 refine hK0 _ ?_; try clear hK0 K0
 refine kpA [0] ?_
 refine JA fun K0 hK0 => ?_
 refine JA fun K1 hK1 => ?_
 refine Qz F_mixed [some 3] rfl ?_
 simp only [zzK, QR, QP, QQ, JB, zz6, QO, ↓Qb]
 refine hK1 _ ?_; try clear hK1 K1
 refine kpA [0, 3] ?_
 refine JH ?_
 refine JL (fun m s => ∃ (pre : List LegV) (post : List LegV), (l = pre ++ post) ∧ (rtOk pre = true) ∧ m = post.length ∧ s = S 17 [(0, .d (dues l)), (3, .d (iv pre.length))] []) (l.length) _ (le_SK id [] rfl (l' := [(0, .d (dues l)), (3, .d (iv [].length))]) (m' := []) ?_ ?_ ?_ ?_) ⟨[], l, rfl, rfl, rfl, rfl⟩ ?_
 ·simp only [leV, JD, QQ, Qd, Qc]; exact ⟨(by first | exact Qo rfl | exact Qq (by decide) | exact Qp | exact Qn _ | exact Qs (by simp) (by rfl) | exact Qr (by simp) (by rfl) (by first | rfl | (simp; done) | (simp; omega)) | exact Qt (by first | rfl | simp)), (by first | exact Qo rfl | exact Qq (by decide) | exact Qp | exact Qn _ | exact Qs (by simp) (by rfl) | exact Qr (by simp) (by rfl) (by first | rfl | (simp; done) | (simp; omega)) | exact Qt (by first | rfl | simp)), trivial⟩
 ·exact trivial
 ·simp [wfV, QY, QX, lookR, grow]
 ·simp [wfR]
 rintro m s ⟨pre, post, hsp, hpa, rfl, rfl⟩
 have hspl := congrArg List.length hsp
 simp only [QC] at hspl
 refine JA fun K2 hK2 => ?_
 refine JA fun K3 hK3 => ?_
 refine Qz F_mixed [some 4, some 5, some 6, some 7] rfl ?_
 simp only [zzK, QR, QP, QQ, JC, JE, zz12, F_sl22, Option.isSome_some, zz21, JM, zz22, dues, JN, zz6, QO, ↓Qb]
 refine hK3 _ ?_; try clear hK3 K3
 refine kpA [0, 3, 7] ?_
 refine cnA ?_ ?_
 ·intro hb
  obtain ⟨x, post2, rfl⟩ : ∃ x t, post = x :: t := by
   cases post with
   | nil => have := Qg hb; simp at hspl; omega
   | cons x t => exact ⟨x, t, rfl⟩
  clear hb
  simp only [QF] at hspl
  have gx : (l.map dueC).getD pre.length [] = [iv x.ac.who, iv x.ac.cur, iv x.amt] := by
   rw [hsp, List.map_append]; exact gd_mid' (A := pre.map dueC) _ _ (by simp)
  have bx := ltI (show pre.length < l.length by omega)
  have hwx : Ql .i64 ((pre.length : Int) + 1) = ((pre ++ [x]).length : Int) := by rw [wrapI (by omega) (by omega)]; simp
  refine JI ?_
  simp only [zz6, QO, ↓Qb]
  refine hK2 _ ?_; try clear hK2 K2
  refine kpA [0, 3] ?_
  refine JA fun K2 hK2 => ?_
  refine JH ?_
  refine JA fun K3 hK3 => ?_
  refine Qz F_mixed [some 10, some 11, some 12, some 13, some 14, some 15, some 16] rfl ?_
  simp only [zzK, QR, QP, QQ, JC, JW, zz23, zz24, F_sl22, F_sz30, QA, zzC, yyE, Qe, zz19, F_off30_2, zzH, QN, QS, F_ok3, F_ag3, F_sz3, zz8, zzD, JE, JF, zz29, JM, zz30, dues, gx, bx, hwx, JN, ge0, QV, QW, zz6, QO, ↓Qb]
  refine JT F_go47 (fun hG => rRight_ x.amt) (by simp [QY, QX]) (by simp) ?_
  simp only [zzK, QR, QP, QQ, JC, JW, zz23, zz24, F_sl22, F_sz30, QA, zzC, yyE, Qe, zz19, F_off30_2, zzH, QN, QS, F_ok3, F_ag3, F_sz3, zz8, zzD, JE, JF, zz29, JM, zz30, dues, gx, bx, hwx, JN, ge0, QV, QW, zz6, QO, ↓Qb, atsL, oksG, JV, QZ, Qa, JO, Qm, QT, QS, zz9, QB, QA, S_mem, yyF, QF, zz2]
  refine hK3 _ ?_; try clear hK3 K3
  refine kpA [0, 3, 16] ?_
  refine cnA ?_ ?_
  ·intro hb
   have hq : rightN x.amt = false := by simpa using hb
   clear hb
   have e : rtOk l = false := by rw [hsp, rtOk_app, hpa]; simp [rtOk, hq]
   refine JA fun K4 hK4 => ?_
   refine Qz F_mixed [some 2] rfl ?_
   simp only [zzK, QR, QP, QQ, JB, zz6, QO, ↓Qb]
   refine hK4 _ ?_; try clear hK4 K4
   refine kpA [2] ?_
   refine JJ ?_
   simp only [zz6, QO, ↓Qb]
   refine dnA ?_
   simp only [QD, QE, resA, JZ, QR, QP, JD, QQ, Qd, Qc, JP]
   rw [e]
  ·intro hb
   have hq : rightN x.amt = true := by simpa using hb
   clear hb
   refine JI ?_
   simp only [zz6, QO, ↓Qb]
   refine hK2 _ ?_; try clear hK2 K2
   refine kpA [0, 3] ?_
   refine Qz F_mixed [some 8, some 9, some 3] rfl ?_
   simp only [zzK, QR, QP, QQ, JC, zz21, JM, zz26, JB, hwx, zz6, QO, ↓Qb]
   refine ⟨post2.length, _, by simp, le_SK id [] rfl (l' := [(0, .d (dues l)), (3, .d (iv (pre ++ [x]).length))]) (m' := []) ?_ ?_ ?_ ?_, (pre ++ [x]), post2, by simp [hsp], by rw [rtOk_app, hpa]; simpa [rtOk] using hq, rfl, rfl⟩
   ·simp only [leV, JD, QQ, Qd, Qc, hwx]; exact ⟨(by first | exact Qo rfl | exact Qq (by decide) | exact Qp | exact Qn _ | exact Qs (by simp) (by rfl) | exact Qr (by simp) (by rfl) (by first | rfl | (simp; done) | (simp; omega)) | exact Qt (by first | rfl | simp)), (by first | exact Qo rfl | exact Qq (by decide) | exact Qp | exact Qn _ | exact Qs (by simp) (by rfl) | exact Qr (by simp) (by rfl) (by first | rfl | (simp; done) | (simp; omega)) | exact Qt (by first | rfl | simp)), trivial⟩
   ·exact trivial
   ·simp [wfV, QY, QX, lookR, grow]
   ·simp [wfR]
 ·intro hb
  obtain rfl : post = [] := by
   cases post with
   | nil => rfl
   | cons x t => have := Qf hb; simp at hspl; omega
  clear hb
  simp only [QG] at hsp
  subst hsp
  refine awp_exit ?_
  simp only [zz6, QO, ↓Qb]
  refine hK0 _ ?_; try clear hK0 K0
  refine kpA [] ?_
  refine JA fun K0 hK0 => ?_
  refine Qz F_mixed [some 2] rfl ?_
  simp only [zzK, QR, QP, QQ, JB, zz6, QO, ↓Qb]
  refine hK0 _ ?_; try clear hK0 K0
  refine kpA [2] ?_
  refine JJ ?_
  simp only [zz6, QO, ↓Qb]
  refine dnA ?_
  simp only [QD, QE, resA, JZ, QR, QP, JD, QQ, Qd, Qc, JP]
  rw [hpa]
theorem rdLess_ (a b : LegV) : ACalls Try.prog 32 [.agg (dueC a), .agg (dueC b)] [] (bv (dLt a b)) := by
 refine acalls_S (rs := [.tmp 4]) Try.func32 rfl rfl 24 [(0, .d (.agg (dueC a))), (1, .d (.agg (dueC b)))] rfl (by simp) rfl ?_
 refine JA fun K0 hK0 => ?_
 refine Qz F_mixed [some 2, some 3, some 4] rfl ?_
 simp only [zzK, QR, QP, QQ, zz35, JS, zz1, zzG, zzD, zzC, QA, yyE, Qe, QS, QN, zzH, JB, dueC, zz6, QO, ↓Qb]
 refine hK0 _ ?_; try clear hK0 K0
 refine kpA [2, 3] ?_
 refine JA fun K0 hK0 => ?_
 refine Qz F_mixed [some 5, some 6, some 7, some 8, some 9, some 10, some 11, some 12, some 13, some 14, some 15, some 16, some 17, some 18, some 19, some 20, some 21, some 22, some 23, some 4] rfl ?_
 simp only [zzK, QR, QP, QQ, QU, JZ, zz5, Qj, Qi, Qh, zz19, zz23, F_off30_0, zzH, QN, QS, F_ok3, F_ag3, F_sz3, zz8, zzD, zzC, QA, yyE, Qe, zz21, JM, zz22, JC, zz34, F_off30_1, zz13, JQ, JR, JB, zz6, QO, ↓Qb]
 refine hK0 _ ?_; try clear hK0 K0
 refine kpA [4] ?_
 refine JJ ?_
 simp only [zz6, QO, ↓Qb]
 refine dnA ?_
 simp only [QD, QE, resA, JZ, QR, QP, JD, QQ, Qd, Qc, JP]
 rw [dLt_eq]
theorem rGross_ (w c : Int) (l : List LegV) (hl : l.length ≤ 1000000) : ACalls Try.prog 15 [iv w, iv c, dues l] [] (.tp [.d (iv (grV w c l)), .d (iv (grE w c l))]) := by
 refine acalls_S (rs := [.tmp 6, .tmp 7]) Try.func15 rfl rfl 53 [(0, .d (iv w)), (1, .d (iv c)), (2, .d (dues l))] rfl (by simp) rfl ?_
 refine JA fun K0 hK0 => ?_
 refine Qz F_mixed [some 6, some 7] rfl ?_
 simp only [zzK, QR, QP, QQ, JB, zz6, QO, ↓Qb]
 refine hK0 _ ?_; try clear hK0 K0
 refine kpA [0, 1, 2] ?_
 refine JA fun K0 hK0 => ?_
 refine JA fun K1 hK1 => ?_
 refine Qz F_mixed [some 12, some 13, some 14] rfl ?_
 simp only [zzK, QR, QP, QQ, JC, JE, JF, zz29, JM, zz30, dues, zz6, QO, ↓Qb]
 refine JT F_go31 (fun hG => rMoney_ l hl) (by simp [QY, QX]) (by simp) ?_
 simp only [zzK, QR, QP, QQ, JC, JE, JF, zz29, JM, zz30, dues, zz6, QO, ↓Qb, atsL, oksG, JV, QZ, Qa, JO, Qm, QT, QS, zz9, QB, QA, zzC, yyF, zzD, zz2]
 refine hK1 _ ?_; try clear hK1 K1
 refine kpA [0, 1, 2, 14] ?_
 refine cnA ?_ ?_
 ·intro hb
  have hr : rtOk l = false := by simpa using hb
  clear hb
  refine JA fun K2 hK2 => ?_
  refine Qz F_mixed [some 6, some 7] rfl ?_
  simp only [zzK, QR, QP, QQ, JB, zz6, QO, ↓Qb]
  refine hK2 _ ?_; try clear hK2 K2
  refine kpA [6, 7] ?_
  refine JJ ?_
  simp only [zz6, QO, ↓Qb]
  refine dnA ?_
  simp only [QD, QE, resA, JZ, QR, QP, JD, QQ, Qd, Qc, JP]
  simp only [grV, grE, hr, Qc]
 ·intro hb
  have hr : rtOk l = true := by simpa using hb
  clear hb
  refine JI ?_
  simp only [zz6, QO, ↓Qb]
  refine hK0 _ ?_; try clear hK0 K0
  refine kpA [0, 1, 2] ?_
  refine JA fun K0 hK0 => ?_
  refine Qz F_mixed [some 8] rfl ?_
  simp only [zzK, QR, QP, QQ, JB, zz6, QO, ↓Qb]
  refine hK0 _ ?_; try clear hK0 K0
  refine kpA [0, 1, 2, 8] ?_
  refine JA fun K0 hK0 => ?_
  refine JA fun K1 hK1 => ?_
  refine Qz F_mixed [some 9] rfl ?_
  simp only [zzK, QR, QP, QQ, JB, zz6, QO, ↓Qb]
  refine hK1 _ ?_; try clear hK1 K1
  refine kpA [0, 1, 2, 8, 9] ?_
  refine JH ?_
  refine JL (fun m s => ∃ (pre : List LegV) (post : List LegV), (l = pre ++ post) ∧ m = post.length ∧ s = S 53 [(0, .d (iv w)), (1, .d (iv c)), (2, .d (dues l)), (8, .ref 8 (amts (ofKey w c pre)).length), (9, .d (iv pre.length))] [(8, grow 3 1 8 ((amts (ofKey w c pre)).map fun n => [iv n]))]) (l.length) _ (le_SK id [8] rfl (l' := [(0, .d (iv w)), (1, .d (iv c)), (2, .d (dues l)), (8, .ref 8 (amts (ofKey w c [])).length), (9, .d (iv [].length))]) (m' := [(8, grow 3 1 8 ((amts (ofKey w c [])).map fun n => [iv n]))]) ?_ ?_ ?_ ?_) ⟨[], l, rfl, rfl, rfl⟩ ?_
  ·simp only [leV, JD, QQ, Qd, Qc]; exact ⟨(by first | exact Qo rfl | exact Qq (by decide) | exact Qp | exact Qn _ | exact Qs (by simp) (by rfl) | exact Qr (by simp) (by rfl) (by first | rfl | (simp; done) | (simp; omega)) | exact Qt (by first | rfl | simp)), (by first | exact Qo rfl | exact Qq (by decide) | exact Qp | exact Qn _ | exact Qs (by simp) (by rfl) | exact Qr (by simp) (by rfl) (by first | rfl | (simp; done) | (simp; omega)) | exact Qt (by first | rfl | simp)), (by first | exact Qo rfl | exact Qq (by decide) | exact Qp | exact Qn _ | exact Qs (by simp) (by rfl) | exact Qr (by simp) (by rfl) (by first | rfl | (simp; done) | (simp; omega)) | exact Qt (by first | rfl | simp)), (by first | exact Qo rfl | exact Qq (by decide) | exact Qp | exact Qn _ | exact Qs (by simp) (by rfl) | exact Qr (by simp) (by rfl) (by first | rfl | (simp; done) | (simp; omega)) | exact Qt (by first | rfl | simp)), (by first | exact Qo rfl | exact Qq (by decide) | exact Qp | exact Qn _ | exact Qs (by simp) (by rfl) | exact Qr (by simp) (by rfl) (by first | rfl | (simp; done) | (simp; omega)) | exact Qt (by first | rfl | simp)), trivial⟩
  ·exact ⟨fun h => by simp at h, fun _ => rfl, trivial⟩
  ·simp [wfV, QY, QX, lookR, grow]
  ·exact ⟨wf_data _ _, trivial⟩
  rintro m s ⟨pre, post, hsp, rfl, rfl⟩
  have hspl := congrArg List.length hsp
  simp only [QC] at hspl
  have hql := amts_key_len w c pre
  refine JA fun K2 hK2 => ?_
  refine JA fun K3 hK3 => ?_
  refine Qz F_mixed [some 15, some 16, some 17, some 18] rfl ?_
  simp only [zzK, QR, QP, QQ, JC, JE, zz12, F_sl22, Option.isSome_some, zz21, JM, zz22, dues, JN, zz6, QO, ↓Qb]
  refine hK3 _ ?_; try clear hK3 K3
  refine kpA [0, 1, 2, 8, 9, 18] ?_
  refine cnA ?_ ?_
  ·intro hb
   obtain ⟨x, post2, rfl⟩ : ∃ x t, post = x :: t := by
    cases post with
    | nil => have := Qg hb; simp at hspl; omega
    | cons x t => exact ⟨x, t, rfl⟩
   clear hb
   simp only [QF] at hspl
   have gx : (l.map dueC).getD pre.length [] = [iv x.ac.who, iv x.ac.cur, iv x.amt] := by
    rw [hsp, List.map_append]; exact gd_mid' (A := pre.map dueC) _ _ (by simp)
   have bx := ltI (show pre.length < l.length by omega)
   have hwx : Ql .i64 ((pre.length : Int) + 1) = ((pre ++ [x]).length : Int) := by rw [wrapI (by omega) (by omega)]; simp
   refine JI ?_
   simp only [zz6, QO, ↓Qb]
   refine hK2 _ ?_; try clear hK2 K2
   refine kpA [0, 1, 2, 8, 9] ?_
   refine JA fun K2 hK2 => ?_
   refine JH ?_
   refine JA fun K3 hK3 => ?_
   refine Qz F_mixed [some 21, some 22, some 23, some 24, some 25, some 26, some 27, some 28, some 29, some 30, some 31, some 32, some 33, some 34, some 35, some 36] rfl ?_
   simp only [zzK, QR, QP, QQ, QU, JZ, zz5, Qj, Qi, Qh, JC, JW, zz23, zz24, F_sl22, F_sz30, QA, zzC, yyE, Qe, zz19, F_off30_0, zzH, QN, QS, F_ok3, F_ag3, F_sz3, zz8, zzD, zz21, JM, zz34, F_off30_1, zz13, JQ, JR, dues, gx, bx, hwx, JN, ge0, QV, QW, zz6, QO, ↓Qb]
   refine hK3 _ ?_; try clear hK3 K3
   refine kpA [0, 1, 2, 8, 9, 36] ?_
   refine cnA ?_ ?_
   ·intro hb
    have hs : (x.ac.who == w && x.ac.cur == c) = true := by simpa using hb
    clear hb
    have hkl := key_yes hs pre
    refine Qz F_mixed [some 37, some 38, some 39, some 40, some 41, some 42, some 43, some 44, some 8] rfl ?_
    simp only [zzK, QR, QP, QQ, JC, JW, zz23, zz24, F_sl22, F_sz30, QA, zzC, yyE, Qe, zz19, F_off30_2, zzH, QN, QS, F_ok3, F_ag3, F_sz3, zz8, zzD, F_sl57, F_zero3, zz3, JS, zz1, zzG, maxLen_le, QT, JE, F_by3, zz4, zz9, QB, JB, dues, gx, bx, JN, ge0, QV, grow, unDs_map, QW, zz6, QO, ↓Qb]
    have hm : (amts (ofKey w c pre)).length + 1 ≤ 1000000 := by first | omega | (simp; omega)
    first | refine ⟨le_maxLen hm, by omega, ?_⟩ | refine ⟨by simp, le_maxLen hm, by omega, ?_⟩
    clear hm
    refine hK2 _ ?_; try clear hK2 K2
    refine kpA [0, 1, 2, 8, 9] ?_
    refine Qz F_mixed [some 19, some 20, some 9] rfl ?_
    simp only [zzK, QR, QP, QQ, JC, zz21, JM, zz26, JB, hwx, zz6, QO, ↓Qb]
    refine ⟨post2.length, _, by simp, le_SK (fun r => bif r == 8 then 44 else r) [] rfl (l' := [(0, .d (iv w)), (1, .d (iv c)), (2, .d (dues l)), (8, .ref 8 (amts (ofKey w c (pre ++ [x]))).length), (9, .d (iv (pre ++ [x]).length))]) (m' := [(8, grow 3 1 8 ((amts (ofKey w c (pre ++ [x]))).map fun n => [iv n]))]) ?_ ?_ ?_ ?_, (pre ++ [x]), post2, by simp [hsp], rfl, rfl⟩
    ·simp only [leV, JD, QQ, Qd, Qc, hwx, hkl]; exact ⟨(by first | exact Qo rfl | exact Qq (by decide) | exact Qp | exact Qn _ | exact Qs (by simp) (by rfl) | exact Qr (by simp) (by rfl) (by first | rfl | (simp; done) | (simp; omega)) | exact Qt (by first | rfl | simp)), (by first | exact Qo rfl | exact Qq (by decide) | exact Qp | exact Qn _ | exact Qs (by simp) (by rfl) | exact Qr (by simp) (by rfl) (by first | rfl | (simp; done) | (simp; omega)) | exact Qt (by first | rfl | simp)), (by first | exact Qo rfl | exact Qq (by decide) | exact Qp | exact Qn _ | exact Qs (by simp) (by rfl) | exact Qr (by simp) (by rfl) (by first | rfl | (simp; done) | (simp; omega)) | exact Qt (by first | rfl | simp)), (by first | exact Qo rfl | exact Qq (by decide) | exact Qp | exact Qn _ | exact Qs (by simp) (by rfl) | exact Qr (by simp) (by rfl) (by first | rfl | (simp; done) | (simp; omega)) | exact Qt (by first | rfl | simp)), (by first | exact Qo rfl | exact Qq (by decide) | exact Qp | exact Qn _ | exact Qs (by simp) (by rfl) | exact Qr (by simp) (by rfl) (by first | rfl | (simp; done) | (simp; omega)) | exact Qt (by first | rfl | simp)), trivial⟩
    ·exact ⟨fun _ => ⟨_, rfl, Qw (by rw [hkl]; simp)⟩, fun h => by simp at h, trivial⟩
    ·simp [wfV, QY, QX, lookR, grow]
    ·exact ⟨wf_data _ _, trivial⟩
   ·intro hb
    have hs : (x.ac.who == w && x.ac.cur == c) = false := by simpa using hb
    clear hb
    have hkl := key_no hs pre
    refine JI ?_
    simp only [zz6, QO, ↓Qb]
    refine hK2 _ ?_; try clear hK2 K2
    refine kpA [0, 1, 2, 8, 9] ?_
    refine Qz F_mixed [some 19, some 20, some 9] rfl ?_
    simp only [zzK, QR, QP, QQ, JC, zz21, JM, zz26, JB, hwx, zz6, QO, ↓Qb]
    refine ⟨post2.length, _, by simp, le_SK id [] rfl (l' := [(0, .d (iv w)), (1, .d (iv c)), (2, .d (dues l)), (8, .ref 8 (amts (ofKey w c (pre ++ [x]))).length), (9, .d (iv (pre ++ [x]).length))]) (m' := [(8, grow 3 1 8 ((amts (ofKey w c (pre ++ [x]))).map fun n => [iv n]))]) ?_ ?_ ?_ ?_, (pre ++ [x]), post2, by simp [hsp], rfl, rfl⟩
    ·simp only [leV, JD, QQ, Qd, Qc, hwx, hkl]; exact ⟨(by first | exact Qo rfl | exact Qq (by decide) | exact Qp | exact Qn _ | exact Qs (by simp) (by rfl) | exact Qr (by simp) (by rfl) (by first | rfl | (simp; done) | (simp; omega)) | exact Qt (by first | rfl | simp)), (by first | exact Qo rfl | exact Qq (by decide) | exact Qp | exact Qn _ | exact Qs (by simp) (by rfl) | exact Qr (by simp) (by rfl) (by first | rfl | (simp; done) | (simp; omega)) | exact Qt (by first | rfl | simp)), (by first | exact Qo rfl | exact Qq (by decide) | exact Qp | exact Qn _ | exact Qs (by simp) (by rfl) | exact Qr (by simp) (by rfl) (by first | rfl | (simp; done) | (simp; omega)) | exact Qt (by first | rfl | simp)), (by first | exact Qo rfl | exact Qq (by decide) | exact Qp | exact Qn _ | exact Qs (by simp) (by rfl) | exact Qr (by simp) (by rfl) (by first | rfl | (simp; done) | (simp; omega)) | exact Qt (by first | rfl | simp)), (by first | exact Qo rfl | exact Qq (by decide) | exact Qp | exact Qn _ | exact Qs (by simp) (by rfl) | exact Qr (by simp) (by rfl) (by first | rfl | (simp; done) | (simp; omega)) | exact Qt (by first | rfl | simp)), trivial⟩
    ·exact ⟨fun _ => ⟨_, rfl, Qw (by rw [hkl])⟩, fun h => by simp at h, trivial⟩
    ·simp [wfV, QY, QX, lookR, grow]
    ·exact ⟨wf_data _ _, trivial⟩
  ·intro hb
   obtain rfl : post = [] := by
    cases post with
    | nil => rfl
    | cons x t => have := Qf hb; simp at hspl; omega
   clear hb
   simp only [QG] at hsp
   subst hsp
   have hkr := key_rt (who := w) (cur := c) hr
   refine awp_exit ?_
   simp only [zz6, QO, ↓Qb]
   refine hK0 _ ?_; try clear hK0 K0
   refine kpA [8] ?_
   refine JA fun K0 hK0 => ?_
   refine Qz F_mixed [some 46, some 47, some 45, some 48, some 49, some 10, some 11] rfl ?_
   simp only [zzK, QR, QP, QQ, JC, JE, JF, zz14, zzD, QS, QN, zzF, JB, ints, grow, D.sl.injEq, JN, zz6, QO, ↓Qb]
   refine JT F_go33 (fun hG => Add_ (amts (ofKey w c l)) (by omega) (right_bound hkr)) (by simp [QY, QX]) (by simp) ?_
   simp only [zzK, QR, QP, QQ, JC, JE, JF, zz14, zzD, QS, QN, zzF, JB, ints, grow, JN, zz6, QO, ↓Qb, atsL, oksG, JV, QZ, Qa, JO, Qm, QT, QS, zz9, QB, QA, zzC, yyF, QF, zz2]
   first | refine ⟨by simp, ?_⟩ | skip
   refine hK0 _ ?_; try clear hK0 K0
   refine kpA [10, 11] ?_
   refine JA fun K0 hK0 => ?_
   refine JA fun K1 hK1 => ?_
   refine Qz F_mixed [some 50, some 51] rfl ?_
   simp only [zzK, QR, QP, QQ, JC, zz29, JM, zz30, zz6, QO, ↓Qb]
   refine hK1 _ ?_; try clear hK1 K1
   refine kpA [10, 51] ?_
   refine cnA ?_ ?_
   ·intro hb
    have hs : rightN (amts (ofKey w c l)).sum = false := by simpa using hb
    clear hb
    refine JA fun K2 hK2 => ?_
    refine Qz F_mixed [some 6, some 7] rfl ?_
    simp only [zzK, QR, QP, QQ, JB, zz6, QO, ↓Qb]
    refine hK2 _ ?_; try clear hK2 K2
    refine kpA [6, 7] ?_
    refine JJ ?_
    simp only [zz6, QO, ↓Qb]
    refine dnA ?_
    simp only [QD, QE, resA, JZ, QR, QP, JD, QQ, Qd, Qc, JP]
    simp only [grV, grE, hr, Qd, sumV, sumE, hkr, hs, Bool.and_false, Qc]
   ·intro hb
    have hs : rightN (amts (ofKey w c l)).sum = true := by simpa using hb
    clear hb
    refine JI ?_
    simp only [zz6, QO, ↓Qb]
    refine hK0 _ ?_; try clear hK0 K0
    refine kpA [10] ?_
    refine JA fun K0 hK0 => ?_
    refine Qz F_mixed [some 52, some 6, some 7] rfl ?_
    simp only [zzK, QR, QP, QQ, JC, JB, zz6, QO, ↓Qb]
    refine hK0 _ ?_; try clear hK0 K0
    refine kpA [6, 7] ?_
    refine JJ ?_
    simp only [zz6, QO, ↓Qb]
    refine dnA ?_
    simp only [QD, QE, resA, JZ, QR, QP, JD, QQ, Qd, Qc, JP]
    simp only [grV, grE, hr, Qd, sumV, sumE, hkr, hs, Bool.and_self]
set_option maxRecDepth 100000 in
set_option maxHeartbeats 4000000 in
theorem rNet_ (l : List LegV) (hk : K2 l) (hl : l.length ≤ 1000000) : ACalls Try.prog 13 [dues l] [⟨30, 3, (netV l).map dueC⟩] (.tp [.ref 0 (netV l).length, .d (iv (netR l))]) := by
 refine acalls_S (rs := [.tmp 2, .tmp 3]) Try.func13 rfl rfl 78 [(0, .d (dues l))] rfl (by simp) rfl ?_
 refine JA fun K0 hK0 => ?_
 refine Qz F_mixed [some 2, some 3] rfl ?_
 simp only [zzK, QR, QP, QQ, JB, zz6, QO, ↓Qb]
 refine hK0 _ ?_; try clear hK0 K0
 refine kpA [0] ?_
 refine JA fun K0 hK0 => ?_
 refine JA fun K1 hK1 => ?_
 refine Qz F_mixed [some 12, some 13, some 14] rfl ?_
 simp only [zzK, QR, QP, QQ, JC, JE, JF, zz29, JM, zz30, dues, zz6, QO, ↓Qb]
 refine JT F_go31 (fun hG => rMoney_ l hl) (by simp [QY, QX]) (by simp) ?_
 simp only [zzK, QR, QP, QQ, JC, JE, JF, zz29, JM, zz30, dues, zz6, QO, ↓Qb, atsL, oksG, JV, QZ, Qa, JO, Qm, QT, QS, zz9, QB, QA, zzC, yyF, zzD, zz2]
 refine hK1 _ ?_; try clear hK1 K1
 refine kpA [0, 14] ?_
 refine cnA ?_ ?_
 ·intro hb
  have hr : rtOk l = false := by simpa using hb
  clear hb
  have hnr : netR l = 3 := by simp only [netR, hr, Qc]
  have hnv : netV l = [] := by simp only [netV, hnr]; rfl
  refine JA fun K2 hK2 => ?_
  refine Qz F_mixed [some 2, some 3] rfl ?_
  simp only [zzK, QR, QP, QQ, JB, zz6, QO, ↓Qb]
  refine hK2 _ ?_; try clear hK2 K2
  refine kpA [2, 3] ?_
  refine awp_le (le_SK id [0] rfl (l' := [(2, .ref 0 0), (3, .d (iv 3))]) (m' := [(0, (⟨True, 30, 3, true, true, 0, []⟩ : ARow))]) ?_ ?_ ?_ ?_) ?_
  ·simp only [leV, JD, QQ, Qd, Qc]; exact ⟨Qq (by decide), Qo rfl, trivial⟩
  ·exact ⟨fun h => by simp at h, fun _ => rfl, trivial⟩
  ·simp [wfV, QY, lookR]
  ·simp [wfR]
  refine JJ ?_
  simp only [zz6, QO, ↓Qb]
  rw [hnv, hnr]
  refine done1 0 (by simp only [resCs, resC]; trivial) ?_ (by simp [flatA, flatAs, Jc]) (by simp [QY, QX]) (by rfl) trivial rfl rfl ?_ (by simp [flatDs, Jc])
  ·simp only [QD, QE, resA, JZ, QR, QP, JD, QQ, Qd, Qc, JP]; rfl
  ·rfl
 ·intro hb
  have hr : rtOk l = true := by simpa using hb
  clear hb
  obtain ⟨hn1, hn2⟩ := net_of hk hr
  have hKS := key_s hk
  have hC0 : comp (dueSort l) = [] → l = [] := fun h => by have := comp_nil h; exact List.eq_nil_of_length_eq_zero (by rw [← dueSort_len l, this]; rfl)
  have hCl : (comp (dueSort l)).length ≤ l.length := Nat.le_trans (comp_len _) (Nat.le_of_eq (dueSort_len l))
  generalize comp (dueSort l) = C at hn1 hn2 hKS hC0 hCl
  refine JI ?_
  simp only [zz6, QO, ↓Qb]
  refine hK0 _ ?_; try clear hK0 K0
  refine kpA [0] ?_
  refine JA fun K0 hK0 => ?_
  refine Qz F_mixed [some 4] rfl ?_
  simp only [zzK, QR, QP, QQ, JB, zz6, QO, ↓Qb]
  refine hK0 _ ?_; try clear hK0 K0
  refine kpA [0, 4] ?_
  refine JA fun K0 hK0 => ?_
  refine Qz F_mixed [some 15, some 5, none] rfl ?_
  simp only [zzK, QR, QP, QQ, F_zero30, F_bld30, zz7, splice, Option.getD_some, QG, zz1, zzG, zzD, zzC, QA, yyE, Qe, QS, QN, zzH, zz10, zz32, JS, zz18, F_ok30, F_sz30, zz6, QO, ↓Qb]
  refine hK0 _ ?_; try clear hK0 K0
  refine kpA [0, 4, 5] ?_
  refine JA fun K0 hK0 => ?_
  refine Qz F_mixed [some 6] rfl ?_
  simp only [zzK, QR, QP, QQ, JB, zz6, QO, ↓Qb]
  refine hK0 _ ?_; try clear hK0 K0
  refine kpA [0, 4, 5, 6] ?_
  refine JH ?_
  refine JL (fun m s => ∃ (P : List LegV) (R : List LegV) (la : LegV), (C = P ++ R) ∧ (netE l C = netE l R) ∧ (LastOf P la) ∧ m = R.length + 1 ∧ s = S 78 [(0, .d (dues l)), (4, .ref 4 (netO l P).length), (5, .ptr 5 0 0), (6, .d (iv P.length))] [(4, grow 30 3 4 ((netO l P).map dueC)), (5, (⟨True, 30, 3, true, false, 5, [[.d (iv la.ac.who), .d (iv la.ac.cur), .d (iv la.amt)]]⟩ : ARow))]) (C.length + 1) _ (le_SK id [4] rfl (l' := [(0, .d (dues l)), (4, .ref 4 (netO l []).length), (5, .ptr 5 0 0), (6, .d (iv [].length))]) (m' := [(4, grow 30 3 4 ((netO l []).map dueC)), (5, (⟨True, 30, 3, true, false, 5, [[.d (iv zD.ac.who), .d (iv zD.ac.cur), .d (iv zD.amt)]]⟩ : ARow))]) ?_ ?_ ?_ ?_) ⟨[], C, zD, rfl, rfl, last_nil _, rfl, rfl⟩ ?_
  ·simp only [leV, JD, QQ, Qd, Qc]; exact ⟨(by first | exact Qo rfl | exact Qq (by decide) | exact Qp | exact Qn _ | exact Qs (by simp) (by rfl) | exact Qr (by simp) (by rfl) (by first | rfl | (simp; done) | (simp; omega)) | exact Qt (by first | rfl | simp)), (by first | exact Qo rfl | exact Qq (by decide) | exact Qp | exact Qn _ | exact Qs (by simp) (by rfl) | exact Qr (by simp) (by rfl) (by first | rfl | (simp; done) | (simp; omega)) | exact Qt (by first | rfl | simp)), (by first | exact Qo rfl | exact Qq (by decide) | exact Qp | exact Qn _ | exact Qs (by simp) (by rfl) | exact Qr (by simp) (by rfl) (by first | rfl | (simp; done) | (simp; omega)) | exact Qt (by first | rfl | simp)), (Qt rfl), trivial⟩
  ·exact ⟨fun h => by simp at h, fun _ => rfl, fun _ => ⟨_, rfl, (by first | exact Qv (by simp [QX, QY]) | exact Qu rfl (by simp [QX, QY]))⟩, fun h => by simp at h, trivial⟩
  ·simp [wfV, QY, QX, lookR, grow]
  ·exact ⟨wf_data _ _, by simp [QX, QY, lookR], trivial⟩
  rintro m s ⟨P, R, la, hCP, hE, hLA, rfl, rfl⟩
  have hCPl := congrArg List.length hCP
  simp only [QC] at hCPl
  have hk0 := nat_eq0 P.length
  have hol := netO_len l P
  refine JA fun K1 hK1 => ?_
  refine JH ?_
  refine JA fun K2 hK2 => ?_
  refine Qz F_mixed [some 7] rfl ?_
  simp only [zzK, QR, QP, QQ, JB, zz6, QO, ↓Qb]
  refine hK2 _ ?_; try clear hK2 K2
  refine kpA [0, 4, 5, 6, 7] ?_
  refine JA fun K2 hK2 => ?_
  refine Qz F_mixed [some 18, some 8, none] rfl ?_
  simp only [zzK, QR, QP, QQ, F_zero30, F_bld30, zz7, splice, Option.getD_some, QG, zz1, zzG, zzD, zzC, QA, yyE, Qe, QS, QN, zzH, zz10, zz32, JS, zz18, F_ok30, F_sz30, zz6, QO, ↓Qb]
  refine hK2 _ ?_; try clear hK2 K2
  refine kpA [0, 4, 5, 6, 7, 8] ?_
  refine JA fun K2 hK2 => ?_
  refine JA fun K3 hK3 => ?_
  refine Qz F_mixed [some 9] rfl ?_
  simp only [zzK, QR, QP, QQ, JB, zz6, QO, ↓Qb]
  refine hK3 _ ?_; try clear hK3 K3
  refine kpA [0, 4, 5, 6, 7, 8, 9] ?_
  refine JH ?_
  refine JL (fun m s => ∃ (pre : List LegV) (post : List LegV) (b : Bool) (nx : LegV), (l = pre ++ post) ∧ (sel (P.length == 0) la pre = (b, nx)) ∧ m = post.length ∧ s = S 78 [(0, .d (dues l)), (4, .ref 4 (netO l P).length), (5, .ptr 5 0 0), (6, .d (iv P.length)), (7, .d (.v (.bool b))), (8, .ptr 8 0 0), (9, .d (iv pre.length))] [(4, grow 30 3 4 ((netO l P).map dueC)), (5, (⟨True, 30, 3, true, false, 5, [[.d (iv la.ac.who), .d (iv la.ac.cur), .d (iv la.amt)]]⟩ : ARow)), (8, (⟨True, 30, 3, true, false, 8, [[.d (iv nx.ac.who), .d (iv nx.ac.cur), .d (iv nx.amt)]]⟩ : ARow))]) (l.length) _ (le_SK id [] rfl (l' := [(0, .d (dues l)), (4, .ref 4 (netO l P).length), (5, .ptr 5 0 0), (6, .d (iv P.length)), (7, .d (.v (.bool false))), (8, .ptr 8 0 0), (9, .d (iv [].length))]) (m' := [(4, grow 30 3 4 ((netO l P).map dueC)), (5, (⟨True, 30, 3, true, false, 5, [[.d (iv la.ac.who), .d (iv la.ac.cur), .d (iv la.amt)]]⟩ : ARow)), (8, (⟨True, 30, 3, true, false, 8, [[.d (iv zD.ac.who), .d (iv zD.ac.cur), .d (iv zD.amt)]]⟩ : ARow))]) ?_ ?_ ?_ ?_) ⟨[], l, false, zD, rfl, rfl, rfl, rfl⟩ ?_
  ·simp only [leV, JD, QQ, Qd, Qc]; exact ⟨(by first | exact Qo rfl | exact Qq (by decide) | exact Qp | exact Qn _ | exact Qs (by simp) (by rfl) | exact Qr (by simp) (by rfl) (by first | rfl | (simp; done) | (simp; omega)) | exact Qt (by first | rfl | simp)), (by first | exact Qo rfl | exact Qq (by decide) | exact Qp | exact Qn _ | exact Qs (by simp) (by rfl) | exact Qr (by simp) (by rfl) (by first | rfl | (simp; done) | (simp; omega)) | exact Qt (by first | rfl | simp)), (by first | exact Qo rfl | exact Qq (by decide) | exact Qp | exact Qn _ | exact Qs (by simp) (by rfl) | exact Qr (by simp) (by rfl) (by first | rfl | (simp; done) | (simp; omega)) | exact Qt (by first | rfl | simp)), (by first | exact Qo rfl | exact Qq (by decide) | exact Qp | exact Qn _ | exact Qs (by simp) (by rfl) | exact Qr (by simp) (by rfl) (by first | rfl | (simp; done) | (simp; omega)) | exact Qt (by first | rfl | simp)), (by first | exact Qo rfl | exact Qq (by decide) | exact Qp | exact Qn _ | exact Qs (by simp) (by rfl) | exact Qr (by simp) (by rfl) (by first | rfl | (simp; done) | (simp; omega)) | exact Qt (by first | rfl | simp)), (by first | exact Qo rfl | exact Qq (by decide) | exact Qp | exact Qn _ | exact Qs (by simp) (by rfl) | exact Qr (by simp) (by rfl) (by first | rfl | (simp; done) | (simp; omega)) | exact Qt (by first | rfl | simp)), (by first | exact Qo rfl | exact Qq (by decide) | exact Qp | exact Qn _ | exact Qs (by simp) (by rfl) | exact Qr (by simp) (by rfl) (by first | rfl | (simp; done) | (simp; omega)) | exact Qt (by first | rfl | simp)), trivial⟩
  ·exact ⟨fun _ => ⟨_, rfl, Qw rfl⟩, fun h => by simp at h, fun _ => ⟨_, rfl, (by first | exact Qv (by simp [QX, QY]) | exact Qu rfl (by simp [QX, QY]))⟩, fun h => by simp at h, fun _ => ⟨_, rfl, (by first | exact Qv (by simp [QX, QY]) | exact Qu rfl (by simp [QX, QY]))⟩, fun h => by simp at h, trivial⟩
  ·simp [wfV, QY, QX, lookR, grow]
  ·exact ⟨wf_data _ _, by simp [QX, QY, lookR], by simp [QX, QY, lookR], trivial⟩
  rintro m s ⟨pre, post, b, nx, hsp, hsel, rfl, rfl⟩
  have hspl := congrArg List.length hsp
  simp only [QC] at hspl
  refine JA fun K4 hK4 => ?_
  refine JA fun K5 hK5 => ?_
  refine Qz F_mixed [some 19, some 20, some 21, some 22] rfl ?_
  simp only [zzK, QR, QP, QQ, JC, JE, zz12, F_sl22, Option.isSome_some, zz21, JM, zz22, dues, JN, zz6, QO, ↓Qb]
  refine hK5 _ ?_; try clear hK5 K5
  refine kpA [0, 4, 5, 6, 7, 8, 9, 22] ?_
  refine cnA ?_ ?_
  ·intro hb
   obtain ⟨x, post2, rfl⟩ : ∃ x t, post = x :: t := by
    cases post with
    | nil => have := Qg hb; simp at hspl; omega
    | cons x t => exact ⟨x, t, rfl⟩
   clear hb
   simp only [QF] at hspl
   have gx : (l.map dueC).getD pre.length [] = [iv x.ac.who, iv x.ac.cur, iv x.amt] := by
    rw [hsp, List.map_append]; exact gd_mid' (A := pre.map dueC) _ _ (by simp)
   have bx := ltI (show pre.length < l.length by omega)
   have hwx : Ql .i64 ((pre.length : Int) + 1) = ((pre ++ [x]).length : Int) := by rw [wrapI (by omega) (by omega)]; simp
   refine JI ?_
   simp only [zz6, QO, ↓Qb]
   refine hK4 _ ?_; try clear hK4 K4
   refine kpA [0, 4, 5, 6, 7, 8, 9] ?_
   refine JA fun K4 hK4 => ?_
   refine JH ?_
   refine JA fun K5 hK5 => ?_
   refine awp_draw F_mixed [some 25, some 26, some 27, some 28, some 29, some 30, some 31, some 32, some 33, some 34, some 35, some 36, some 37, some 38, some 39, some 40, some 41, some 42, some 43, some 44, some 45, some 46] rfl (by kernel_rfl) ?_
   simp only [zzK, QR, QP, QQ, QU, JZ, zz5, Qj, Qi, Qh, JC, zz21, JM, zz34, F_ok30, F_ag30, F_sz30, zz8, zz23, zzD, QS, QN, zzH, zzC, QA, yyE, Qe, JW, zz24, F_sl22, JE, JF, zz13, JQ, JR, zz29, zz30, dues, hk0, dueC, gx, bx, hwx, JN, ge0, QV, QW, zz6, QO, ↓Qb]
   refine JT F_go32 (fun hG => rdLess_ la x) (by simp [QY, QX]) (by simp) ?_
   simp only [zzK, QR, QP, QQ, QU, JZ, zz5, Qj, Qi, Qh, JC, zz21, JM, zz34, F_ok30, F_ag30, F_sz30, zz8, zz23, zzD, QS, QN, zzH, zzC, QA, yyE, Qe, JW, zz24, F_sl22, JE, JF, zz13, JQ, JR, zz29, zz30, dues, hk0, dueC, gx, bx, hwx, JN, ge0, QV, QW, zz6, QO, ↓Qb, atsL, oksG, JV, QZ, Qa, JO, Qm, QT, QS, zz9, QB, QA, S_mem, yyF, QF, zz2]
   refine JT F_go32 (fun hG => rdLess_ x nx) (by simp [QY, QX]) (by simp) ?_
   simp only [zzK, QR, QP, QQ, QU, JZ, zz5, Qj, Qi, Qh, JC, zz21, JM, zz34, F_ok30, F_ag30, F_sz30, zz8, zz23, zzD, QS, QN, zzH, zzC, QA, yyE, Qe, JW, zz24, F_sl22, JE, JF, zz13, JQ, JR, zz29, zz30, dues, hk0, dueC, gx, bx, hwx, JN, ge0, QV, QW, zz6, QO, ↓Qb, atsL, oksG, JV, QZ, Qa, JO, Qm, QT, QS, zz9, QB, QA, S_mem, yyF, QF, zz2]
   refine hK5 _ ?_; try clear hK5 K5
   refine kpA [0, 4, 5, 6, 7, 8, 9, 46] ?_
   refine cnA ?_ ?_
   ·intro hb
    have hcd : (cand (P.length == 0) la x && (!b || dLt x nx)) = true := hb
    clear hb
    refine awp_draw F_mixed [some 47, some 48, some 49, some 50, some 7, none] rfl (by kernel_rfl) ?_
    simp only [zzK, QR, QP, QQ, JC, JW, zz23, zz24, F_sl22, F_sz30, QA, zzC, yyE, Qe, F_ok30, F_ag30, zz8, zzD, QS, QN, zzH, JB, zz18, splice, QG, zz1, zzG, dues, splice, gx, bx, hwx, JN, ge0, QV, QW, zz6, QO, ↓Qb]
    refine hK4 _ ?_; try clear hK4 K4
    refine kpA [0, 4, 5, 6, 7, 8, 9] ?_
    refine Qz F_mixed [some 23, some 24, some 9] rfl ?_
    simp only [zzK, QR, QP, QQ, JC, zz21, JM, zz26, JB, hwx, zz6, QO, ↓Qb]
    refine ⟨post2.length, _, by simp, le_SK id [] rfl (l' := [(0, .d (dues l)), (4, .ref 4 (netO l P).length), (5, .ptr 5 0 0), (6, .d (iv P.length)), (7, .d (.v (.bool true))), (8, .ptr 8 0 0), (9, .d (iv (pre ++ [x]).length))]) (m' := [(4, grow 30 3 4 ((netO l P).map dueC)), (5, (⟨True, 30, 3, true, false, 5, [[.d (iv la.ac.who), .d (iv la.ac.cur), .d (iv la.amt)]]⟩ : ARow)), (8, (⟨True, 30, 3, true, false, 8, [[.d (iv x.ac.who), .d (iv x.ac.cur), .d (iv x.amt)]]⟩ : ARow))]) ?_ ?_ ?_ ?_, (pre ++ [x]), post2, true, x, by simp [hsp], by rw [sel_snoc, hsel, selS, hcd]; rfl, rfl, rfl⟩
    ·simp only [leV, JD, QQ, Qd, Qc, hwx]; exact ⟨(by first | exact Qo rfl | exact Qq (by decide) | exact Qp | exact Qn _ | exact Qs (by simp) (by rfl) | exact Qr (by simp) (by rfl) (by first | rfl | (simp; done) | (simp; omega)) | exact Qt (by first | rfl | simp)), (by first | exact Qo rfl | exact Qq (by decide) | exact Qp | exact Qn _ | exact Qs (by simp) (by rfl) | exact Qr (by simp) (by rfl) (by first | rfl | (simp; done) | (simp; omega)) | exact Qt (by first | rfl | simp)), (by first | exact Qo rfl | exact Qq (by decide) | exact Qp | exact Qn _ | exact Qs (by simp) (by rfl) | exact Qr (by simp) (by rfl) (by first | rfl | (simp; done) | (simp; omega)) | exact Qt (by first | rfl | simp)), (by first | exact Qo rfl | exact Qq (by decide) | exact Qp | exact Qn _ | exact Qs (by simp) (by rfl) | exact Qr (by simp) (by rfl) (by first | rfl | (simp; done) | (simp; omega)) | exact Qt (by first | rfl | simp)), (by first | exact Qo rfl | exact Qq (by decide) | exact Qp | exact Qn _ | exact Qs (by simp) (by rfl) | exact Qr (by simp) (by rfl) (by first | rfl | (simp; done) | (simp; omega)) | exact Qt (by first | rfl | simp)), (by first | exact Qo rfl | exact Qq (by decide) | exact Qp | exact Qn _ | exact Qs (by simp) (by rfl) | exact Qr (by simp) (by rfl) (by first | rfl | (simp; done) | (simp; omega)) | exact Qt (by first | rfl | simp)), (by first | exact Qo rfl | exact Qq (by decide) | exact Qp | exact Qn _ | exact Qs (by simp) (by rfl) | exact Qr (by simp) (by rfl) (by first | rfl | (simp; done) | (simp; omega)) | exact Qt (by first | rfl | simp)), trivial⟩
    ·exact ⟨fun _ => ⟨_, rfl, Qw rfl⟩, fun h => by simp at h, fun _ => ⟨_, rfl, (by first | exact Qv (by simp [QX, QY]) | exact Qu rfl (by simp [QX, QY]))⟩, fun h => by simp at h, fun _ => ⟨_, rfl, (by first | exact Qv (by simp [QX, QY]) | exact Qu rfl (by simp [QX, QY]))⟩, fun h => by simp at h, trivial⟩
    ·simp [wfV, QY, QX, lookR, grow]
    ·exact ⟨wf_data _ _, by simp [QX, QY, lookR], by simp [QX, QY, lookR], trivial⟩
   ·intro hb
    have hcd : (cand (P.length == 0) la x && (!b || dLt x nx)) = false := hb
    clear hb
    refine JI ?_
    simp only [zz6, QO, ↓Qb]
    refine hK4 _ ?_; try clear hK4 K4
    refine kpA [0, 4, 5, 6, 7, 8, 9] ?_
    refine Qz F_mixed [some 23, some 24, some 9] rfl ?_
    simp only [zzK, QR, QP, QQ, JC, zz21, JM, zz26, JB, hwx, zz6, QO, ↓Qb]
    refine ⟨post2.length, _, by simp, le_SK id [] rfl (l' := [(0, .d (dues l)), (4, .ref 4 (netO l P).length), (5, .ptr 5 0 0), (6, .d (iv P.length)), (7, .d (.v (.bool b))), (8, .ptr 8 0 0), (9, .d (iv (pre ++ [x]).length))]) (m' := [(4, grow 30 3 4 ((netO l P).map dueC)), (5, (⟨True, 30, 3, true, false, 5, [[.d (iv la.ac.who), .d (iv la.ac.cur), .d (iv la.amt)]]⟩ : ARow)), (8, (⟨True, 30, 3, true, false, 8, [[.d (iv nx.ac.who), .d (iv nx.ac.cur), .d (iv nx.amt)]]⟩ : ARow))]) ?_ ?_ ?_ ?_, (pre ++ [x]), post2, b, nx, by simp [hsp], by rw [sel_snoc, hsel, selS, hcd]; rfl, rfl, rfl⟩
    ·simp only [leV, JD, QQ, Qd, Qc, hwx]; exact ⟨(by first | exact Qo rfl | exact Qq (by decide) | exact Qp | exact Qn _ | exact Qs (by simp) (by rfl) | exact Qr (by simp) (by rfl) (by first | rfl | (simp; done) | (simp; omega)) | exact Qt (by first | rfl | simp)), (by first | exact Qo rfl | exact Qq (by decide) | exact Qp | exact Qn _ | exact Qs (by simp) (by rfl) | exact Qr (by simp) (by rfl) (by first | rfl | (simp; done) | (simp; omega)) | exact Qt (by first | rfl | simp)), (by first | exact Qo rfl | exact Qq (by decide) | exact Qp | exact Qn _ | exact Qs (by simp) (by rfl) | exact Qr (by simp) (by rfl) (by first | rfl | (simp; done) | (simp; omega)) | exact Qt (by first | rfl | simp)), (by first | exact Qo rfl | exact Qq (by decide) | exact Qp | exact Qn _ | exact Qs (by simp) (by rfl) | exact Qr (by simp) (by rfl) (by first | rfl | (simp; done) | (simp; omega)) | exact Qt (by first | rfl | simp)), (by first | exact Qo rfl | exact Qq (by decide) | exact Qp | exact Qn _ | exact Qs (by simp) (by rfl) | exact Qr (by simp) (by rfl) (by first | rfl | (simp; done) | (simp; omega)) | exact Qt (by first | rfl | simp)), (by first | exact Qo rfl | exact Qq (by decide) | exact Qp | exact Qn _ | exact Qs (by simp) (by rfl) | exact Qr (by simp) (by rfl) (by first | rfl | (simp; done) | (simp; omega)) | exact Qt (by first | rfl | simp)), (by first | exact Qo rfl | exact Qq (by decide) | exact Qp | exact Qn _ | exact Qs (by simp) (by rfl) | exact Qr (by simp) (by rfl) (by first | rfl | (simp; done) | (simp; omega)) | exact Qt (by first | rfl | simp)), trivial⟩
    ·exact ⟨fun _ => ⟨_, rfl, Qw rfl⟩, fun h => by simp at h, fun _ => ⟨_, rfl, (by first | exact Qv (by simp [QX, QY]) | exact Qu rfl (by simp [QX, QY]))⟩, fun h => by simp at h, fun _ => ⟨_, rfl, (by first | exact Qv (by simp [QX, QY]) | exact Qu rfl (by simp [QX, QY]))⟩, fun h => by simp at h, trivial⟩
    ·simp [wfV, QY, QX, lookR, grow]
    ·exact ⟨wf_data _ _, by simp [QX, QY, lookR], by simp [QX, QY, lookR], trivial⟩
  ·intro hb
   obtain rfl : post = [] := by
    cases post with
    | nil => rfl
    | cons x t => have := Qf hb; simp at hspl; omega
   clear hb
   simp only [QG] at hsp
   subst hsp
   refine awp_exit ?_
   simp only [zz6, QO, ↓Qb]
   refine hK2 _ ?_; try clear hK2 K2
   refine kpA [0, 4, 5, 6, 7, 8] ?_
   refine JA fun K2 hK2 => ?_
   refine JA fun K3 hK3 => ?_
   refine Qz F_mixed [some 51, some 52] rfl ?_
   simp only [zzK, QR, QP, QQ, JC, zz29, JM, zz30, zz6, QO, ↓Qb]
   refine hK3 _ ?_; try clear hK3 K3
   refine kpA [0, 4, 5, 6, 8, 52] ?_
   refine cnA ?_ ?_
   ·intro hb
    have hbf : b = false := by simpa using hb
    clear hb
    have hR : R = [] := by
     cases R with
     | nil => rfl
     | cons c R2 => have := (sel_next hKS hCP hLA).1; rw [hsel] at this; rw [hbf] at this; cases this
    subst hR
    have hnr : netR l = 0 := by rw [← hn1, hE]; rfl
    simp only [QG] at hCP
    have hnv := hn2 hnr
    rw [hCP] at hnv
    refine JA fun K4 hK4 => ?_
    refine Qz F_mixed [some 53, some 2, some 3] rfl ?_
    simp only [zzK, QR, QP, QQ, JC, JB, zz6, QO, ↓Qb]
    refine hK4 _ ?_; try clear hK4 K4
    refine kpA [2, 3] ?_
    refine JJ ?_
    simp only [zz6, QO, ↓Qb]
    rw [← hnv, hnr]
    refine done1 4 (by simp only [resCs, resC]; trivial) ?_ (by simp [flatA, flatAs, Jc, dueC]) (by simp [QY, QX, dueC]) (by rfl) trivial rfl rfl ?_ (by simp [flatDs, Jc, dueC])
    ·simp only [QD, QE, resA, JZ, QR, QP, JD, QQ, Qd, Qc, JP]; rfl
    ·rfl
   ·intro hb
    have hbt : b = true := by simpa using hb
    clear hb
    subst hbt
    obtain ⟨c, R2, hR⟩ : ∃ c R2, R = c :: R2 := by
     cases R with
     | nil =>
      simp only [QG] at hCP
      subst hCP
      have := sel_none hKS hLA hC0
      rw [hsel] at this
      cases this
     | cons c R2 => exact ⟨c, R2, rfl⟩
    subst hR
    have hnx : nx.ac = c.ac := by have := (sel_next hKS hCP hLA).2; rwa [hsel] at this
    simp only [QF] at hCPl
    have hwk : Ql .i64 ((P.length : Int) + 1) = ((P ++ [c]).length : Int) := by rw [wrapI (by omega) (by omega)]; simp
    refine JI ?_
    simp only [zz6, QO, ↓Qb]
    refine hK2 _ ?_; try clear hK2 K2
    refine kpA [0, 4, 5, 6, 8] ?_
    refine JA fun K2 hK2 => ?_
    refine Qz F_mixed [some 54, none] rfl ?_
    simp only [zzK, QR, QP, QQ, F_ok30, F_ag30, F_sz30, zz8, zz23, zzD, QS, QN, zzH, zzC, QA, yyE, Qe, zz18, splice, QG, zz1, zzG, splice, zz6, QO, ↓Qb]
    refine hK2 _ ?_; try clear hK2 K2
    refine kpA [0, 4, 5, 6, 8] ?_
    refine JA fun K2 hK2 => ?_
    refine Qz F_mixed [some 56, some 57, some 58, some 59, some 60, some 61, some 55, some 62, some 63, some 10, some 11] rfl ?_
    simp only [zzK, QR, QP, QQ, zz19, zz23, F_off30_0, zzH, QN, QS, F_ok3, F_ag3, F_sz3, zz8, zzD, zzC, QA, yyE, Qe, F_off30_1, JC, JE, JF, zz14, JB, dues, zz6, QO, ↓Qb]
    refine JT F_go15 (fun hG => rGross_ nx.ac.who nx.ac.cur l (by omega)) (by simp [QY, QX]) (by simp) ?_
    simp only [zzK, QR, QP, QQ, zz19, zz23, F_off30_0, zzH, QN, QS, F_ok3, F_ag3, F_sz3, zz8, zzD, zzC, QA, yyE, Qe, F_off30_1, JC, JE, JF, zz14, JB, dues, zz6, QO, ↓Qb, atsL, oksG, JV, QZ, Qa, JO, Qm, QT, QS, zz9, QB, QA, S_mem, yyF, QF, zz2]
    refine hK2 _ ?_; try clear hK2 K2
    refine kpA [0, 4, 5, 6, 8, 10, 11] ?_
    refine JA fun K2 hK2 => ?_
    refine JA fun K3 hK3 => ?_
    refine Qz F_mixed [some 64, some 65] rfl ?_
    simp only [zzK, QR, QP, QQ, JC, zz21, JM, zz28, zz6, QO, ↓Qb]
    refine hK3 _ ?_; try clear hK3 K3
    refine kpA [0, 4, 5, 6, 8, 10, 11, 65] ?_
    refine cnA ?_ ?_
    ·intro hb
     have hg : (grE nx.ac.who nx.ac.cur l != 0) = true := hb
     clear hb
     have hnr : netR l = grE nx.ac.who nx.ac.cur l := by rw [← hn1, hE, netE, ← hnx, hg]; rfl
     have hnv : netV l = [] := nV0 (by rw [hnr]; simpa using hg)
     refine JA fun K4 hK4 => ?_
     refine Qz F_mixed [some 66, some 2, some 3] rfl ?_
     simp only [zzK, QR, QP, QQ, JC, JB, zz6, QO, ↓Qb]
     refine hK4 _ ?_; try clear hK4 K4
     refine kpA [2, 3] ?_
     refine awp_le (le_SK id [0] rfl (l' := [(2, .ref 0 0), (3, .d (iv (grE nx.ac.who nx.ac.cur l)))]) (m' := [(0, (⟨True, 30, 3, true, true, 0, []⟩ : ARow))]) ?_ ?_ ?_ ?_) ?_
     ·simp only [leV, JD, QQ, Qd, Qc]; exact ⟨Qq (by decide), Qo rfl, trivial⟩
     ·exact ⟨fun h => by simp at h, fun _ => rfl, trivial⟩
     ·simp [wfV, QY, lookR]
     ·simp [wfR]
     refine JJ ?_
     simp only [zz6, QO, ↓Qb]
     rw [hnv, hnr]
     refine done1 0 (by simp only [resCs, resC]; trivial) ?_ (by simp [flatA, flatAs, Jc]) (by simp [QY, QX]) (by rfl) trivial rfl rfl ?_ (by simp [flatDs, Jc])
     ·simp only [QD, QE, resA, JZ, QR, QP, JD, QQ, Qd, Qc, JP]; rfl
     ·rfl
    ·intro hb
     have hg : (grE nx.ac.who nx.ac.cur l != 0) = false := hb
     clear hb
     have hE2 : netE l C = netE l R2 := by rw [hE, netE, ← hnx, hg]; rfl
     refine JI ?_
     simp only [zz6, QO, ↓Qb]
     refine hK2 _ ?_; try clear hK2 K2
     refine kpA [0, 4, 5, 6, 8, 10] ?_
     refine JA fun K2 hK2 => ?_
     refine Qz F_mixed [some 67, some 68] rfl ?_
     simp only [zzK, QR, QP, QQ, JC, zz21, JM, zz28, zz6, QO, ↓Qb]
     refine hK2 _ ?_; try clear hK2 K2
     refine kpA [0, 4, 5, 6, 8, 10, 68] ?_
     refine cnA ?_ ?_
     ·intro hb
      have hv : (grV nx.ac.who nx.ac.cur l != 0) = true := hb
      clear hb
      have hO2 : netO l (P ++ [c]) = netO l P ++ [⟨⟨2, nx.ac.who, nx.ac.cur⟩, grV nx.ac.who nx.ac.cur l⟩] := by
       rw [hnx] at hv ⊢
       exact netO_yes hv P
      refine Qz F_mixed [some 69, some 70, some 71, some 72, some 73, some 74, some 75, some 76, some 77, some 4] rfl ?_
      simp only [zzK, QR, QP, QQ, JC, zz19, zz23, F_off30_0, zzH, QN, QS, F_ok3, F_ag3, F_sz3, zz8, zzD, zzC, QA, yyE, Qe, F_off30_1, F_zero30, F_bld30, zz7, splice, Option.getD_some, QG, zz1, zzG, zz10, F_fld30_0, F_fld30_1, F_fld30_2, F_sl22, F_sz30, zz3, JS, maxLen_le, QT, JE, F_by30, zz4, zz9, QB, JB, grow, unDs_map, QW, zz6, QO, ↓Qb]
      have hm : (netO l P).length + 1 ≤ 1000000 := by first | omega | (simp; omega)
      first | refine ⟨le_maxLen hm, by omega, ?_⟩ | refine ⟨by simp, le_maxLen hm, by omega, ?_⟩
      clear hm
      refine hK1 _ ?_; try clear hK1 K1
      refine kpA [0, 4, 5, 6] ?_
      refine Qz F_mixed [some 16, some 17, some 6] rfl ?_
      simp only [zzK, QR, QP, QQ, JC, zz21, JM, zz26, JB, hwk, zz6, QO, ↓Qb]
      refine ⟨R2.length + 1, _, by simp, le_SK (fun r => bif r == 4 then 77 else r) [] rfl (l' := [(0, .d (dues l)), (4, .ref 4 (netO l (P ++ [c])).length), (5, .ptr 5 0 0), (6, .d (iv (P ++ [c]).length))]) (m' := [(4, grow 30 3 4 ((netO l (P ++ [c])).map dueC)), (5, (⟨True, 30, 3, true, false, 5, [[.d (iv nx.ac.who), .d (iv nx.ac.cur), .d (iv nx.amt)]]⟩ : ARow))]) ?_ ?_ ?_ ?_, (P ++ [c]), R2, nx, by simp [hCP], hE2, last_snoc hnx, rfl, rfl⟩
      ·simp only [leV, JD, QQ, Qd, Qc, hwk, hO2]; exact ⟨(by first | exact Qo rfl | exact Qq (by decide) | exact Qp | exact Qn _ | exact Qs (by simp) (by rfl) | exact Qr (by simp) (by rfl) (by first | rfl | (simp; done) | (simp; omega)) | exact Qt (by first | rfl | simp)), (by first | exact Qo rfl | exact Qq (by decide) | exact Qp | exact Qn _ | exact Qs (by simp) (by rfl) | exact Qr (by simp) (by rfl) (by first | rfl | (simp; done) | (simp; omega)) | exact Qt (by first | rfl | simp)), (by first | exact Qo rfl | exact Qq (by decide) | exact Qp | exact Qn _ | exact Qs (by simp) (by rfl) | exact Qr (by simp) (by rfl) (by first | rfl | (simp; done) | (simp; omega)) | exact Qt (by first | rfl | simp)), (by first | exact Qo rfl | exact Qq (by decide) | exact Qp | exact Qn _ | exact Qs (by simp) (by rfl) | exact Qr (by simp) (by rfl) (by first | rfl | (simp; done) | (simp; omega)) | exact Qt (by first | rfl | simp)), trivial⟩
      ·exact ⟨fun _ => ⟨_, rfl, Qw (by rw [hO2]; simp [dueC])⟩, fun h => by simp at h, fun _ => ⟨_, rfl, (by first | exact Qv (by simp [QX, QY]) | exact Qu rfl (by simp [QX, QY]))⟩, fun h => by simp at h, trivial⟩
      ·simp [wfV, QY, QX, lookR, grow]
      ·exact ⟨wf_data _ _, by simp [QX, QY, lookR], trivial⟩
     ·intro hb
      have hv : (grV nx.ac.who nx.ac.cur l != 0) = false := hb
      clear hb
      have hO2 : netO l (P ++ [c]) = netO l P := by
       rw [hnx] at hv
       exact netO_no hv P
      refine JI ?_
      simp only [zz6, QO, ↓Qb]
      refine hK1 _ ?_; try clear hK1 K1
      refine kpA [0, 4, 5, 6] ?_
      refine Qz F_mixed [some 16, some 17, some 6] rfl ?_
      simp only [zzK, QR, QP, QQ, JC, zz21, JM, zz26, JB, hwk, zz6, QO, ↓Qb]
      refine ⟨R2.length + 1, _, by simp, le_SK id [] rfl (l' := [(0, .d (dues l)), (4, .ref 4 (netO l (P ++ [c])).length), (5, .ptr 5 0 0), (6, .d (iv (P ++ [c]).length))]) (m' := [(4, grow 30 3 4 ((netO l (P ++ [c])).map dueC)), (5, (⟨True, 30, 3, true, false, 5, [[.d (iv nx.ac.who), .d (iv nx.ac.cur), .d (iv nx.amt)]]⟩ : ARow))]) ?_ ?_ ?_ ?_, (P ++ [c]), R2, nx, by simp [hCP], hE2, last_snoc hnx, rfl, rfl⟩
      ·simp only [leV, JD, QQ, Qd, Qc, hwk, hO2]; exact ⟨(by first | exact Qo rfl | exact Qq (by decide) | exact Qp | exact Qn _ | exact Qs (by simp) (by rfl) | exact Qr (by simp) (by rfl) (by first | rfl | (simp; done) | (simp; omega)) | exact Qt (by first | rfl | simp)), (by first | exact Qo rfl | exact Qq (by decide) | exact Qp | exact Qn _ | exact Qs (by simp) (by rfl) | exact Qr (by simp) (by rfl) (by first | rfl | (simp; done) | (simp; omega)) | exact Qt (by first | rfl | simp)), (by first | exact Qo rfl | exact Qq (by decide) | exact Qp | exact Qn _ | exact Qs (by simp) (by rfl) | exact Qr (by simp) (by rfl) (by first | rfl | (simp; done) | (simp; omega)) | exact Qt (by first | rfl | simp)), (by first | exact Qo rfl | exact Qq (by decide) | exact Qp | exact Qn _ | exact Qs (by simp) (by rfl) | exact Qr (by simp) (by rfl) (by first | rfl | (simp; done) | (simp; omega)) | exact Qt (by first | rfl | simp)), trivial⟩
      ·exact ⟨fun _ => ⟨_, rfl, Qw (by rw [hO2])⟩, fun h => by simp at h, fun _ => ⟨_, rfl, (by first | exact Qv (by simp [QX, QY]) | exact Qu rfl (by simp [QX, QY]))⟩, fun h => by simp at h, trivial⟩
      ·simp [wfV, QY, QX, lookR, grow]
      ·exact ⟨wf_data _ _, by simp [QX, QY, lookR], trivial⟩
theorem rNetF (l : List LegV) (hk : K2 l) (hl : l.length ≤ 1000000) : ACalls Try.prog 13 [dues l] [] (.tp [.d (dues (netV l)), .d (iv (netR l))]) := (rNet_ l hk hl).freezeT (by simp [frzOk, frzOkL])

end Go.Proofs.Ytcpkhnciplfmkaa
namespace Go.Proofs.Ytcpkhnciplfmkaa
open Go.RowKit
set_option linter.unusedVariables false
set_option linter.unusedSimpArgs false
open Option renaming map_some → QA, bind_some → QB
open List renaming length_append → QC, map_cons → QD, map_nil → QE, length_cons → QF, append_nil → QG, length_singleton → QM
open Nat renaming zero_add → QN, reduceEqDiff → QO, reduceLeDiff → QP, reduceBEq → QQ, reduceLT → QR, reduceAdd → QS, reduceMul → QT, reduceSub → QU
open Int renaming toNat_natCast → QV
open D.agg renaming injEq → QW
open AV renaming idsL → QX, ids → QY, ren → QZ, renL → Qa
open _root_ renaming reduceIte → Qb, cond_false → Qc, cond_true → Qd, reduceCtorEq → Qe, of_decide_eq_false → Qf, of_decide_eq_true → Qg
open IntKind renaming wrap → Ql
open ORow renaming row → Qm
open VLe renaming refl → Qn, still → Qo, nild_ → Qp, nil_ → Qq, refE → Qr, ptrE → Qs, dE → Qt
open RowLe renaming data_ → Qw
open Go.Proofs.Ytcpkhnciplfmkaa renaming awp_plain → Qz, awp_seq → JA, evS_assign → JB, evS_move → JC, look_cons → JD, evS_call → JE, evC_value → JF, awp_block → JH, awp_skip → JI, awp_ret → JJ, awp_exit → JK, awp_loop → JL, gr_v → JM, len_map → JN, addRows → JO, resAll → JP, newRow1 → JS, call_go → JT, freeN → JV, evS_indexAddr → JW, S_getD → JZ, flatA → Ja, flatAs → Jb, flatD → Jc
theorem F_sl84 : sliceT Try.prog 84 = some 48 := by kernel_rfl
theorem F_by48 : byT Try.prog 48 = 24 := by kernel_rfl
theorem F_go56 : goFn Try.prog 56 := ⟨_, Try.func56, rfl, rfl⟩
theorem F_go57 : goFn Try.prog 57 := ⟨_, Try.func57, rfl, rfl⟩
theorem F_go13 : goFn Try.prog 13 := ⟨_, Try.func13, rfl, rfl⟩
theorem F_go38 : goFn Try.prog 38 := ⟨_, Try.func38, rfl, rfl⟩
theorem rSame_ (a b : AcV) : ACalls Try.prog 57 [.agg (acC a), .agg (acC b)] [] (bv (acSame a b)) := by
 refine acalls_S (rs := [.tmp 4]) Try.func57 rfl rfl 24 [(0, .d (.agg (acC a))), (1, .d (.agg (acC b)))] rfl (by simp) rfl ?_
 refine JA fun K0 hK0 => ?_
 refine Qz F_mixed [some 2, some 3, some 4] rfl ?_
 simp only [zzK, QR, QP, QQ, zz35, JS, zz1, zzG, zzD, zzC, QA, yyE, Qe, QS, QN, zzH, JB, acC, zz6, QO, ↓Qb]
 refine hK0 _ ?_; try clear hK0 K0
 refine kpA [2, 3] ?_
 refine JA fun K0 hK0 => ?_
 refine Qz F_mixed [some 5, some 6, some 7, some 8, some 9, some 10, some 11, some 12, some 13, some 14, some 15, some 16, some 17, some 18, some 19, some 20, some 21, some 22, some 23, some 4] rfl ?_
 simp only [zzK, QR, QP, QQ, QU, JZ, zz5, and_imp, imp_and, imp_self, zz19, zz23, F_off48_0, zzH, QN, QS, F_ok3, F_ag3, F_sz3, zz8, zzD, zzC, QA, yyE, Qe, zz21, JM, zz34, JC, F_off48_1, zz13, pickK_l, pickK_r, F_off48_2, JB, zz6, QO, ↓Qb]
 refine hK0 _ ?_; try clear hK0 K0
 refine kpA [4] ?_
 refine JJ ?_
 simp only [zz6, QO, ↓Qb]
 refine dnA ?_
 simp only [QD, QE, resA, JZ, QR, QP, JD, QQ, Qd, Qc, JP]
 try rfl
theorem rAll_ : ACalls Try.prog 56 [ints [1, 2, 3, 4, 5, 6]] [⟨48, 3, allAc.map acC⟩] (.ref 0 allAc.length) := by
 refine acalls_S (rs := [.tmp 2]) Try.func56 rfl rfl 51 [(0, .d (ints [1, 2, 3, 4, 5, 6]))] rfl (by simp) rfl ?_
 refine JA fun K0 hK0 => ?_
 refine Qz F_mixed [some 2] rfl ?_
 simp only [zzK, QR, QP, QQ, JB, zz6, QO, ↓Qb]
 refine hK0 _ ?_; try clear hK0 K0
 refine kpA [0] ?_
 refine JA fun K0 hK0 => ?_
 refine Qz F_mixed [some 3] rfl ?_
 simp only [zzK, QR, QP, QQ, JB, zz6, QO, ↓Qb]
 refine hK0 _ ?_; try clear hK0 K0
 refine kpA [0, 3] ?_
 refine JA fun K0 hK0 => ?_
 refine JA fun K1 hK1 => ?_
 refine Qz F_mixed [some 4] rfl ?_
 simp only [zzK, QR, QP, QQ, JB, zz6, QO, ↓Qb]
 refine hK1 _ ?_; try clear hK1 K1
 refine kpA [0, 3, 4] ?_
 refine JH ?_
 refine JL (fun m s => ∃ k : Nat, k ≤ 6 ∧ m = 6 - k ∧ s = S 51 [(0, .d (ints [1, 2, 3, 4, 5, 6])), (3, .ref 3 (kL k).length), (4, .d (iv (k + 1 : Nat)))] [(3, grow 48 3 3 ((kL k).map acC))]) 6 _ (le_SK id [3] rfl (l' := [(0, .d (ints [1, 2, 3, 4, 5, 6])), (3, .ref 3 (kL 0).length), (4, .d (iv (0 + 1 : Nat)))]) (m' := [(3, grow 48 3 3 ((kL 0).map acC))]) ?_ ?_ ?_ ?_) ⟨0, by omega, rfl, rfl⟩ ?_
 ·simp only [leV, JD, QQ, Qd, Qc]; exact ⟨Qo rfl, Qq (by decide), Qo rfl, trivial⟩
 ·exact ⟨fun h => by simp at h, fun _ => rfl, trivial⟩
 ·simp [wfV, QY, lookR]
 ·simp [wfR, grow, kL, QX, QY]
 rintro m s ⟨k, hk6, rfl, rfl⟩
 refine JA fun K2 hK2 => ?_
 refine JA fun K3 hK3 => ?_
 refine Qz F_mixed [some 10, some 11] rfl ?_
 simp only [zzK, QR, QP, QQ, JC, zz21, JM, b_leq, pure_leq, zz6, QO, ↓Qb]
 refine hK3 _ ?_; try clear hK3 K3
 refine kpA [0, 3, 4, 11] ?_
 refine cnA ?_ ?_
 ·intro hb
  have hk : k < 6 := by have := Qg hb; omega
  clear hb
  have hwk : Ql .i64 (((k + 1 : Nat) : Int) + 1) = ((k + 1 + 1 : Nat) : Int) := by rw [wrapI (by omega) (by omega)]; omega
  refine JI ?_
  simp only [zz6, QO, ↓Qb]
  refine hK2 _ ?_; try clear hK2 K2
  refine kpA [0, 3, 4] ?_
  refine JA fun K2 hK2 => ?_
  refine JH ?_
  refine JA fun K3 hK3 => ?_
  refine Qz F_mixed [some 5] rfl ?_
  simp only [zzK, QR, QP, QQ, JB, zz6, QO, ↓Qb]
  refine hK3 _ ?_; try clear hK3 K3
  refine kpA [0, 3, 4, 5] ?_
  refine JA fun K3 hK3 => ?_
  refine JA fun K4 hK4 => ?_
  refine Qz F_mixed [some 6] rfl ?_
  simp only [zzK, QR, QP, QQ, JB, zz6, QO, ↓Qb]
  refine hK4 _ ?_; try clear hK4 K4
  refine kpA [0, 3, 4, 5, 6] ?_
  refine JH ?_
  refine JL (fun m s => ∃ j : Nat, j ≤ 6 ∧ m = 6 - j ∧ s = S 51 [(0, .d (ints [1, 2, 3, 4, 5, 6])), (3, .ref 3 (kL k).length), (4, .d (iv (k + 1 : Nat))), (5, bv (decide (k + 1 ≤ j))), (6, .d (iv j))] [(3, grow 48 3 3 ((kL k).map acC))]) 6 _ (le_SK id [] rfl (l' := [(0, .d (ints [1, 2, 3, 4, 5, 6])), (3, .ref 3 (kL k).length), (4, .d (iv (k + 1 : Nat))), (5, bv (decide (k + 1 ≤ 0))), (6, .d (iv 0))]) (m' := [(3, grow 48 3 3 ((kL k).map acC))]) ?_ ?_ ?_ ?_) ⟨0, by omega, rfl, rfl⟩ ?_
  ·simp only [leV, JD, QQ, Qd, Qc, show decide (k + 1 ≤ 0) = false from decide_eq_false (by omega)]; exact ⟨Qn _, Qn _, Qn _, Qn _, Qn _, trivial⟩
  ·exact ⟨fun _ => ⟨_, rfl, Qw rfl⟩, fun h => by simp at h, trivial⟩
  ·simp [wfV, QY, lookR, grow]
  ·exact ⟨wf_data _ _, trivial⟩
  rintro m s ⟨j, hj6, rfl, rfl⟩
  refine JA fun K5 hK5 => ?_
  refine JA fun K6 hK6 => ?_
  refine Qz F_mixed [some 14, some 15, some 16, some 17] rfl ?_
  simp only [zzK, QR, QP, QQ, JC, JE, zz12, F_sl57, Option.isSome_some, zz21, JM, zz22, ints, JN, zz6, QO, ↓Qb]
  refine hK6 _ ?_; try clear hK6 K6
  refine kpA [0, 3, 4, 5, 6, 17] ?_
  refine cnA ?_ ?_
  ·intro hb
   have hj : j < 6 := by
    have := Qg hb
    simp at this; omega
   clear hb
   have hwj : Ql .i64 ((j : Int) + 1) = ((j + 1 : Nat) : Int) := by rw [wrapI (by omega) (by omega)]; omega
   have hdj : (decide (k + 1 ≤ j) || ((j + 1 : Nat) : Int) == ((k + 1 : Nat) : Int)) = decide (k + 1 ≤ j + 1) := by
    rw [Bool.eq_iff_iff]; simp; omega
   have gj : (([1, 2, 3, 4, 5, 6] : List Int).map fun n => [iv n]).getD j [] = [iv ((j + 1 : Nat) : Int)] := by
    have : j = 0 ∨ j = 1 ∨ j = 2 ∨ j = 3 ∨ j = 4 ∨ j = 5 := by omega
    rcases this with rfl | rfl | rfl | rfl | rfl | rfl <;> rfl
   have bj : ((j : Int) < ((([1, 2, 3, 4, 5, 6] : List Int).map fun n => [iv n]).length : Int)) = True := by simp; omega
   refine JI ?_
   simp only [zz6, QO, ↓Qb]
   refine hK5 _ ?_; try clear hK5 K5
   refine kpA [0, 3, 4, 5, 6] ?_
   refine JA fun K5 hK5 => ?_
   refine JH ?_
   refine Qz F_mixed [some 20, some 21, some 22, some 23, some 24, some 25, some 26, some 27, some 28, some 5] rfl ?_
   simp only [zzK, QR, QP, QQ, QU, JZ, zz5, and_imp, imp_and, imp_self, JC, JW, zz23, zz24, F_sl57, F_sz3, QA, zzC, yyE, Qe, F_ok3, F_ag3, zz8, zzD, QS, QN, zzH, zz21, JM, zz34, zz13, pickK_l, pickK_r, JB, ints, gj, bj, ge0, QV, hdj, zz6, QO, ↓Qb]
   refine hK5 _ ?_; try clear hK5 K5
   refine kpA [0, 3, 4, 5, 6] ?_
   refine Qz F_mixed [some 18, some 19, some 6] rfl ?_
   simp only [zzK, QR, QP, QQ, JC, zz21, JM, zz26, JB, hwj, zz6, QO, ↓Qb]
   refine ⟨6 - (j + 1), _, by omega, le_SK id [] rfl (l' := [(0, .d (ints [1, 2, 3, 4, 5, 6])), (3, .ref 3 (kL k).length), (4, .d (iv (k + 1 : Nat))), (5, bv (decide (k + 1 ≤ (j + 1)))), (6, .d (iv (j + 1)))]) (m' := [(3, grow 48 3 3 ((kL k).map acC))]) ?_ ?_ ?_ ?_, j + 1, by omega, rfl, rfl⟩
   ·simp only [leV, JD, QQ, Qd, Qc, hwj, QP]; exact ⟨Qn _, Qn _, Qn _, Qn _, Qn _, trivial⟩
   ·exact ⟨fun _ => ⟨_, rfl, Qw rfl⟩, fun h => by simp at h, trivial⟩
   ·simp [wfV, QY, lookR, grow]
   ·exact ⟨wf_data _ _, trivial⟩
  ·intro hb
   obtain rfl : j = 6 := by
    have := Qf hb
    simp at this; omega
   clear hb
   have hd6 : decide (k + 1 ≤ 6) = true := decide_eq_true (by omega)
   refine JK ?_
   simp only [zz6, QO, ↓Qb]
   refine hK3 _ ?_; try clear hK3 K3
   refine kpA [0, 3, 4, 5] ?_
   refine JA fun K3 hK3 => ?_
   simp only [hd6]
   refine Qz F_mixed [some 7] rfl ?_
   simp only [zzK, QR, QP, QQ, JB, zz6, QO, ↓Qb]
   refine hK3 _ ?_; try clear hK3 K3
   refine kpA [0, 3, 4, 5, 7] ?_
   refine JH ?_
   refine JL (fun m s => ∃ w : Nat, w ≤ 17 ∧ m = 17 - w ∧ s = S 51 [(0, .d (ints [1, 2, 3, 4, 5, 6])), (3, .ref 3 ((kL k ++ wL (k + 1) w)).length), (4, .d (iv (k + 1 : Nat))), (5, bv true), (7, .d (iv w))] [(3, grow 48 3 3 (((kL k ++ wL (k + 1) w)).map acC))]) 17 _ (le_SK id [] rfl (l' := [(0, .d (ints [1, 2, 3, 4, 5, 6])), (3, .ref 3 (kL k ++ wL (k + 1) 0).length), (4, .d (iv (k + 1 : Nat))), (5, bv true), (7, .d (iv ((0 : Nat) : Int)))]) (m' := [(3, grow 48 3 3 ((kL k ++ wL (k + 1) 0).map acC))]) ?_ ?_ ?_ ?_) ⟨0, by omega, rfl, rfl⟩ ?_
   ·simp only [leV, JD, QQ, Qd, Qc, show kL k ++ wL (k + 1) 0 = kL k by simp [wL]]; exact ⟨Qn _, Qn _, Qn _, Qn _, Qn _, trivial⟩
   ·exact ⟨fun _ => ⟨_, rfl, Qw (by simp [wL])⟩, fun h => by simp at h, trivial⟩
   ·simp [wfV, QY, lookR, grow]
   ·exact ⟨wf_data _ _, trivial⟩
   rintro m s ⟨w, hw17, rfl, rfl⟩
   refine JA fun K4 hK4 => ?_
   refine JA fun K5 hK5 => ?_
   refine Qz F_mixed [some 29, some 30, some 31, some 32, some 33] rfl ?_
   simp only [zzK, QR, QP, QQ, QU, JZ, zz5, and_imp, imp_and, imp_self, and_self, JC, zz21, JM, b_leq, pure_leq, zz13, pickK_l, pickK_r, zz6, QO, ↓Qb]
   refine hK5 _ ?_; try clear hK5 K5
   refine kpA [0, 3, 4, 5, 7, 33] ?_
   refine cnA ?_ ?_
   ·intro hb
    have hw : w < 17 := by
     have : decide ((w : Int) ≤ 16) = true := by simpa using hb
     have := Qg this; omega
    clear hb
    have hww : Ql .i64 ((w : Int) + 1) = ((w + 1 : Nat) : Int) := by rw [wrapI (by omega) (by omega)]; omega
    refine JI ?_
    simp only [zz6, QO, ↓Qb]
    refine hK4 _ ?_; try clear hK4 K4
    refine kpA [0, 3, 4, 5, 7] ?_
    refine JA fun K4 hK4 => ?_
    refine JH ?_
    refine JA fun K5 hK5 => ?_
    refine Qz F_mixed [some 8] rfl ?_
    simp only [zzK, QR, QP, QQ, JB, zz6, QO, ↓Qb]
    refine hK5 _ ?_; try clear hK5 K5
    refine kpA [0, 3, 4, 5, 7, 8] ?_
    refine JH ?_
    refine JL (fun m s => ∃ c : Nat, c ≤ 3 ∧ m = 3 - c ∧ s = S 51 [(0, .d (ints [1, 2, 3, 4, 5, 6])), (3, .ref 3 ((kL k ++ wL (k + 1) w ++ cL (k + 1) w c)).length), (4, .d (iv (k + 1 : Nat))), (5, bv true), (7, .d (iv w)), (8, .d (iv c))] [(3, grow 48 3 3 (((kL k ++ wL (k + 1) w ++ cL (k + 1) w c)).map acC))]) 3 _ (le_SK id [] rfl (l' := [(0, .d (ints [1, 2, 3, 4, 5, 6])), (3, .ref 3 (kL k ++ wL (k + 1) w ++ cL (k + 1) w 0).length), (4, .d (iv (k + 1 : Nat))), (5, bv true), (7, .d (iv w)), (8, .d (iv ((0 : Nat) : Int)))]) (m' := [(3, grow 48 3 3 ((kL k ++ wL (k + 1) w ++ cL (k + 1) w 0).map acC))]) ?_ ?_ ?_ ?_) ⟨0, by omega, rfl, rfl⟩ ?_
    ·simp only [leV, JD, QQ, Qd, Qc, show kL k ++ wL (k + 1) w ++ cL (k + 1) w 0 = kL k ++ wL (k + 1) w by simp [cL]]; exact ⟨Qn _, Qn _, Qn _, Qn _, Qn _, Qn _, trivial⟩
    ·exact ⟨fun _ => ⟨_, rfl, Qw (by simp [cL])⟩, fun h => by simp at h, trivial⟩
    ·simp [wfV, QY, lookR, grow]
    ·exact ⟨wf_data _ _, trivial⟩
    rintro m s ⟨c, hc3, rfl, rfl⟩
    have n1 := kL_len k
    have n2 := wL_len (k + 1) w
    have n3 := cL_len (k + 1) w c
    refine JA fun K6 hK6 => ?_
    refine JA fun K7 hK7 => ?_
    refine Qz F_mixed [some 36, some 37] rfl ?_
    simp only [zzK, QR, QP, QQ, JC, zz21, JM, zz22, zz6, QO, ↓Qb]
    refine hK7 _ ?_; try clear hK7 K7
    refine kpA [0, 3, 4, 5, 7, 8, 37] ?_
    refine cnA ?_ ?_
    ·intro hb
     have hc : c < 3 := by have := Qg hb; omega
     clear hb
     have hwc : Ql .i64 ((c : Int) + 1) = ((c + 1 : Nat) : Int) := by rw [wrapI (by omega) (by omega)]; omega
     refine JI ?_
     simp only [zz6, QO, ↓Qb]
     refine hK6 _ ?_; try clear hK6 K6
     refine kpA [0, 3, 4, 5, 7, 8] ?_
     refine JA fun K6 hK6 => ?_
     refine JH ?_
     refine JA fun K7 hK7 => ?_
     refine Qz F_mixed [some 40, some 41, some 42, some 43, some 9, none] rfl ?_
     simp only [zzK, QR, QP, QQ, JC, F_zero48, F_bld48, zz7, splice, Option.getD_some, QG, zz1, zzG, zzD, zzC, QA, yyE, Qe, QS, QN, zzH, zz10, F_fld48_0, F_fld48_1, F_fld48_2, zz32, JS, zz18, F_ok48, F_sz48, zz6, QO, ↓Qb]
     refine hK7 _ ?_; try clear hK7 K7
     refine kpA [0, 3, 4, 5, 7, 8, 9] ?_
     refine JA fun K7 hK7 => ?_
     refine Qz F_mixed [some 44, some 45] rfl ?_
     simp only [zzK, QR, QP, QQ, F_ok48, F_ag48, F_sz48, zz8, zz23, zzD, QS, QN, zzH, zzC, QA, yyE, Qe, JE, JF, acC, QW, zz6, QO, ↓Qb]
     refine JT F_go37 (fun hG => rAcRight_ ⟨((k + 1 : Nat) : Int), (w : Int), (c : Int)⟩) (by simp [QY, QX]) (by simp) ?_
     simp only [zzK, QR, QP, QQ, F_ok48, F_ag48, F_sz48, zz8, zz23, zzD, QS, QN, zzH, zzC, QA, yyE, Qe, JE, JF, acC, QW, zz6, QO, ↓Qb, atsL, oksG, JV, QZ, Qa, JO, Qm, QT, QS, zz9, QB, QA, S_mem, yyF, QF, zz2]
     refine hK7 _ ?_; try clear hK7 K7
     refine kpA [0, 3, 4, 5, 7, 8, 9, 45] ?_
     refine cnA ?_ ?_
     ·intro hb
      have hok : acOk ⟨((k + 1 : Nat) : Int), (w : Int), (c : Int)⟩ = true := hb
      clear hb
      have hcx : kL k ++ wL (k + 1) w ++ cL (k + 1) w (c + 1) = (kL k ++ wL (k + 1) w ++ cL (k + 1) w c) ++ [(⟨((k + 1 : Nat) : Int), (w : Int), (c : Int)⟩ : AcV)] := by rw [cL_succ, oneA, hok]; simp
      have hcl : (kL k ++ wL (k + 1) w ++ cL (k + 1) w (c + 1)).length = (kL k ++ wL (k + 1) w ++ cL (k + 1) w c).length + 1 := by rw [hcx]; simp only [QC, QM]
      have hm : (kL k ++ wL (k + 1) w ++ cL (k + 1) w c).length + 1 ≤ 1000000 := by simp only [QC]; omega
      refine Qz F_mixed [some 46, some 47, some 48, some 49, some 3] rfl ?_
      simp only [zzK, QR, QP, QQ, JC, F_ok48, F_ag48, F_sz48, zz8, zz23, zzD, QS, QN, zzH, zzC, QA, yyE, Qe, F_sl84, F_zero48, zz3, JS, zz1, zzG, maxLen_le, QT, JE, F_by48, zz4, zz9, QB, JB, grow, QW, unDs_map, zz6, QO, ↓Qb]
      first | refine ⟨le_maxLen hm, by omega, ?_⟩ | refine ⟨by simp, le_maxLen hm, by omega, ?_⟩
      clear hm
      refine hK6 _ ?_; try clear hK6 K6
      refine kpA [0, 3, 4, 5, 7, 8] ?_
      refine Qz F_mixed [some 38, some 39, some 8] rfl ?_
      simp only [zzK, QR, QP, QQ, JC, zz21, JM, zz26, JB, hwc, zz6, QO, ↓Qb]
      refine ⟨3 - (c + 1), _, by omega, le_SK (fun r => bif r == 3 then 49 else r) [] rfl (l' := [(0, .d (ints [1, 2, 3, 4, 5, 6])), (3, .ref 3 (kL k ++ wL (k + 1) w ++ cL (k + 1) w (c + 1)).length), (4, .d (iv (k + 1 : Nat))), (5, bv true), (7, .d (iv w)), (8, .d (iv ((c + 1 : Nat) : Int)))]) (m' := [(3, grow 48 3 3 ((kL k ++ wL (k + 1) w ++ cL (k + 1) w (c + 1)).map acC))]) ?_ ?_ ?_ ?_, c + 1, by omega, rfl, rfl⟩
      ·simp only [leV, JD, QQ, Qd, Qc, hwc]
       refine ⟨Qo rfl, ?_, Qo rfl, Qo rfl, Qo rfl, Qo rfl, trivial⟩
       rw [hcl]; exact VLe.ref_ (f := (fun r => bif r == 3 then 49 else r)) (r := 3) (by simp)
      ·exact ⟨fun _ => ⟨_, rfl, Qw (by rw [hcx] <;> simp [acC])⟩, fun h => by simp at h, trivial⟩
      ·simp [wfV, QY, lookR, grow]
      ·exact ⟨wf_data _ _, trivial⟩
     ·intro hb
      have hok : acOk ⟨((k + 1 : Nat) : Int), (w : Int), (c : Int)⟩ = false := hb
      clear hb
      have hcx : kL k ++ wL (k + 1) w ++ cL (k + 1) w (c + 1) = kL k ++ wL (k + 1) w ++ cL (k + 1) w c := by rw [cL_succ, oneA, hok]; simp
      have hcl : (kL k ++ wL (k + 1) w ++ cL (k + 1) w (c + 1)).length = (kL k ++ wL (k + 1) w ++ cL (k + 1) w c).length := by rw [hcx]
      refine JI ?_
      simp only [zz6, QO, ↓Qb]
      refine hK6 _ ?_; try clear hK6 K6
      refine kpA [0, 3, 4, 5, 7, 8] ?_
      refine Qz F_mixed [some 38, some 39, some 8] rfl ?_
      simp only [zzK, QR, QP, QQ, JC, zz21, JM, zz26, JB, hwc, zz6, QO, ↓Qb]
      refine ⟨3 - (c + 1), _, by omega, le_SK (fun r => bif r == 3 then 3 else r) [] rfl (l' := [(0, .d (ints [1, 2, 3, 4, 5, 6])), (3, .ref 3 (kL k ++ wL (k + 1) w ++ cL (k + 1) w (c + 1)).length), (4, .d (iv (k + 1 : Nat))), (5, bv true), (7, .d (iv w)), (8, .d (iv ((c + 1 : Nat) : Int)))]) (m' := [(3, grow 48 3 3 ((kL k ++ wL (k + 1) w ++ cL (k + 1) w (c + 1)).map acC))]) ?_ ?_ ?_ ?_, c + 1, by omega, rfl, rfl⟩
      ·simp only [leV, JD, QQ, Qd, Qc, hwc]
       refine ⟨Qo rfl, ?_, Qo rfl, Qo rfl, Qo rfl, Qo rfl, trivial⟩
       rw [hcl]; exact VLe.ref_ (f := (fun r => bif r == 3 then 3 else r)) (r := 3) (by simp)
      ·exact ⟨fun _ => ⟨_, rfl, Qw (by rw [hcx] <;> simp [acC])⟩, fun h => by simp at h, trivial⟩
      ·simp [wfV, QY, lookR, grow]
      ·exact ⟨wf_data _ _, trivial⟩
    ·intro hb
     obtain rfl : c = 3 := by have := Qf hb; omega
     clear hb
     refine JK ?_
     simp only [zz6, QO, ↓Qb]
     refine hK4 _ ?_; try clear hK4 K4
     refine kpA [0, 3, 4, 5, 7] ?_
     refine Qz F_mixed [some 34, some 35, some 7] rfl ?_
     simp only [zzK, QR, QP, QQ, JC, zz21, JM, zz26, JB, hww, zz6, QO, ↓Qb]
     refine ⟨17 - (w + 1), _, by omega, le_SK id [] rfl (l' := [(0, .d (ints [1, 2, 3, 4, 5, 6])), (3, .ref 3 (kL k ++ wL (k + 1) (w + 1)).length), (4, .d (iv (k + 1 : Nat))), (5, bv true), (7, .d (iv ((w + 1 : Nat) : Int)))]) (m' := [(3, grow 48 3 3 ((kL k ++ wL (k + 1) (w + 1)).map acC))]) ?_ ?_ ?_ ?_, w + 1, by omega, rfl, rfl⟩
     ·simp only [leV, JD, QQ, Qd, Qc, hww, wL_succ, List.append_assoc]; exact ⟨Qn _, Qn _, Qn _, Qn _, Qn _, trivial⟩
     ·exact ⟨fun _ => ⟨_, rfl, Qw (by rw [wL_succ, List.append_assoc])⟩, fun h => by simp at h, trivial⟩
     ·simp [wfV, QY, lookR, grow]
     ·exact ⟨wf_data _ _, trivial⟩
   ·intro hb
    obtain rfl : w = 17 := by
     have : decide ((w : Int) ≤ 16) = false := by simpa using hb
     have := Qf this; omega
    clear hb
    refine JK ?_
    simp only [zz6, QO, ↓Qb]
    refine hK2 _ ?_; try clear hK2 K2
    refine kpA [0, 3, 4] ?_
    refine Qz F_mixed [some 12, some 13, some 4] rfl ?_
    simp only [zzK, QR, QP, QQ, JC, zz21, JM, zz26, JB, hwk, zz6, QO, ↓Qb]
    refine ⟨6 - (k + 1), _, by omega, le_SK id [] rfl (l' := [(0, .d (ints [1, 2, 3, 4, 5, 6])), (3, .ref 3 (kL (k + 1)).length), (4, .d (iv ((k + 1) + 1 : Nat)))]) (m' := [(3, grow 48 3 3 ((kL (k + 1)).map acC))]) ?_ ?_ ?_ ?_, k + 1, by omega, rfl, rfl⟩
    ·simp only [leV, JD, QQ, Qd, Qc, hwk, kL_succ]; exact ⟨Qo rfl, Qn _, Qo rfl, trivial⟩
    ·exact ⟨fun _ => ⟨_, rfl, Qw (by rw [kL_succ])⟩, fun h => by simp at h, trivial⟩
    ·simp [wfV, QY, lookR, grow]
    ·exact ⟨wf_data _ _, trivial⟩
 ·intro hb
  obtain rfl : k = 6 := by have := Qf hb; omega
  clear hb
  refine JK ?_
  simp only [zz6, QO, ↓Qb]
  refine hK0 _ ?_; try clear hK0 K0
  refine kpA [3] ?_
  refine JA fun K0 hK0 => ?_
  refine Qz F_mixed [some 50, some 2] rfl ?_
  simp only [zzK, QR, QP, QQ, JC, JB, zz6, QO, ↓Qb]
  refine hK0 _ ?_; try clear hK0 K0
  refine kpA [2] ?_
  refine JJ ?_
  simp only [zz6, QO, ↓Qb]
  refine done1 3 (by simp only [resCs, resC]; trivial) ?_ (by simp [Ja, Jb, Jc, acC]) (by simp [QY, QX, acC]) (by rfl) trivial rfl rfl ?_ (by simp [flatDs, Jc, acC])
  ·simp only [QD, QE, resA, JZ, QR, QP, JD, QQ, Qd, Qc, JP]; rfl
  ·rfl
def acs (l : List AcV) : D := .sl 3 (l.map acC)
theorem rAllF : ACalls Try.prog 56 [ints [1, 2, 3, 4, 5, 6]] [] (.d (acs allAc)) := rAll_.freeze (by simp [frzOk])
set_option maxRecDepth 100000 in
set_option maxHeartbeats 4000000 in
theorem rJoin_ (l : List LegV) (hl : l.length ≤ 1000000) : ACalls Try.prog 38 [legs l] [⟨50, 4, (joinV l).map legC⟩] (.tp [.ref 0 (joinV l).length, .d (iv (joinR l))]) := by
 refine acalls_S (rs := [.tmp 2, .tmp 3]) Try.func38 rfl rfl 65 [(0, .d (legs l))] rfl (by simp) rfl ?_
 refine JA fun K0 hK0 => ?_
 refine Qz F_mixed [some 2, some 3] rfl ?_
 simp only [zzK, QR, QP, QQ, JB, zz6, QO, ↓Qb]
 refine hK0 _ ?_; try clear hK0 K0
 refine kpA [0] ?_
 refine JA fun K0 hK0 => ?_
 refine JA fun K1 hK1 => ?_
 refine Qz F_mixed [some 11, some 12, some 13] rfl ?_
 simp only [zzK, QR, QP, QQ, JC, JE, JF, zz29, JM, zz30, legs, zz6, QO, ↓Qb]
 refine JT F_go40 (fun hG => rMay_ l hl) (by simp [QY, QX]) (by simp) ?_
 simp only [zzK, QR, QP, QQ, JC, JE, JF, zz29, JM, zz30, legs, zz6, QO, ↓Qb, atsL, oksG, JV, QZ, Qa, JO, Qm, QT, QS, zz9, QB, QA, zzC, yyF, zzD, zz2]
 refine hK1 _ ?_; try clear hK1 K1
 refine kpA [0, 13] ?_
 refine cnA ?_ ?_
 ·intro hb
  have hok : l.all legOk = false := by simpa using hb
  clear hb
  have hjr : joinR l = 3 := by simp only [joinR, hok, Qc]
  have hjv : joinV l = [] := by simp only [joinV, hjr]; rfl
  refine JA fun K2 hK2 => ?_
  refine Qz F_mixed [some 2, some 3] rfl ?_
  simp only [zzK, QR, QP, QQ, JB, zz6, QO, ↓Qb]
  refine hK2 _ ?_; try clear hK2 K2
  refine kpA [2, 3] ?_
  refine awp_le (le_SK id [0] rfl (l' := [(2, .ref 0 0), (3, .d (iv 3))]) (m' := [(0, (⟨True, 50, 4, true, true, 0, []⟩ : ARow))]) ?_ ?_ ?_ ?_) ?_
  ·simp only [leV, JD, QQ, Qd, Qc]; exact ⟨Qq (by decide), Qo rfl, trivial⟩
  ·exact ⟨fun h => by simp at h, fun _ => rfl, trivial⟩
  ·simp [wfV, QY, lookR]
  ·simp [wfR]
  refine JJ ?_
  simp only [zz6, QO, ↓Qb]
  rw [hjv, hjr]
  refine done1 0 (by simp only [resCs, resC]; trivial) ?_ (by simp [Ja, Jb, Jc]) (by simp [QY, QX]) (by rfl) trivial rfl rfl ?_ (by simp [flatDs, Jc])
  ·simp only [QD, QE, resA, JZ, QR, QP, JD, QQ, Qd, Qc, JP]; rfl
  ·rfl
 ·intro hb
  have hok : l.all legOk = true := by simpa using hb
  clear hb
  have hla : allAc.length ≤ 306 := kL_len 6
  refine JI ?_
  simp only [zz6, QO, ↓Qb]
  refine hK0 _ ?_; try clear hK0 K0
  refine kpA [0] ?_
  refine JA fun K0 hK0 => ?_
  refine Qz F_mixed [some 4] rfl ?_
  simp only [zzK, QR, QP, QQ, JB, zz6, QO, ↓Qb]
  refine hK0 _ ?_; try clear hK0 K0
  refine kpA [0, 4] ?_
  refine JA fun K0 hK0 => ?_
  refine Qz F_mixed [some 14, some 15, some 5] rfl ?_
  simp only [zzK, QR, QP, QQ, F_sl57, F_zero3, F_sz3, zz3, JS, zz1, zzG, zzD, zzC, QA, yyE, Qe, QS, QN, zzH, maxLen_le, QT, JE, JF, JB, ints, QD, D.sl.injEq, zz6, QO, ↓Qb]
  refine JT F_go56 (fun hG => rAllF) (by simp [QY, QX]) (by simp) ?_
  simp only [zzK, QR, QP, QQ, F_sl57, F_zero3, F_sz3, zz3, JS, zz1, zzG, zzD, zzC, QA, yyE, Qe, QS, QN, zzH, maxLen_le, QT, JE, JF, JB, ints, QD, zz6, QO, ↓Qb, atsL, oksG, JV, QZ, Qa, JO, Qm, QT, QS, zz9, QB, QA, S_mem, yyF, QF, zz2]
  refine hK0 _ ?_; try clear hK0 K0
  refine kpA [0, 4, 5] ?_
  refine JA fun K0 hK0 => ?_
  refine JA fun K1 hK1 => ?_
  refine Qz F_mixed [some 6] rfl ?_
  simp only [zzK, QR, QP, QQ, JB, zz6, QO, ↓Qb]
  refine hK1 _ ?_; try clear hK1 K1
  refine kpA [0, 4, 5, 6] ?_
  refine JH ?_
  refine JL (fun m s => ∃ A B : List AcV, allAc = A ++ B ∧ (∀ a ∈ A, rightN (sumA a l) = true) ∧ m = B.length ∧ s = S 65 [(0, .d (legs l)), (4, .ref 4 (rOut l A).length), (5, .d (acs allAc)), (6, .d (iv (A).length))] [(4, grow 50 4 4 ((rOut l A).map legC))]) allAc.length _ (le_SK id [4] rfl (l' := [(0, .d (legs l)), (4, .ref 4 (rOut l ([] : List AcV)).length), (5, .d (acs allAc)), (6, .d (iv (([] : List AcV)).length))]) (m' := [(4, grow 50 4 4 ((rOut l ([] : List AcV)).map legC))]) ?_ ?_ ?_ ?_) ⟨[], allAc, rfl, by simp, rfl, rfl⟩ ?_
  ·simp only [leV, JD, QQ, Qd, Qc, legs]; exact ⟨Qo rfl, Qq (by decide), Qo rfl, Qo rfl, trivial⟩
  ·exact ⟨fun h => by simp at h, fun _ => rfl, trivial⟩
  ·simp [wfV, QY, lookR]
  ·simp [wfR, grow, rOut, QX, QY]
  rintro m s ⟨A, B, hAB, hra, rfl, rfl⟩
  have hABl := congrArg List.length hAB
  simp only [QC] at hABl
  have hrl := rOut_len l A
  refine JA fun K2 hK2 => ?_
  refine JA fun K3 hK3 => ?_
  refine Qz F_mixed [some 16, some 17, some 18, some 19] rfl ?_
  simp only [zzK, QR, QP, QQ, JC, JE, zz12, F_sl84, Option.isSome_some, zz21, JM, zz22, acs, JN, zz6, QO, ↓Qb]
  refine hK3 _ ?_; try clear hK3 K3
  refine kpA [0, 4, 5, 6, 19] ?_
  refine cnA ?_ ?_
  ·intro hb
   obtain ⟨a, B, rfl⟩ : ∃ x t, B = x :: t := by
    cases B with
    | nil => have := Qg hb; simp at hABl; omega
    | cons x t => exact ⟨x, t, rfl⟩
   clear hb
   simp only [QF] at hABl
   have ga : (allAc.map acC).getD A.length [] = [iv a.kind, iv a.who, iv a.cur] := by
    rw [hAB, List.map_append]; exact gd_mid' (A := A.map acC) _ _ (by simp)
   have ba := ltI (show A.length < allAc.length by omega)
   have hwa : Ql .i64 ((A.length : Int) + 1) = ((A.length + 1 : Nat) : Int) := by rw [wrapI (by omega) (by omega)]; omega
   have haA : a ∈ allAc := by rw [hAB]; simp
   refine JI ?_
   simp only [zz6, QO, ↓Qb]
   refine hK2 _ ?_; try clear hK2 K2
   refine kpA [0, 4, 5, 6] ?_
   refine JA fun K2 hK2 => ?_
   refine JH ?_
   refine JA fun K3 hK3 => ?_
   refine Qz F_mixed [some 7] rfl ?_
   simp only [zzK, QR, QP, QQ, JB, zz6, QO, ↓Qb]
   refine hK3 _ ?_; try clear hK3 K3
   refine kpA [0, 4, 5, 6, 7] ?_
   refine JA fun K3 hK3 => ?_
   refine JA fun K4 hK4 => ?_
   refine Qz F_mixed [some 8] rfl ?_
   simp only [zzK, QR, QP, QQ, JB, zz6, QO, ↓Qb]
   refine hK4 _ ?_; try clear hK4 K4
   refine kpA [0, 4, 5, 6, 7, 8] ?_
   refine JH ?_
   refine JL (fun m s => ∃ pre post : List LegV, l = pre ++ post ∧ m = post.length ∧ s = S 65 [(0, .d (legs l)), (4, .ref 4 (rOut l A).length), (5, .d (acs allAc)), (6, .d (iv A.length)), (7, .ref 7 (amtA a pre).length), (8, .d (iv (pre).length))] [(4, grow 50 4 4 ((rOut l A).map legC)), (7, grow 3 1 7 ((amtA a pre).map fun n => [iv n]))]) l.length _ (le_SK id [7] rfl (l' := [(0, .d (legs l)), (4, .ref 4 (rOut l A).length), (5, .d (acs allAc)), (6, .d (iv A.length)), (7, .ref 7 (amtA a ([] : List LegV)).length), (8, .d (iv (([] : List LegV)).length))]) (m' := [(4, grow 50 4 4 ((rOut l A).map legC)), (7, grow 3 1 7 ((amtA a ([] : List LegV)).map fun n => [iv n]))]) ?_ ?_ ?_ ?_) ⟨[], l, rfl, rfl, rfl⟩ ?_
   ·simp only [leV, JD, QQ, Qd, Qc, legs, acs]; exact ⟨Qo rfl, VLe.ref_ (f := id) (r := 4) (by simp), Qo rfl, Qo rfl, Qq (by decide), Qo rfl, trivial⟩
   ·exact ⟨fun _ => ⟨_, rfl, Qw rfl⟩, fun h => by simp at h, fun h => by simp at h, fun _ => rfl, trivial⟩
   ·simp [wfV, QY, lookR]
   ·exact ⟨wf_data _ _, by simp [grow, amtA, amts], trivial⟩
   rintro m s ⟨pre, post, hsp, rfl, rfl⟩
   have hspl := congrArg List.length hsp
   simp only [QC] at hspl
   refine JA fun K5 hK5 => ?_
   refine JA fun K6 hK6 => ?_
   refine Qz F_mixed [some 22, some 23, some 24, some 25] rfl ?_
   simp only [zzK, QR, QP, QQ, JC, JE, zz12, F_sl39, Option.isSome_some, zz21, JM, zz22, legs, JN, zz6, QO, ↓Qb]
   refine hK6 _ ?_; try clear hK6 K6
   refine kpA [0, 4, 5, 6, 7, 8, 25] ?_
   refine cnA ?_ ?_
   ·intro hb
    obtain ⟨x, post, rfl⟩ : ∃ x t, post = x :: t := by
     cases post with
     | nil => have := Qg hb; simp at hspl; omega
     | cons x t => exact ⟨x, t, rfl⟩
    clear hb
    simp only [QF] at hspl
    have gx : (l.map legC).getD pre.length [] = [iv x.ac.kind, iv x.ac.who, iv x.ac.cur, iv x.amt] := by
     rw [hsp, List.map_append]; exact gd_mid' (A := pre.map legC) _ _ (by simp)
    have b1 := ltI (show pre.length < l.length by omega)
    have hwi : Ql .i64 ((pre.length : Int) + 1) = ((pre.length + 1 : Nat) : Int) := by rw [wrapI (by omega) (by omega)]; omega
    have hcf : (amtA a pre).length ≤ pre.length := by simp only [amtA, amts, List.length_map]; exact List.length_filter_le _ _
    refine JI ?_
    simp only [zz6, QO, ↓Qb]
    refine hK5 _ ?_; try clear hK5 K5
    refine kpA [0, 4, 5, 6, 7, 8] ?_
    refine JA fun K5 hK5 => ?_
    refine JH ?_
    refine JA fun K6 hK6 => ?_
    refine awp_draw F_mixed [some 28, some 29, some 30, some 31, some 32, some 33, some 34, some 35, some 36, some 37] rfl (by kernel_rfl) ?_
    simp only [zzK, QR, QP, QQ, JC, JW, zz23, zz24, F_sl39, F_sz50, QA, zzC, yyE, Qe, zz19, F_off50_0, zzH, QN, QS, F_ok48, F_ag48, F_sz48, zz8, zzD, F_sl84, JE, JF, legs, acs, acC, JN, gx, b1, ga, ba, ge0, QV, QW, zz6, QO, ↓Qb]
    refine JT F_go57 (fun hG => rSame_ x.ac a) (by simp [QY, QX]) (by simp) ?_
    simp only [zzK, QR, QP, QQ, JC, JW, zz23, zz24, F_sl39, F_sz50, QA, zzC, yyE, Qe, zz19, F_off50_0, zzH, QN, QS, F_ok48, F_ag48, F_sz48, zz8, zzD, F_sl84, JE, JF, legs, acs, acC, JN, gx, b1, ga, ba, ge0, QV, QW, zz6, QO, ↓Qb, atsL, oksG, JV, QZ, Qa, JO, Qm, QT, QS, zz9, QB, QA, S_mem, yyF, QF, zz2]
    refine hK6 _ ?_; try clear hK6 K6
    refine kpA [0, 4, 5, 6, 7, 8, 37] ?_
    refine cnA ?_ ?_
    ·intro hb
     have hcq : acSame x.ac a = true := hb
     clear hb
     have hcx : amtA a (pre ++ [x]) = amtA a pre ++ [x.amt] := by simp only [amtA, amts, List.filter_append, List.filter_cons, hcq, List.filter_nil, if_true, List.map_append, QD, QE]
     refine Qz F_mixed [some 38, some 39, some 40, some 41, some 42, some 43, some 44, some 45, some 7] rfl ?_
     simp only [zzK, QR, QP, QQ, JC, JW, zz23, zz24, F_sl39, F_sz50, QA, zzC, yyE, Qe, zz19, F_off50_1, zzH, QN, QS, F_ok3, F_ag3, F_sz3, zz8, zzD, F_sl57, F_zero3, zz3, JS, zz1, zzG, maxLen_le, QT, JE, F_by3, zz4, zz9, QB, JB, legs, JN, gx, b1, ge0, QV, QW, grow, unDs_map, zz6, QO, ↓Qb]
     have hm : (amtA a pre).length + 1 ≤ 1000000 := by omega
     first | refine ⟨le_maxLen hm, by omega, ?_⟩ | refine ⟨by simp [amtA, amts], le_maxLen hm, by omega, ?_⟩
     clear hm
     refine hK5 _ ?_; try clear hK5 K5
     refine kpA [0, 4, 5, 6, 7, 8] ?_
     refine Qz F_mixed [some 26, some 27, some 8] rfl ?_
     simp only [zzK, QR, QP, QQ, JC, zz21, JM, zz26, JB, hwi, zz6, QO, ↓Qb]
     refine ⟨post.length, _, by simp, le_SK (fun r => bif r == 7 then 45 else r) [] rfl (l' := [(0, .d (legs l)), (4, .ref 4 (rOut l A).length), (5, .d (acs allAc)), (6, .d (iv A.length)), (7, .ref 7 (amtA a (pre ++ [x])).length), (8, .d (iv ((pre ++ [x])).length))]) (m' := [(4, grow 50 4 4 ((rOut l A).map legC)), (7, grow 3 1 7 ((amtA a (pre ++ [x])).map fun n => [iv n]))]) ?_ ?_ ?_ ?_, pre ++ [x], post, by rw [hsp]; simp, rfl, rfl⟩
     ·simp only [leV, JD, QQ, Qd, Qc, hwi, hcx, QC, QM]
      refine ⟨Qo rfl, ?_, Qo rfl, Qo rfl, ?_, Qo rfl, trivial⟩
      ·exact VLe.ref_ (f := (fun r => bif r == 7 then 45 else r)) (r := 4) (by simp)
      ·exact VLe.ref_ (f := (fun r => bif r == 7 then 45 else r)) (r := 7) (by simp)
     ·exact ⟨fun _ => ⟨_, rfl, Qw rfl⟩, fun h => by simp at h, fun _ => ⟨_, rfl, Qw (by rw [hcx] <;> simp)⟩, fun h => by simp at h, trivial⟩
     ·simp [wfV, QY, lookR, grow]
     ·exact ⟨wf_data _ _, wf_data _ _, trivial⟩
    ·intro hb
     have hcq : acSame x.ac a = false := hb
     clear hb
     have hcx : amtA a (pre ++ [x]) = amtA a pre := by simp only [amtA, amts, List.filter_append, List.filter_cons, hcq, List.filter_nil, Bool.false_eq_true, if_false, QG]
     refine JI ?_
     simp only [zz6, QO, ↓Qb]
     refine hK5 _ ?_; try clear hK5 K5
     refine kpA [0, 4, 5, 6, 7, 8] ?_
     refine Qz F_mixed [some 26, some 27, some 8] rfl ?_
     simp only [zzK, QR, QP, QQ, JC, zz21, JM, zz26, JB, hwi, zz6, QO, ↓Qb]
     refine ⟨post.length, _, by simp, le_SK (fun r => bif r == 7 then 7 else r) [] rfl (l' := [(0, .d (legs l)), (4, .ref 4 (rOut l A).length), (5, .d (acs allAc)), (6, .d (iv A.length)), (7, .ref 7 (amtA a (pre ++ [x])).length), (8, .d (iv ((pre ++ [x])).length))]) (m' := [(4, grow 50 4 4 ((rOut l A).map legC)), (7, grow 3 1 7 ((amtA a (pre ++ [x])).map fun n => [iv n]))]) ?_ ?_ ?_ ?_, pre ++ [x], post, by rw [hsp]; simp, rfl, rfl⟩
     ·simp only [leV, JD, QQ, Qd, Qc, hwi, hcx, QC, QM]
      refine ⟨Qo rfl, ?_, Qo rfl, Qo rfl, ?_, Qo rfl, trivial⟩
      ·exact VLe.ref_ (f := (fun r => bif r == 7 then 7 else r)) (r := 4) (by simp)
      ·exact VLe.ref_ (f := (fun r => bif r == 7 then 7 else r)) (r := 7) (by simp)
     ·exact ⟨fun _ => ⟨_, rfl, Qw rfl⟩, fun h => by simp at h, fun _ => ⟨_, rfl, Qw (by rw [hcx] <;> simp)⟩, fun h => by simp at h, trivial⟩
     ·simp [wfV, QY, lookR, grow]
     ·exact ⟨wf_data _ _, wf_data _ _, trivial⟩
   ·intro hb
    obtain rfl : post = [] := by
     cases post with
     | nil => rfl
     | cons x t => have := Qf hb; simp at hspl; omega
    clear hb
    simp only [QG] at hsp
    obtain rfl : l = pre := hsp
    have hcf : (amtA a l).length ≤ l.length := by simp only [amtA, amts, List.length_map]; exact List.length_filter_le _ _
    have hrt : (amtA a l).all rightN = true := amts_rt fun y hy => ok_rt hok y (List.mem_filter.1 hy).1
    refine JK ?_
    simp only [zz6, QO, ↓Qb]
    refine hK3 _ ?_; try clear hK3 K3
    refine kpA [0, 4, 5, 6, 7] ?_
    refine JA fun K3 hK3 => ?_
    refine Qz F_mixed [some 47, some 48, some 46, some 49, some 50, some 9, some 10] rfl ?_
    simp only [zzK, QR, QP, QQ, JC, JE, JF, zz14, zzD, QS, QN, zzF, JB, ints, grow, D.sl.injEq, JN, amtA_sum, zz6, QO, ↓Qb]
    refine JT F_go33 (fun hG => Add_ (amtA a l) (by omega) (rt_bound hrt)) (by simp [QY, QX]) (by simp) ?_
    simp only [zzK, QR, QP, QQ, JC, JE, JF, zz14, zzD, QS, QN, zzF, JB, ints, grow, JN, amtA_sum, zz6, QO, ↓Qb, atsL, oksG, JV, QZ, Qa, JO, Qm, QT, QS, zz9, QB, QA, zzC, yyF, QF, zz2]
    first | refine ⟨by simp, ?_⟩ | skip
    refine hK3 _ ?_; try clear hK3 K3
    refine kpA [0, 4, 5, 6, 9, 10] ?_
    refine JA fun K3 hK3 => ?_
    refine JA fun K4 hK4 => ?_
    refine Qz F_mixed [some 51, some 52] rfl ?_
    simp only [zzK, QR, QP, QQ, JC, zz29, JM, zz30, zz6, QO, ↓Qb]
    refine hK4 _ ?_; try clear hK4 K4
    refine kpA [0, 4, 5, 6, 9, 52] ?_
    refine cnA ?_ ?_
    ·intro hb
     have hbad : rightN (sumA a l) = false := by simpa using hb
     clear hb
     have hrb := ref_bad hok haA hbad
     refine JA fun K5 hK5 => ?_
     refine Qz F_mixed [some 2, some 3] rfl ?_
     simp only [zzK, QR, QP, QQ, JB, zz6, QO, ↓Qb]
     refine hK5 _ ?_; try clear hK5 K5
     refine kpA [2, 3] ?_
     refine awp_le (le_SK id [0] rfl (l' := [(2, .ref 0 0), (3, .d (iv 1))]) (m' := [(0, (⟨True, 50, 4, true, true, 0, []⟩ : ARow))]) ?_ ?_ ?_ ?_) ?_
     ·simp only [leV, JD, QQ, Qd, Qc]; exact ⟨Qq (by decide), Qo rfl, trivial⟩
     ·exact ⟨fun h => by simp at h, fun _ => rfl, trivial⟩
     ·simp [wfV, QY, lookR]
     ·simp [wfR]
     refine JJ ?_
     simp only [zz6, QO, ↓Qb]
     rw [hrb.1, hrb.2]
     refine done1 0 (by simp only [resCs, resC]; trivial) ?_ (by simp [Ja, Jb, Jc]) (by simp [QY, QX]) (by rfl) trivial rfl rfl ?_ (by simp [flatDs, Jc])
     ·simp only [QD, QE, resA, JZ, QR, QP, JD, QQ, Qd, Qc, JP]; rfl
     ·rfl
    ·intro hb
     have hgood : rightN (sumA a l) = true := by simpa using hb
     clear hb
     have hra2 : ∀ b ∈ A ++ [a], rightN (sumA b l) = true := fun b hb => by
      rcases List.mem_append.1 hb with hb | hb
      ·exact hra b hb
      ·obtain rfl : b = a := by simpa using hb
       exact hgood
     simp only [hgood, Qd]
     refine JI ?_
     simp only [zz6, QO, ↓Qb]
     refine hK3 _ ?_; try clear hK3 K3
     refine kpA [0, 4, 5, 6, 9] ?_
     refine JA fun K3 hK3 => ?_
     refine Qz F_mixed [some 53, some 54] rfl ?_
     simp only [zzK, QR, QP, QQ, JC, zz21, JM, zz28, zz6, QO, ↓Qb]
     refine hK3 _ ?_; try clear hK3 K3
     refine kpA [0, 4, 5, 6, 9, 54] ?_
     refine cnA ?_ ?_
     ·intro hb
      have hro : rOut l (A ++ [a]) = rOut l A ++ [(⟨a, sumA a l⟩ : LegV)] := by rw [rOut_snoc, rOne, show (sumA a l != 0) = true from hb]; rfl
      clear hb
      refine Qz F_mixed [some 55, some 56, some 57, some 58, some 59, some 60, some 61, some 62, some 63, some 4] rfl ?_
      simp only [zzK, QR, QP, QQ, JC, JW, zz23, zz24, F_sl84, F_sz48, QA, zzC, yyE, Qe, F_ok48, F_ag48, zz8, zzD, QS, QN, zzH, F_zero50, F_bld50, zz7, splice, Option.getD_some, QG, zz1, zzG, zz10, F_fld50_0, F_fld50_1, F_sl39, F_sz50, zz3, JS, maxLen_le, QT, JE, F_by50, zz4, zz9, QB, JB, acs, acC, JN, ga, ba, ge0, QV, QW, grow, unDs_map, zz6, QO, ↓Qb]
      have hm : (rOut l A).length + 1 ≤ 1000000 := by omega
      first | refine ⟨le_maxLen hm, by omega, ?_⟩ | refine ⟨by simp, le_maxLen hm, by omega, ?_⟩
      clear hm
      refine hK2 _ ?_; try clear hK2 K2
      refine kpA [0, 4, 5, 6] ?_
      refine Qz F_mixed [some 20, some 21, some 6] rfl ?_
      simp only [zzK, QR, QP, QQ, JC, zz21, JM, zz26, JB, hwa, zz6, QO, ↓Qb]
      refine ⟨B.length, _, by simp, le_SK (fun r => bif r == 4 then 63 else r) [] rfl (l' := [(0, .d (legs l)), (4, .ref 4 (rOut l (A ++ [a])).length), (5, .d (acs allAc)), (6, .d (iv ((A ++ [a])).length))]) (m' := [(4, grow 50 4 4 ((rOut l (A ++ [a])).map legC))]) ?_ ?_ ?_ ?_, A ++ [a], B, by rw [hAB]; simp, hra2, rfl, rfl⟩
      ·simp only [leV, JD, QQ, Qd, Qc, hwa, hro, QC, QM]
       refine ⟨Qo rfl, ?_, Qo rfl, Qo rfl, trivial⟩
       exact VLe.ref_ (f := (fun r => bif r == 4 then 63 else r)) (r := 4) (by simp)
      ·exact ⟨fun _ => ⟨_, rfl, Qw (by rw [hro] <;> simp [legC])⟩, fun h => by simp at h, trivial⟩
      ·simp [wfV, QY, lookR, grow]
      ·exact ⟨wf_data _ _, trivial⟩
     ·intro hb
      have hro : rOut l (A ++ [a]) = rOut l A := by rw [rOut_snoc, rOne, show (sumA a l != 0) = false from hb]; simp
      clear hb
      refine JI ?_
      simp only [zz6, QO, ↓Qb]
      refine hK2 _ ?_; try clear hK2 K2
      refine kpA [0, 4, 5, 6] ?_
      refine Qz F_mixed [some 20, some 21, some 6] rfl ?_
      simp only [zzK, QR, QP, QQ, JC, zz21, JM, zz26, JB, hwa, zz6, QO, ↓Qb]
      refine ⟨B.length, _, by simp, le_SK (fun r => bif r == 4 then 4 else r) [] rfl (l' := [(0, .d (legs l)), (4, .ref 4 (rOut l (A ++ [a])).length), (5, .d (acs allAc)), (6, .d (iv ((A ++ [a])).length))]) (m' := [(4, grow 50 4 4 ((rOut l (A ++ [a])).map legC))]) ?_ ?_ ?_ ?_, A ++ [a], B, by rw [hAB]; simp, hra2, rfl, rfl⟩
      ·simp only [leV, JD, QQ, Qd, Qc, hwa, hro, QC, QM]
       refine ⟨Qo rfl, ?_, Qo rfl, Qo rfl, trivial⟩
       exact VLe.ref_ (f := (fun r => bif r == 4 then 4 else r)) (r := 4) (by simp)
      ·exact ⟨fun _ => ⟨_, rfl, Qw (by rw [hro] <;> simp [legC])⟩, fun h => by simp at h, trivial⟩
      ·simp [wfV, QY, lookR, grow]
      ·exact ⟨wf_data _ _, trivial⟩
  ·intro hb
   obtain rfl : B = [] := by
    cases B with
    | nil => rfl
    | cons x t => have := Qf hb; simp at hABl; omega
   clear hb
   simp only [QG] at hAB
   subst hAB
   have hrg := ref_good hok hra
   refine JK ?_
   simp only [zz6, QO, ↓Qb]
   refine hK0 _ ?_; try clear hK0 K0
   refine kpA [4] ?_
   refine JA fun K0 hK0 => ?_
   refine Qz F_mixed [some 64, some 2, some 3] rfl ?_
   simp only [zzK, QR, QP, QQ, JC, JB, zz6, QO, ↓Qb]
   refine hK0 _ ?_; try clear hK0 K0
   refine kpA [2, 3] ?_
   refine JJ ?_
   simp only [zz6, QO, ↓Qb]
   rw [hrg.1, hrg.2]
   refine done1 4 (by simp only [resCs, resC]; trivial) ?_ (by simp [Ja, Jb, Jc, legC]) (by simp [QY, QX, legC]) (by rfl) trivial rfl rfl ?_ (by simp [flatDs, Jc, legC])
   ·simp only [QD, QE, resA, JZ, QR, QP, JD, QQ, Qd, Qc, JP]; rfl
   ·rfl
theorem rJoinF (l : List LegV) (hl : l.length ≤ 1000000) : ACalls Try.prog 38 [legs l] [] (.tp [.d (legs (joinV l)), .d (iv (joinR l))]) := (rJoin_ l hl).freezeT (by simp [frzOk, frzOkL])
set_option maxRecDepth 100000 in
set_option maxHeartbeats 4000000 in
theorem rNLegs_ (l : List LegV) (hk : K2 l) (hl : l.length ≤ 400000) : ACalls Try.prog 17 [dues l] [⟨50, 4, (nlV l).map legC⟩] (.tp [.ref 0 (nlV l).length, .d (iv (nlR l))]) := by
 refine acalls_S (rs := [.tmp 2, .tmp 3]) Try.func17 rfl rfl 79 [(0, .d (dues l))] rfl (by simp) rfl ?_
 refine JA fun K0 hK0 => ?_
 refine Qz F_mixed [some 2, some 3] rfl ?_
 simp only [zzK, QR, QP, QQ, JB, zz6, QO, ↓Qb]
 refine hK0 _ ?_; try clear hK0 K0
 refine kpA [0] ?_
 refine JA fun K0 hK0 => ?_
 refine JA fun K1 hK1 => ?_
 refine Qz F_mixed [some 4] rfl ?_
 simp only [zzK, QR, QP, QQ, JB, zz6, QO, ↓Qb]
 refine hK1 _ ?_; try clear hK1 K1
 refine kpA [0, 4] ?_
 refine JH ?_
 refine JL (fun m s => ∃ (pre : List LegV) (post : List LegV), (l = pre ++ post) ∧ ((pre.all fun x => acOk x.ac) = true) ∧ m = post.length ∧ s = S 79 [(0, .d (dues l)), (4, .d (iv pre.length))] []) (l.length) _ (le_SK id [] rfl (l' := [(0, .d (dues l)), (4, .d (iv [].length))]) (m' := []) ?_ ?_ ?_ ?_) ⟨[], l, rfl, rfl, rfl, rfl⟩ ?_
 ·simp only [leV, JD, QQ, Qd, Qc]; exact ⟨(by first | exact Qo rfl | exact Qq (by decide) | exact Qp | exact Qn _ | exact Qs (by simp) (by rfl) | exact Qr (by simp) (by rfl) (by first | rfl | (simp; done) | (simp; omega)) | exact Qt (by first | rfl | simp)), (by first | exact Qo rfl | exact Qq (by decide) | exact Qp | exact Qn _ | exact Qs (by simp) (by rfl) | exact Qr (by simp) (by rfl) (by first | rfl | (simp; done) | (simp; omega)) | exact Qt (by first | rfl | simp)), trivial⟩
 ·exact trivial
 ·simp [wfV, QY, QX, lookR, grow]
 ·simp [wfR]
 rintro m s ⟨pre, post, hsp, hpa, rfl, rfl⟩
 have hspl := congrArg List.length hsp
 simp only [QC] at hspl
 refine JA fun K2 hK2 => ?_
 refine JA fun K3 hK3 => ?_
 refine Qz F_mixed [some 9, some 10, some 11, some 12] rfl ?_
 simp only [zzK, QR, QP, QQ, JC, JE, zz12, F_sl22, Option.isSome_some, zz21, JM, zz22, dues, JN, zz6, QO, ↓Qb]
 refine hK3 _ ?_; try clear hK3 K3
 refine kpA [0, 4, 12] ?_
 refine cnA ?_ ?_
 ·intro hb
  obtain ⟨x, post2, rfl⟩ : ∃ x t, post = x :: t := by
   cases post with
   | nil => have := Qg hb; simp at hspl; omega
   | cons x t => exact ⟨x, t, rfl⟩
  clear hb
  simp only [QF] at hspl
  have gx : (l.map dueC).getD pre.length [] = [iv x.ac.who, iv x.ac.cur, iv x.amt] := by
   rw [hsp, List.map_append]; exact gd_mid' (A := pre.map dueC) _ _ (by simp)
  have bx := ltI (show pre.length < l.length by omega)
  have hwx : Ql .i64 ((pre.length : Int) + 1) = ((pre ++ [x]).length : Int) := by rw [wrapI (by omega) (by omega)]; simp
  have hxk := hk x (by rw [hsp]; simp)
  refine JI ?_
  simp only [zz6, QO, ↓Qb]
  refine hK2 _ ?_; try clear hK2 K2
  refine kpA [0, 4] ?_
  refine JA fun K2 hK2 => ?_
  refine JH ?_
  refine JA fun K3 hK3 => ?_
  refine awp_draw F_mixed [some 15, some 16, some 17, some 18, some 19, some 20, some 21, some 22, some 23, some 24, some 25, some 26, some 27] rfl (by kernel_rfl) ?_
  simp only [zzK, QR, QP, QQ, JC, JW, zz23, zz24, F_sl22, F_sz30, QA, zzC, yyE, Qe, zz19, F_off30_0, zzH, QN, QS, F_ok3, F_ag3, F_sz3, zz8, zzD, F_off30_1, F_zero48, F_bld48, zz7, splice, Option.getD_some, QG, zz1, zzG, zz10, F_fld48_0, F_fld48_1, F_fld48_2, JE, JF, zz29, JM, zz30, dues, acC, hxk, gx, bx, hwx, JN, ge0, QV, QW, zz6, QO, ↓Qb]
  refine JT F_go37 (fun hG => rAcRight_ x.ac) (by simp [QY, QX]) (by simp) ?_
  simp only [zzK, QR, QP, QQ, JC, JW, zz23, zz24, F_sl22, F_sz30, QA, zzC, yyE, Qe, zz19, F_off30_0, zzH, QN, QS, F_ok3, F_ag3, F_sz3, zz8, zzD, F_off30_1, F_zero48, F_bld48, zz7, splice, Option.getD_some, QG, zz1, zzG, zz10, F_fld48_0, F_fld48_1, F_fld48_2, JE, JF, zz29, JM, zz30, dues, acC, hxk, gx, bx, hwx, JN, ge0, QV, QW, zz6, QO, ↓Qb, atsL, oksG, JV, QZ, Qa, JO, Qm, QT, QS, zz9, QB, QA, S_mem, yyF, QF, zz2]
  refine hK3 _ ?_; try clear hK3 K3
  refine kpA [0, 4, 27] ?_
  refine cnA ?_ ?_
  ·intro hb
   have hq : acOk x.ac = false := by simpa using hb
   clear hb
   have hr : nlR l = 3 := by simp only [nlR, show l.all legOk = false by rw [hsp]; simp [legOk, hq]]; rfl
   have hv : nlV l = [] := nl_no (by rw [hr]; decide)
   refine JA fun K4 hK4 => ?_
   refine Qz F_mixed [some 2, some 3] rfl ?_
   simp only [zzK, QR, QP, QQ, JB, zz6, QO, ↓Qb]
   refine hK4 _ ?_; try clear hK4 K4
   refine kpA [2, 3] ?_
   refine awp_le (le_SK id [0] rfl (l' := [(2, .ref 0 0), (3, .d (iv 3))]) (m' := [(0, (⟨True, 50, 4, true, true, 0, []⟩ : ARow))]) ?_ ?_ ?_ ?_) ?_
   ·simp only [leV, JD, QQ, Qd, Qc]; exact ⟨Qq (by decide), Qo rfl, trivial⟩
   ·exact ⟨fun h => by simp at h, fun _ => rfl, trivial⟩
   ·simp [wfV, QY, lookR]
   ·simp [wfR]
   refine JJ ?_
   simp only [zz6, QO, ↓Qb]
   rw [hv, hr]
   refine done1 0 (by simp only [resCs, resC]; trivial) ?_ (by simp [Ja, Jb, Jc]) (by simp [QY, QX]) (by rfl) trivial rfl rfl ?_ (by simp [flatDs, Jc])
   ·simp only [QD, QE, resA, JZ, QR, QP, JD, QQ, Qd, Qc, JP]; rfl
   ·rfl
  ·intro hb
   have hq : acOk x.ac = true := by simpa using hb
   clear hb
   refine JI ?_
   simp only [zz6, QO, ↓Qb]
   refine hK2 _ ?_; try clear hK2 K2
   refine kpA [0, 4] ?_
   refine Qz F_mixed [some 13, some 14, some 4] rfl ?_
   simp only [zzK, QR, QP, QQ, JC, zz21, JM, zz26, JB, hwx, zz6, QO, ↓Qb]
   refine ⟨post2.length, _, by simp, le_SK id [] rfl (l' := [(0, .d (dues l)), (4, .d (iv (pre ++ [x]).length))]) (m' := []) ?_ ?_ ?_ ?_, (pre ++ [x]), post2, by simp [hsp], by rw [List.all_append, hpa]; simpa using hq, rfl, rfl⟩
   ·simp only [leV, JD, QQ, Qd, Qc, hwx]; exact ⟨(by first | exact Qo rfl | exact Qq (by decide) | exact Qp | exact Qn _ | exact Qs (by simp) (by rfl) | exact Qr (by simp) (by rfl) (by first | rfl | (simp; done) | (simp; omega)) | exact Qt (by first | rfl | simp)), (by first | exact Qo rfl | exact Qq (by decide) | exact Qp | exact Qn _ | exact Qs (by simp) (by rfl) | exact Qr (by simp) (by rfl) (by first | rfl | (simp; done) | (simp; omega)) | exact Qt (by first | rfl | simp)), trivial⟩
   ·exact trivial
   ·simp [wfV, QY, QX, lookR, grow]
   ·simp [wfR]
 ·intro hb
  obtain rfl : post = [] := by
   cases post with
   | nil => rfl
   | cons x t => have := Qf hb; simp at hspl; omega
  clear hb
  simp only [QG] at hsp
  subst hsp
  have hlk := leg_all hpa
  refine JK ?_
  simp only [zz6, QO, ↓Qb]
  refine hK0 _ ?_; try clear hK0 K0
  refine kpA [0] ?_
  refine JA fun K0 hK0 => ?_
  refine Qz F_mixed [some 29, some 30, some 28, some 31, some 32, some 5, some 6] rfl ?_
  simp only [zzK, QR, QP, QQ, JC, JE, JF, zz14, zzD, QS, QN, zzF, JB, dues, zz6, QO, ↓Qb]
  refine JT F_go13 (fun hG => rNetF l hk (by omega)) (by simp [QY, QX]) (by simp) ?_
  simp only [zzK, QR, QP, QQ, JC, JE, JF, zz14, zzD, QS, QN, zzF, JB, dues, zz6, QO, ↓Qb, atsL, oksG, JV, QZ, Qa, JO, Qm, QT, QS, zz9, QB, QA, zzC, yyF, QF, zz2]
  refine hK0 _ ?_; try clear hK0 K0
  refine kpA [5, 6] ?_
  refine JA fun K0 hK0 => ?_
  refine JA fun K1 hK1 => ?_
  refine Qz F_mixed [some 33, some 34] rfl ?_
  simp only [zzK, QR, QP, QQ, JC, zz21, JM, zz28, zz6, QO, ↓Qb]
  refine hK1 _ ?_; try clear hK1 K1
  refine kpA [5, 6, 34] ?_
  refine cnA ?_ ?_
  ·intro hb
   have hn : (netR l != 0) = true := hb
   clear hb
   have hr : nlR l = netR l := nl_bad hpa (by simpa using hn)
   have hv : nlV l = [] := nl_no (by rw [hr]; simpa using hn)
   refine JA fun K2 hK2 => ?_
   refine Qz F_mixed [some 35, some 2, some 3] rfl ?_
   simp only [zzK, QR, QP, QQ, JC, JB, zz6, QO, ↓Qb]
   refine hK2 _ ?_; try clear hK2 K2
   refine kpA [2, 3] ?_
   refine awp_le (le_SK id [0] rfl (l' := [(2, .ref 0 0), (3, .d (iv (netR l)))]) (m' := [(0, (⟨True, 50, 4, true, true, 0, []⟩ : ARow))]) ?_ ?_ ?_ ?_) ?_
   ·simp only [leV, JD, QQ, Qd, Qc]; exact ⟨Qq (by decide), Qo rfl, trivial⟩
   ·exact ⟨fun h => by simp at h, fun _ => rfl, trivial⟩
   ·simp [wfV, QY, lookR]
   ·simp [wfR]
   refine JJ ?_
   simp only [zz6, QO, ↓Qb]
   rw [hv, hr]
   refine done1 0 (by simp only [resCs, resC]; trivial) ?_ (by simp [Ja, Jb, Jc]) (by simp [QY, QX]) (by rfl) trivial rfl rfl ?_ (by simp [flatDs, Jc])
   ·simp only [QD, QE, resA, JZ, QR, QP, JD, QQ, Qd, Qc, JP]; rfl
   ·rfl
  ·intro hb
   have hn : (netR l != 0) = false := hb
   clear hb
   have hn0 : netR l = 0 := by simpa using hn
   have hrt := net_ok hn0
   have hok : l.all legOk = true := by rw [hlk]; exact netR_rt hn0
   have hr : nlR l = joinR (payL (netV l)) := by simp only [nlR, hok, hn, Qd, Qc]
   have hv : nlV l = joinV (payL (netV l)) := by
    simp only [nlV, hr, joinV]
    cases joinR (payL (netV l)) == 0 <;> rfl
   have hnl := net_len l
   refine JI ?_
   simp only [zz6, QO, ↓Qb]
   refine hK0 _ ?_; try clear hK0 K0
   refine kpA [5] ?_
   refine JA fun K0 hK0 => ?_
   refine Qz F_mixed [some 7] rfl ?_
   simp only [zzK, QR, QP, QQ, JB, zz6, QO, ↓Qb]
   refine hK0 _ ?_; try clear hK0 K0
   refine kpA [5, 7] ?_
   refine JA fun K0 hK0 => ?_
   refine JA fun K1 hK1 => ?_
   refine Qz F_mixed [some 8] rfl ?_
   simp only [zzK, QR, QP, QQ, JB, zz6, QO, ↓Qb]
   refine hK1 _ ?_; try clear hK1 K1
   refine kpA [5, 7, 8] ?_
   refine JH ?_
   refine JL (fun m s => ∃ (pre : List LegV) (post : List LegV), (netV l = pre ++ post) ∧ m = post.length ∧ s = S 79 [(5, .d (dues (netV l))), (7, .ref 7 (payL pre).length), (8, .d (iv pre.length))] [(7, grow 50 4 7 ((payL pre).map legC))]) ((netV l).length) _ (le_SK id [7] rfl (l' := [(5, .d (dues (netV l))), (7, .ref 7 (payL []).length), (8, .d (iv [].length))]) (m' := [(7, grow 50 4 7 ((payL []).map legC))]) ?_ ?_ ?_ ?_) ⟨[], (netV l), rfl, rfl, rfl⟩ ?_
   ·simp only [leV, JD, QQ, Qd, Qc]; exact ⟨(by first | exact Qo rfl | exact Qq (by decide) | exact Qp | exact Qn _ | exact Qs (by simp) (by rfl) | exact Qr (by simp) (by rfl) (by first | rfl | (simp; done) | (simp; omega)) | exact Qt (by first | rfl | simp)), (by first | exact Qo rfl | exact Qq (by decide) | exact Qp | exact Qn _ | exact Qs (by simp) (by rfl) | exact Qr (by simp) (by rfl) (by first | rfl | (simp; done) | (simp; omega)) | exact Qt (by first | rfl | simp)), (by first | exact Qo rfl | exact Qq (by decide) | exact Qp | exact Qn _ | exact Qs (by simp) (by rfl) | exact Qr (by simp) (by rfl) (by first | rfl | (simp; done) | (simp; omega)) | exact Qt (by first | rfl | simp)), trivial⟩
   ·exact ⟨fun h => by simp at h, fun _ => rfl, trivial⟩
   ·simp [wfV, QY, QX, lookR, grow]
   ·exact ⟨wf_data _ _, trivial⟩
   rintro m s ⟨pre, post, hsp, rfl, rfl⟩
   have hspl := congrArg List.length hsp
   simp only [QC] at hspl
   have hpl := payL_len pre
   refine JA fun K2 hK2 => ?_
   refine JA fun K3 hK3 => ?_
   refine Qz F_mixed [some 36, some 37, some 38, some 39] rfl ?_
   simp only [zzK, QR, QP, QQ, JC, JE, zz12, F_sl22, Option.isSome_some, zz21, JM, zz22, dues, JN, zz6, QO, ↓Qb]
   refine hK3 _ ?_; try clear hK3 K3
   refine kpA [5, 7, 8, 39] ?_
   refine cnA ?_ ?_
   ·intro hb
    obtain ⟨x, post2, rfl⟩ : ∃ x t, post = x :: t := by
     cases post with
     | nil => have := Qg hb; simp at hspl; omega
     | cons x t => exact ⟨x, t, rfl⟩
    clear hb
    simp only [QF] at hspl
    have gx : ((netV l).map dueC).getD pre.length [] = [iv x.ac.who, iv x.ac.cur, iv x.amt] := by
     rw [hsp, List.map_append]; exact gd_mid' (A := pre.map dueC) _ _ (by simp)
    have bx := ltI (show pre.length < (netV l).length by omega)
    have hwx : Ql .i64 ((pre.length : Int) + 1) = ((pre ++ [x]).length : Int) := by rw [wrapI (by omega) (by omega)]; simp
    have hxr : rightN x.amt = true := rt_of hrt x (by rw [hsp]; simp)
    have hxn : Ql .i64 (0 - x.amt) = 0 - x.amt := by simp [rightN] at hxr; exact wrapI (by omega) (by omega)
    refine JI ?_
    simp only [zz6, QO, ↓Qb]
    refine hK2 _ ?_; try clear hK2 K2
    refine kpA [5, 7, 8] ?_
    refine JA fun K2 hK2 => ?_
    refine JH ?_
    refine awp_draw F_mixed [some 42, some 43, some 44, some 45, some 46, some 47, some 48, some 49, some 50, some 51, some 52, some 53, some 54, some 55, some 56, some 57, some 58, some 59, some 60, some 61, some 62, some 63, some 64, some 65, some 66, some 67, some 68, some 69, some 70, some 71, some 72, some 73, some 74, some 7] rfl (by kernel_rfl) ?_
    simp only [zzK, QR, QP, QQ, JC, JW, zz23, zz24, F_sl22, F_sz30, QA, zzC, yyE, Qe, zz19, F_off30_0, zzH, QN, QS, F_ok3, F_ag3, F_sz3, zz8, zzD, F_off30_1, F_zero48, F_bld48, zz7, splice, Option.getD_some, QG, zz1, zzG, zz10, F_fld48_0, F_fld48_1, F_fld48_2, F_off30_2, F_zero50, F_bld50, F_fld50_0, F_fld50_1, zz29, JM, zz37, F_sl39, F_sz50, zz3, JS, maxLen_le, QT, JE, F_by50, zz4, zz9, QB, JB, dues, hxn, grow, unDs_map, gx, bx, hwx, JN, ge0, QV, QW, zz6, QO, ↓Qb]
    have hm : (payL pre).length + 2 ≤ 1000000 := by omega
    first | refine ⟨le_maxLen hm, by omega, ?_⟩ | refine ⟨by simp, le_maxLen hm, by omega, ?_⟩
    clear hm
    refine hK2 _ ?_; try clear hK2 K2
    refine kpA [5, 7, 8] ?_
    refine Qz F_mixed [some 40, some 41, some 8] rfl ?_
    simp only [zzK, QR, QP, QQ, JC, zz21, JM, zz26, JB, hwx, zz6, QO, ↓Qb]
    refine ⟨post2.length, _, by simp, le_SK (fun r => bif r == 7 then 74 else r) [] rfl (l' := [(5, .d (dues (netV l))), (7, .ref 7 (payL (pre ++ [x])).length), (8, .d (iv (pre ++ [x]).length))]) (m' := [(7, grow 50 4 7 ((payL (pre ++ [x])).map legC))]) ?_ ?_ ?_ ?_, (pre ++ [x]), post2, by simp [hsp], rfl, rfl⟩
    ·simp only [leV, JD, QQ, Qd, Qc, hwx]; exact ⟨(by first | exact Qo rfl | exact Qq (by decide) | exact Qp | exact Qn _ | exact Qs (by simp) (by rfl) | exact Qr (by simp) (by rfl) (by first | rfl | (simp; done) | (simp; omega)) | exact Qt (by first | rfl | simp)), (Qr (by simp) (by rfl) (by rw [payL_snoc]; simp)), (by first | exact Qo rfl | exact Qq (by decide) | exact Qp | exact Qn _ | exact Qs (by simp) (by rfl) | exact Qr (by simp) (by rfl) (by first | rfl | (simp; done) | (simp; omega)) | exact Qt (by first | rfl | simp)), trivial⟩
    ·exact ⟨fun _ => ⟨_, rfl, Qw (by rw [payL_snoc]; simp [legC, cashL, varL])⟩, fun h => by simp at h, trivial⟩
    ·simp [wfV, QY, QX, lookR, grow]
    ·exact ⟨wf_data _ _, trivial⟩
   ·intro hb
    obtain rfl : post = [] := by
     cases post with
     | nil => rfl
     | cons x t => have := Qf hb; simp at hspl; omega
    clear hb
    simp only [QG] at hsp
    subst hsp
    refine JK ?_
    simp only [zz6, QO, ↓Qb]
    refine hK0 _ ?_; try clear hK0 K0
    refine kpA [7] ?_
    refine JA fun K0 hK0 => ?_
    refine Qz F_mixed [some 75, some 76, some 77, some 78, some 2, some 3] rfl ?_
    simp only [zzK, QR, QP, QQ, JC, JE, JF, zz14, zzD, QS, QN, zzF, JB, legs, grow, D.sl.injEq, JN, zz6, QO, ↓Qb]
    refine JT F_go38 (fun hG => rJoin_ (payL (netV l)) (by rw [payL_len]; omega)) (by simp [QY, QX]) (by simp) ?_
    simp only [zzK, QR, QP, QQ, JC, JE, JF, zz14, zzD, QS, QN, zzF, JB, legs, grow, JN, zz6, QO, ↓Qb, atsL, oksG, JV, QZ, Qa, JO, Qm, QT, QS, zz9, QB, QA, zzC, yyF, QF, zz2]
    first | refine ⟨by simp, ?_⟩ | skip
    refine hK0 _ ?_; try clear hK0 K0
    refine kpA [2, 3] ?_
    refine JJ ?_
    simp only [zz6, QO, ↓Qb]
    rw [hv, hr]
    refine done1 77000 (by simp only [resCs, resC]; trivial) ?_ (by simp [Ja, Jb, Jc, legC]) (by simp [QY, QX, legC]) (by rfl) trivial rfl rfl ?_ (by simp [flatDs, Jc, legC])
    ·simp only [QD, QE, resA, JZ, QR, QP, JD, QQ, Qd, Qc, JP]; rfl
    ·rfl
theorem rNLegsF (l : List LegV) (hk : K2 l) (hl : l.length ≤ 400000) : ACalls Try.prog 17 [dues l] [] (.tp [.d (legs (nlV l)), .d (iv (nlR l))]) := (rNLegs_ l hk hl).freezeT (by simp [frzOk, frzOkL])

end Go.Proofs.Ytcpkhnciplfmkaa
namespace Go.Proofs.Ytcpkhnciplfmkaa
open Go.RowKit
set_option linter.unusedVariables false
set_option linter.unusedSimpArgs false
open Option renaming map_some → QA, bind_some → QB
open List renaming length_append → QC, map_cons → QD, map_nil → QE, length_cons → QF, append_nil → QG, drop_zero → QH, getD_cons_zero → QI, getD_cons_succ → QJ, take_succ_cons → QK, drop_succ_cons → QL, length_singleton → QM
open Nat renaming zero_add → QN, reduceEqDiff → QO, reduceLeDiff → QP, reduceBEq → QQ, reduceLT → QR, reduceAdd → QS, reduceMul → QT, reduceSub → QU
open D.agg renaming injEq → QW
open AV renaming idsL → QX, ids → QY, ren → QZ, renL → Qa
open _root_ renaming reduceIte → Qb, cond_false → Qc, cond_true → Qd, reduceCtorEq → Qe, imp_self → Qh, imp_and → Qi, and_imp → Qj
open IntKind renaming wrap → Ql
open ORow renaming row → Qm
open VLe renaming refl → Qn
open RowLe renaming same → Qu
open Go.Proofs.Ytcpkhnciplfmkaa renaming awp_plain → Qz, awp_seq → JA, evS_assign → JB, evS_move → JC, look_cons → JD, evS_call → JE, evC_value → JF, awp_block → JH, awp_skip → JI, awp_ret → JJ, gr_v → JM, len_map → JN, addRows → JO, resAll → JP, pickK_l → JQ, pickK_r → JR, call_go → JT, freeN → JV, evS_indexAddr → JW, S_getD → JZ, flatD → Jc
theorem F_go39 : goFn Try.prog 39 := ⟨_, Try.func39, rfl, rfl⟩
theorem F_go12 : goFn Try.prog 12 := ⟨_, Try.func12, rfl, rfl⟩
theorem F_go11 : goFn Try.prog 11 := ⟨_, Try.func11, rfl, rfl⟩
theorem F_go14 : goFn Try.prog 14 := ⟨_, Try.func14, rfl, rfl⟩
theorem F_go17 : goFn Try.prog 17 := ⟨_, Try.func17, rfl, rfl⟩
theorem F_go18 : goFn Try.prog 18 := ⟨_, Try.func18, rfl, rfl⟩
theorem F_go19 : goFn Try.prog 19 := ⟨_, Try.func19, rfl, rfl⟩
theorem nSpoil_ (l : List LegV) (hl : l.length ≤ 1000000) : MCalls Try.prog 14 [.m 0] [⟨30, 3, l.map dueC⟩] [⟨30, 3, (l.map spoilL).map dueC⟩] [] (.tp []) := by
 refine mcalls_S (rs := []) Try.func14 rfl rfl 13 [(0, .ref 1000000000 (l.map dueC).length)] [(1000000000, (⟨True, 30, 3, true, false, 1000000000, (l.map dueC).map (·.map .d)⟩ : ARow))] rfl (by simp) (by rfl) (by rfl) (by rfl) (by rfl) (by rfl) ?_
 simp only [avC_map, JN]
 refine JA fun K0 hK0 => ?_
 refine Qz F_mixed [some 2] rfl ?_
 simp only [zzK, QR, QP, QQ, JB, zz6, QO, ↓Qb]
 refine hK0 _ ?_; try clear hK0 K0
 refine kpA [0, 2] ?_
 refine JH ?_
 refine awp_loop (fun m s => ∃ A pre post : List LegV, l = pre ++ post ∧ A = pre.map spoilL ∧ m = post.length ∧ s = S 13 [(0, .ref 1000000000 (A ++ post).length), (2, .d (iv A.length))] [(1000000000, (⟨True, 30, 3, true, false, 1000000000, (A ++ post).map (avC dueC)⟩ : ARow))]) l.length _ (le_SK id [] rfl (l' := [(0, .ref 1000000000 (([] : List LegV) ++ l).length), (2, .d (iv ([] : List LegV).length))]) (m' := [(1000000000, (⟨True, 30, 3, true, false, 1000000000, (([] : List LegV) ++ l).map (avC dueC)⟩ : ARow))]) ?_ ?_ ?_ ?_) ⟨[], [], l, rfl, rfl, rfl, rfl⟩ ?_
 ·simp only [leV, JD, QQ, Qd, Qc]; exact ⟨Qn _, Qn _, trivial⟩
 ·exact ⟨fun _ => ⟨_, rfl, Qu (by simp) (idsL_avC _ _)⟩, fun h => by simp at h, trivial⟩
 ·simp [wfV, QY, lookR]
 ·exact ⟨fun e he r' hr' => by rw [idsL_avC _ _ e he] at hr'; simp at hr', trivial⟩
 rintro m s ⟨A, pre, post, hsp, hA, rfl, rfl⟩
 refine JA fun K1 hK1 => ?_
 refine JA fun K2 hK2 => ?_
 refine Qz F_mixed [some 3, some 4, some 5, some 6] rfl ?_
 simp only [zzK, QR, QP, QQ, JC, JE, zz12, F_sl22, Option.isSome_some, zz21, JM, zz22, zz6, QO, ↓Qb]
 refine hK2 _ ?_; try clear hK2 K2
 refine kpA [0, 2, 6] ?_
 refine cnA ?_ ?_
 ·intro hb
  obtain ⟨x, post, rfl⟩ := more_of hb; clear hb
  have hw : Ql .i64 ((A.length : Int) + 1) = ((A ++ [spoilL x]).length : Int) := by
   have e := congrArg List.length hsp
   simp only [QC, QF] at e
   have e2 : A.length = pre.length := by rw [hA]; simp
   rw [wrapI (by omega) (by omega)]; simp
  refine JI ?_
  simp only [zz6, QO, ↓Qb]
  refine hK1 _ ?_; try clear hK1 K1
  refine kpA [0, 2] ?_
  refine JA fun K1 hK1 => ?_
  refine JH ?_
  refine Qz F_mixed [some 9, some 10, some 11, some 12, none] rfl ?_
  simp only [zzK, QR, QP, QQ, JC, JW, zz23, zz24, F_sl22, F_sz30, QA, zzC, yyE, Qe, zz19, F_off30_0, zzH, QN, QS, zz18, F_ok3, F_sz3, splice, QG, zzD, zz1, zzG, getD_mid, JN, lt_mid, ge_mid, lt_midN, set_mid, avC, dueC, QD, zz6, QO, ↓Qb]
  refine hK1 _ ?_; try clear hK1 K1
  refine kpA [0, 2] ?_
  refine Qz F_mixed [some 7, some 8, some 2] rfl ?_
  simp only [zzK, QR, QP, QQ, JC, zz21, JM, zz26, JB, zz6, QO, ↓Qb]
  refine ⟨post.length, _, by simp, le_SK id [] rfl (l' := [(0, .ref 1000000000 ((A ++ [spoilL x]) ++ post).length), (2, .d (iv (A ++ [spoilL x]).length))]) (m' := [(1000000000, (⟨True, 30, 3, true, false, 1000000000, ((A ++ [spoilL x]) ++ post).map (avC dueC)⟩ : ARow))]) ?_ ?_ ?_ ?_, A ++ [spoilL x], pre ++ [x], post, by simp [hsp], by simp [hA], rfl, rfl⟩
  ·simp only [leV, JD, QQ, Qd, Qc, hw]
   refine ⟨?_, Qn _, trivial⟩
   rw [show (A ++ x :: post).length = (A ++ [spoilL x] ++ post).length from by simp]; exact Qn _
  ·exact ⟨fun _ => ⟨_, rfl, Qu (by simp [avC, dueC, spoilL]) (by
    intro e he
    rcases List.mem_append.1 he with he | he
    ·exact idsL_avC _ _ e he
    ·rcases List.mem_cons.1 he with rfl | he
     ·simp [QX, QY]
     ·exact idsL_avC _ _ e he)⟩, fun h => by simp at h, trivial⟩
  ·simp [wfV, QY, lookR]
  ·exact ⟨fun e he r' hr' => by rw [idsL_avC _ _ e he] at hr'; simp at hr', trivial⟩
 ·intro hb
  obtain rfl := none_of hb; clear hb
  simp only [QG] at hsp ⊢
  obtain rfl : l = pre := hsp
  subst hA
  refine awp_exit ?_
  simp only [zz6, QO, ↓Qb]
  try simp only [QG]
  refine doneM [] (by simp [resCs, resC, S, List.getD, JD, lookR, ]) ?_ (by simp [flatA, flatAs, Jc, ]) (by simp [QY, QX, ]) (by decide) (by simp) ?_ ?_
  ·simp only [QD, QE, resA, JZ, S_mem, lookR_cons, lookR_nil, QR, QP, JD, QQ, Qd, Qc, JP, QI, QJ, QH, QL, QK, List.take_zero, ]; rfl
  ·exact trivial
  ·exact ⟨⟨_, rfl, trivial, rfl, rfl, (avC_map _ _).symm⟩, by simp [flatDs, Jc, dueC, spoilL], trivial⟩
theorem kAcct_ (a : AcV) : ACalls Try.prog 39 [.agg (acC a), .agg (acC a)] [] (bv true) := by
 refine acalls_S (rs := [.tmp 4]) Try.func39 rfl rfl 24 [(0, .d (.agg (acC a))), (1, .d (.agg (acC a)))] rfl (by simp) rfl ?_
 refine JA fun K0 hK0 => ?_
 refine Qz F_mixed [some 2, some 3, some 4] rfl ?_
 simp only [zzK, QR, QP, QQ, zz35, newRow1, zz1, zzG, zzD, zzC, QA, yyE, Qe, QS, QN, zzH, JB, acC, zz6, QO, ↓Qb]
 refine hK0 _ ?_; try clear hK0 K0
 refine kpA [2, 3] ?_
 refine JA fun K0 hK0 => ?_
 refine Qz F_mixed [some 5, some 6, some 7, some 8, some 9, some 10, some 11, some 12, some 13, some 14, some 15, some 16, some 17, some 18, some 19, some 20, some 21, some 22, some 23, some 4] rfl ?_
 simp only [zzK, QR, QP, QQ, QU, JZ, zz5, Qj, Qi, Qh, zz19, zz23, F_off48_0, zzH, QN, QS, F_ok3, F_ag3, F_sz3, zz8, zzD, zzC, QA, yyE, Qe, zz21, JM, zz34, JC, F_off48_1, zz13, JQ, JR, F_off48_2, JB, zz6, QO, ↓Qb]
 refine hK0 _ ?_; try clear hK0 K0
 refine kpA [4] ?_
 refine JJ ?_
 simp only [zz6, QO, ↓Qb]
 refine dnA ?_
 simp only [QD, QE, resA, JZ, QR, QP, JD, QQ, Qd, Qc, JP]
 simp
theorem kLegs_ (l : List LegV) (hl : l.length ≤ 1000000) : ACalls Try.prog 18 [legs l, legs l] [] (bv true) := by
 refine acalls_S (rs := [.tmp 4]) Try.func18 rfl rfl 42 [(0, .d (legs l)), (1, .d (legs l))] rfl (by simp) rfl ?_
 refine JA fun K0 hK0 => ?_
 refine Qz F_mixed [some 4] rfl ?_
 simp only [zzK, QR, QP, QQ, JB, zz6, QO, ↓Qb]
 refine hK0 _ ?_; try clear hK0 K0
 refine kpA [0, 1] ?_
 refine JA fun K0 hK0 => ?_
 refine JA fun K1 hK1 => ?_
 refine Qz F_mixed [some 6, some 7, some 8, some 9, some 10] rfl ?_
 simp only [zzK, QR, QP, QQ, JC, JE, zz12, F_sl39, Option.isSome_some, zz21, JM, zz28, legs, JN, zz6, QO, ↓Qb]
 refine hK1 _ ?_; try clear hK1 K1
 refine kpA [0, 1, 10] ?_
 refine cnA ?_ ?_
 ·intro hb
  simp at hb
 ·intro hb
  clear hb
  refine JI ?_
  simp only [zz6, QO, ↓Qb]
  refine hK0 _ ?_; try clear hK0 K0
  refine kpA [0, 1] ?_
  refine JA fun K0 hK0 => ?_
  refine JA fun K1 hK1 => ?_
  refine Qz F_mixed [some 5] rfl ?_
  simp only [zzK, QR, QP, QQ, JB, zz6, QO, ↓Qb]
  refine hK1 _ ?_; try clear hK1 K1
  refine kpA [0, 1, 5] ?_
  refine JH ?_
  refine awp_loop (fun m s => ∃ pre post : List LegV, l = pre ++ post ∧ m = post.length ∧ s = S 42 [(0, .d (legs l)), (1, .d (legs l)), (5, .d (iv pre.length))] []) l.length _ (le_SK id [] rfl (l' := [(0, .d (legs l)), (1, .d (legs l)), (5, .d (iv ([] : List LegV).length))]) (m' := []) ?_ ?_ ?_ ?_) ⟨[], l, rfl, rfl, rfl⟩ ?_
  ·simp only [leV, JD, QQ, Qd, Qc, legs, JN]; exact ⟨Qn _, Qn _, Qn _, trivial⟩
  ·exact trivial
  ·simp [wfV, QY, QX, lookR]
  ·simp [wfR, QX, QY]
  rintro m s ⟨pre, post, rfl, rfl, rfl⟩
  refine JA fun K2 hK2 => ?_
  refine JA fun K3 hK3 => ?_
  refine Qz F_mixed [some 11, some 12, some 13, some 14] rfl ?_
  simp only [zzK, QR, QP, QQ, JC, JE, zz12, F_sl39, Option.isSome_some, zz21, JM, zz22, legs, JN, zz6, QO, ↓Qb]
  refine hK3 _ ?_; try clear hK3 K3
  refine kpA [0, 1, 5, 14] ?_
  refine cnA ?_ ?_
  ·intro hb
   obtain ⟨x, post, rfl⟩ := more_of hb; clear hb
   refine JI ?_
   simp only [zz6, QO, ↓Qb]
   refine hK2 _ ?_; try clear hK2 K2
   refine kpA [0, 1, 5] ?_
   refine JA fun K2 hK2 => ?_
   refine JH ?_
   refine JA fun K3 hK3 => ?_
   refine awp_draw F_mixed [some 17, some 18, some 19, some 20, some 21, some 22, some 23, some 24, some 25, some 26, some 27, some 28, some 29, some 30, some 31, some 32, some 33, some 34, some 35, some 36, some 37, some 38, some 39, some 40, some 41] rfl (by kernel_rfl) ?_
   simp only [zzK, QR, QP, QQ, QU, JZ, zz5, Qj, Qi, Qh, JC, JW, zz23, zz24, F_sl39, F_sz50, QA, zzC, yyE, Qe, zz19, F_off50_0, zzH, QN, QS, F_ok48, F_ag48, F_sz48, zz8, zzD, JE, JF, zz29, JM, zz30, F_off50_1, F_ok3, F_ag3, F_sz3, zz21, zz28, zz13, JQ, JR, legs, legC, getD_mid, JN, lt_mid, ge_mid, QW, acC, zz6, QO, ↓Qb]
   refine JT F_go39 (fun hG => kAcct_ x.ac) (by simp [QY, QX]) (by simp) ?_
   simp only [zzK, QR, QP, QQ, QU, JZ, zz5, Qj, Qi, Qh, JC, JW, zz23, zz24, F_sl39, F_sz50, QA, zzC, yyE, Qe, zz19, F_off50_0, zzH, QN, QS, F_ok48, F_ag48, F_sz48, zz8, zzD, JE, JF, zz29, JM, zz30, F_off50_1, F_ok3, F_ag3, F_sz3, zz21, zz28, zz13, JQ, JR, legs, legC, getD_mid, JN, lt_mid, ge_mid, QW, acC, zz6, QO, ↓Qb, atsL, oksG, JV, QZ, Qa, JO, Qm, QT, QS, zz9, QB, QA, S_mem, yyF, QF, zz2]
   refine hK3 _ ?_; try clear hK3 K3
   refine kpA [0, 1, 5, 41] ?_
   refine cnA ?_ ?_
   ·intro hb
    simp at hb
   ·intro hb
    clear hb
    refine JI ?_
    simp only [zz6, QO, ↓Qb]
    refine hK2 _ ?_; try clear hK2 K2
    refine kpA [0, 1, 5] ?_
    refine Qz F_mixed [some 15, some 16, some 5] rfl ?_
    simp only [zzK, QR, QP, QQ, JC, zz21, JM, zz26, JB, zz6, QO, ↓Qb]
    refine ⟨post.length, _, by simp, le_SK id [] rfl (l' := [(0, .d (legs (pre ++ x :: post))), (1, .d (legs (pre ++ x :: post))), (5, .d (iv (pre ++ [x]).length))]) (m' := []) ?_ ?_ ?_ ?_, pre ++ [x], post, by simp, rfl, rfl⟩
    ·simp only [leV, JD, QQ, Qd, Qc, legs, JN, wrap_len pre x (by simp at hl; omega)]; exact ⟨Qn _, Qn _, Qn _, trivial⟩
    ·exact trivial
    ·simp [wfV, QY, QX, lookR]
    ·simp [wfR, QX, QY]
  ·intro hb
   clear hb
   refine awp_exit ?_
   simp only [zz6, QO, ↓Qb]
   refine hK0 _ ?_; try clear hK0 K0
   refine kpA [] ?_
   refine JA fun K0 hK0 => ?_
   refine Qz F_mixed [some 4] rfl ?_
   simp only [zzK, QR, QP, QQ, JB, zz6, QO, ↓Qb]
   refine hK0 _ ?_; try clear hK0 K0
   refine kpA [4] ?_
   refine JJ ?_
   simp only [zz6, QO, ↓Qb]
   refine dnA ?_
   simp only [QD, QE, resA, JZ, QR, QP, JD, QQ, Qd, Qc, JP]
   
theorem spoilLegs_ (l : List LegV) (hl : l.length ≤ 1000000) : MCalls Try.prog 19 [.m 0] [⟨50, 4, l.map legC⟩] [⟨50, 4, (l.map spoilL).map legC⟩] [] (.tp []) := by
 refine mcalls_S (rs := []) Try.func19 rfl rfl 14 [(0, .ref 1000000000 (l.map legC).length)] [(1000000000, (⟨True, 50, 4, true, false, 1000000000, (l.map legC).map (·.map .d)⟩ : ARow))] rfl (by simp) (by rfl) (by rfl) (by rfl) (by rfl) (by rfl) ?_
 simp only [avC_map, JN]
 refine JA fun K0 hK0 => ?_
 refine Qz F_mixed [some 2] rfl ?_
 simp only [zzK, QR, QP, QQ, JB, zz6, QO, ↓Qb]
 refine hK0 _ ?_; try clear hK0 K0
 refine kpA [0, 2] ?_
 refine JH ?_
 refine awp_loop (fun m s => ∃ A pre post : List LegV, l = pre ++ post ∧ A = pre.map spoilL ∧ m = post.length ∧ s = S 14 [(0, .ref 1000000000 (A ++ post).length), (2, .d (iv A.length))] [(1000000000, (⟨True, 50, 4, true, false, 1000000000, (A ++ post).map (avC legC)⟩ : ARow))]) l.length _ (le_SK id [] rfl (l' := [(0, .ref 1000000000 (([] : List LegV) ++ l).length), (2, .d (iv ([] : List LegV).length))]) (m' := [(1000000000, (⟨True, 50, 4, true, false, 1000000000, (([] : List LegV) ++ l).map (avC legC)⟩ : ARow))]) ?_ ?_ ?_ ?_) ⟨[], [], l, rfl, rfl, rfl, rfl⟩ ?_
 ·simp only [leV, JD, QQ, Qd, Qc]; exact ⟨Qn _, Qn _, trivial⟩
 ·exact ⟨fun _ => ⟨_, rfl, Qu (by simp) (idsL_avC _ _)⟩, fun h => by simp at h, trivial⟩
 ·simp [wfV, QY, lookR]
 ·exact ⟨fun e he r' hr' => by rw [idsL_avC _ _ e he] at hr'; simp at hr', trivial⟩
 rintro m s ⟨A, pre, post, hsp, hA, rfl, rfl⟩
 refine JA fun K1 hK1 => ?_
 refine JA fun K2 hK2 => ?_
 refine Qz F_mixed [some 3, some 4, some 5, some 6] rfl ?_
 simp only [zzK, QR, QP, QQ, JC, JE, zz12, F_sl39, Option.isSome_some, zz21, JM, zz22, zz6, QO, ↓Qb]
 refine hK2 _ ?_; try clear hK2 K2
 refine kpA [0, 2, 6] ?_
 refine cnA ?_ ?_
 ·intro hb
  obtain ⟨x, post, rfl⟩ := more_of hb; clear hb
  have hw : Ql .i64 ((A.length : Int) + 1) = ((A ++ [spoilL x]).length : Int) := by
   have e := congrArg List.length hsp
   simp only [QC, QF] at e
   have e2 : A.length = pre.length := by rw [hA]; simp
   rw [wrapI (by omega) (by omega)]; simp
  refine JI ?_
  simp only [zz6, QO, ↓Qb]
  refine hK1 _ ?_; try clear hK1 K1
  refine kpA [0, 2] ?_
  refine JA fun K1 hK1 => ?_
  refine JH ?_
  refine Qz F_mixed [some 9, some 10, some 11, some 12, some 13, none] rfl ?_
  simp only [zzK, QR, QP, QQ, JC, JW, zz23, zz24, F_sl39, F_sz50, QA, zzC, yyE, Qe, zz19, F_off50_0, zzH, QN, QS, F_off48_1, zz18, F_ok3, F_sz3, splice, QG, zzD, zz1, zzG, getD_mid, JN, lt_mid, ge_mid, lt_midN, set_mid, avC, legC, QD, zz6, QO, ↓Qb]
  refine hK1 _ ?_; try clear hK1 K1
  refine kpA [0, 2] ?_
  refine Qz F_mixed [some 7, some 8, some 2] rfl ?_
  simp only [zzK, QR, QP, QQ, JC, zz21, JM, zz26, JB, zz6, QO, ↓Qb]
  refine ⟨post.length, _, by simp, le_SK id [] rfl (l' := [(0, .ref 1000000000 ((A ++ [spoilL x]) ++ post).length), (2, .d (iv (A ++ [spoilL x]).length))]) (m' := [(1000000000, (⟨True, 50, 4, true, false, 1000000000, ((A ++ [spoilL x]) ++ post).map (avC legC)⟩ : ARow))]) ?_ ?_ ?_ ?_, A ++ [spoilL x], pre ++ [x], post, by simp [hsp], by simp [hA], rfl, rfl⟩
  ·simp only [leV, JD, QQ, Qd, Qc, hw]
   refine ⟨?_, Qn _, trivial⟩
   rw [show (A ++ x :: post).length = (A ++ [spoilL x] ++ post).length from by simp]; exact Qn _
  ·exact ⟨fun _ => ⟨_, rfl, Qu (by simp [avC, legC, spoilL]) (by
    intro e he
    rcases List.mem_append.1 he with he | he
    ·exact idsL_avC _ _ e he
    ·rcases List.mem_cons.1 he with rfl | he
     ·simp [QX, QY]
     ·exact idsL_avC _ _ e he)⟩, fun h => by simp at h, trivial⟩
  ·simp [wfV, QY, lookR]
  ·exact ⟨fun e he r' hr' => by rw [idsL_avC _ _ e he] at hr'; simp at hr', trivial⟩
 ·intro hb
  obtain rfl := none_of hb; clear hb
  simp only [QG] at hsp ⊢
  obtain rfl : l = pre := hsp
  subst hA
  refine awp_exit ?_
  simp only [zz6, QO, ↓Qb]
  try simp only [QG]
  refine doneM [] (by simp [resCs, resC, S, List.getD, JD, lookR, ]) ?_ (by simp [flatA, flatAs, Jc, ]) (by simp [QY, QX, ]) (by decide) (by simp) ?_ ?_
  ·simp only [QD, QE, resA, JZ, S_mem, lookR_cons, lookR_nil, QR, QP, JD, QQ, Qd, Qc, JP, QI, QJ, QH, QL, QK, List.take_zero, ]; rfl
  ·exact trivial
  ·exact ⟨⟨_, rfl, trivial, rfl, rfl, (avC_map _ _).symm⟩, by simp [flatDs, Jc, legC, spoilL], trivial⟩
set_option maxRecDepth 100000 in
set_option maxHeartbeats 4000000 in
theorem netExact_ (l : List LegV) (w c : Int) (hk : K2 l) : ACalls Try.prog 6 [dues l, iv w, iv c] [] (bv true) := by
 refine acalls_S (rs := [.tmp 6]) Try.func6 rfl rfl 99 [(0, .d (dues l)), (1, .d (iv w)), (2, .d (iv c))] rfl (by simp) rfl ?_
 refine JA fun K0 hK0 => ?_
 refine Qz F_mixed [some 6] rfl ?_
 simp only [zzK, QR, QP, QQ, JB, zz6, QO, ↓Qb]
 refine hK0 _ ?_; try clear hK0 K0
 refine kpA [0, 1, 2] ?_
 refine JA fun K0 hK0 => ?_
 refine JA fun K1 hK1 => ?_
 refine Qz F_mixed [some 17, some 18, some 19] rfl ?_
 simp only [zzK, QR, QP, QQ, JC, JE, zz12, F_sl22, Option.isSome_some, zz21, JM, zz25, dues, JN, zz6, QO, ↓Qb]
 refine hK1 _ ?_; try clear hK1 K1
 refine kpA [0, 1, 2, 19] ?_
 refine cnA ?_ ?_
 ·intro hb
  clear hb
  refine JA fun K2 hK2 => ?_
  refine Qz F_mixed [some 6] rfl ?_
  simp only [zzK, QR, QP, QQ, JB, zz6, QO, ↓Qb]
  refine hK2 _ ?_; try clear hK2 K2
  refine kpA [6] ?_
  refine JJ ?_
  simp only [zz6, QO, ↓Qb]
  refine dnA ?_
  simp only [QD, QE, resA, JZ, QR, QP, JD, QQ, Qd, Qc, JP]
  
 ·intro hb
  have hl : l.length ≤ 300 := by simp at hb; omega
  clear hb
  have hnl := net_len l
  have hll := nlV_len l
  refine JI ?_
  simp only [zz6, QO, ↓Qb]
  refine hK0 _ ?_; try clear hK0 K0
  refine kpA [0, 1, 2] ?_
  refine JA fun K0 hK0 => ?_
  refine Qz F_mixed [some 20, some 21, some 7] rfl ?_
  simp only [zzK, QR, QP, QQ, JC, JE, JF, JB, dues, JN, zz6, QO, ↓Qb]
  refine JT F_go12 (fun hG => nTwin_ l (by omega)) (by simp [QY, QX]) (by simp) ?_
  simp only [zzK, QR, QP, QQ, JC, JE, JF, JB, dues, JN, zz6, QO, ↓Qb, atsL, oksG, JV, QZ, Qa, JO, Qm, QT, QS, zz9, QB, QA, zzC, yyF, zzD, zz2]
  refine hK0 _ ?_; try clear hK0 K0
  refine kpA [0, 1, 2, 7] ?_
  refine JA fun K0 hK0 => ?_
  refine Qz F_mixed [some 23, some 24, some 22, some 25, some 26, some 8, some 9] rfl ?_
  simp only [zzK, QR, QP, QQ, JC, JE, JF, zz14, zzD, QS, QN, zzF, JB, dues, JN, zz6, QO, ↓Qb]
  refine JT F_go8 (fun hG => Net_ l hk (by omega)) (by simp [QY, QX]) (by simp) ?_
  simp only [zzK, QR, QP, QQ, JC, JE, JF, zz14, zzD, QS, QN, zzF, JB, dues, JN, zz6, QO, ↓Qb, atsL, oksG, JV, QZ, Qa, JO, Qm, QT, QS, zz9, QB, QA, zzC, yyF, QF, zz2]
  refine hK0 _ ?_; try clear hK0 K0
  refine kpA [0, 1, 2, 7, 8, 9] ?_
  refine JA fun K0 hK0 => ?_
  refine Qz F_mixed [some 28, some 29, some 27, some 30, some 31, some 10, some 11] rfl ?_
  simp only [zzK, QR, QP, QQ, JC, JE, JF, zz14, zzD, QS, QN, zzF, JB, dues, JN, zz6, QO, ↓Qb]
  refine JT F_go13 (fun hG => rNetF l hk (by omega)) (by simp [QY, QX]) (by simp) ?_
  simp only [zzK, QR, QP, QQ, JC, JE, JF, zz14, zzD, QS, QN, zzF, JB, dues, JN, zz6, QO, ↓Qb, atsL, oksG, JV, QZ, Qa, JO, Qm, QT, QS, zz9, QB, QA, zzC, yyF, QF, zz2]
  refine hK0 _ ?_; try clear hK0 K0
  refine kpA [0, 1, 2, 7, 8, 9, 10, 11] ?_
  refine JA fun K0 hK0 => ?_
  refine Qz F_mixed [some 32, some 33, some 34, some 35, some 36, some 37, some 38, some 39, some 12] rfl ?_
  simp only [zzK, QR, QP, QQ, QU, JZ, zz5, Qj, Qi, Qh, and_self, JC, JE, JF, zz21, JM, zz34, zz13, JQ, JR, JB, dues, JN, beq_self_eq_true, Gp_some, zz6, QO, ↓Qb]
  refine JT F_go11 (fun hG => nkDues_ (netV l) (by omega)) (by simp [QY, QX]) (by simp) ?_
  simp only [zzK, QR, QP, QQ, QU, JZ, zz5, Qj, Qi, Qh, and_self, JC, JE, JF, zz21, JM, zz34, zz13, JQ, JR, JB, dues, JN, beq_self_eq_true, Gp_some, zz6, QO, ↓Qb, atsL, oksG, JV, QZ, Qa, JO, Qm, QT, QS, zz9, QB, QA, zzC, yyF, zzD, zz2]
  refine hK0 _ ?_; try clear hK0 K0
  refine kpA [0, 1, 2, 7, 8, 12] ?_
  refine JA fun K0 hK0 => ?_
  refine awp_mut [some 40, some 41] rfl 1 rfl ?_
  simp only [zzK, QR, QP, QQ, JC, JE, JF, JN, zzB, zz6, QO, ↓Qb]
  refine mut_go [25000] F_go14 (nSpoil_ (netV l) (by omega)) (by simp [QY, QX]) (by decide) (by first | exact ⟨by decide, by simp⟩ | rfl) ?_
  simp only [zzK, QR, QP, QQ, JC, JE, JF, JN, zzB, zz6, QO, ↓Qb, mArgs_nil, asE_cl, asF_cl, asD_ptr, asG_ptr, asD_ep, asG_ep, List.mem_singleton, forall_eq, asEc_cons, asEc_nil, mArgs_d, mArgs_m, mRows_nil, mRows_cons, mNewL, nxM, mBase, mName, oksL, List.getElem?_cons_zero, List.getElem?_cons_succ, zzF, asE_ag, asE_d, asE_ref, asEc_cons, asEc_nil, asF_d, asF_ref, asF_ag, asGs, QY, QX, QM, List.not_mem_nil, false_implies, forall_const, atsL, asD_self, asD_nil, asD_sl, asD_agg, asD_int, asD_bool, asD_func, asD_ag, asD_ref, asG_d, asG_ag, asG_ref, JV, QZ, Qa, JO, Qm, QT, QS, zz9, QB, QA, zzC, yyF, zzD, S_func, Sk_func]
  refine ⟨by simp [flatDs, Jc, dueC, spoilL], ?_⟩
  refine hK0 _ ?_; try clear hK0 K0
  refine kpA [0, 1, 2, 7, 12] ?_
  refine JA fun K0 hK0 => ?_
  refine Qz F_mixed [some 43, some 44, some 45, some 46, some 42, some 47, some 48, some 13, some 9] rfl ?_
  simp only [zzK, QR, QP, QQ, JC, JE, JF, zz14, zzD, QS, QN, zzF, JB, dues, JN, zz6, QO, ↓Qb]
  refine JT F_go10 (fun hG => Gross_ w c l (by omega)) (by simp [QY, QX]) (by simp) ?_
  simp only [zzK, QR, QP, QQ, JC, JE, JF, zz14, zzD, QS, QN, zzF, JB, dues, JN, zz6, QO, ↓Qb, atsL, oksG, JV, QZ, Qa, JO, Qm, QT, QS, zz9, QB, QA, zzC, yyF, QF, zz2]
  refine hK0 _ ?_; try clear hK0 K0
  refine kpA [0, 1, 2, 7, 9, 12, 13] ?_
  refine JA fun K0 hK0 => ?_
  refine Qz F_mixed [some 50, some 51, some 52, some 53, some 49, some 54, some 55, some 14, some 11] rfl ?_
  simp only [zzK, QR, QP, QQ, JC, JE, JF, zz14, zzD, QS, QN, zzF, JB, dues, JN, zz6, QO, ↓Qb]
  refine JT F_go15 (fun hG => rGross_ w c l (by omega)) (by simp [QY, QX]) (by simp) ?_
  simp only [zzK, QR, QP, QQ, JC, JE, JF, zz14, zzD, QS, QN, zzF, JB, dues, JN, zz6, QO, ↓Qb, atsL, oksG, JV, QZ, Qa, JO, Qm, QT, QS, zz9, QB, QA, zzC, yyF, QF, zz2]
  refine hK0 _ ?_; try clear hK0 K0
  refine kpA [0, 7, 9, 11, 12, 13, 14] ?_
  refine JA fun K0 hK0 => ?_
  refine Qz F_mixed [some 56, some 57, some 58, some 59, some 60, some 61, some 62, some 63, some 64, some 65, some 66, some 12] rfl ?_
  simp only [zzK, QR, QP, QQ, QU, JZ, zz5, Qj, Qi, Qh, and_self, JC, zz21, JM, zz34, zz13, JQ, JR, JB, beq_self_eq_true, Gp_some, zz6, QO, ↓Qb]
  refine hK0 _ ?_; try clear hK0 K0
  refine kpA [0, 7, 12] ?_
  refine JA fun K0 hK0 => ?_
  refine Qz F_mixed [some 68, some 69, some 67, some 70, some 71, some 15, some 9] rfl ?_
  simp only [zzK, QR, QP, QQ, JC, JE, JF, zz14, zzD, QS, QN, zzF, JB, dues, JN, zz6, QO, ↓Qb]
  refine JT F_go16 (fun hG => nLegs_ l hk (by omega)) (by simp [QY, QX]) (by simp) ?_
  simp only [zzK, QR, QP, QQ, JC, JE, JF, zz14, zzD, QS, QN, zzF, JB, dues, JN, zz6, QO, ↓Qb, atsL, oksG, JV, QZ, Qa, JO, Qm, QT, QS, zz9, QB, QA, zzC, yyF, QF, zz2]
  refine hK0 _ ?_; try clear hK0 K0
  refine kpA [0, 7, 9, 12, 15] ?_
  refine JA fun K0 hK0 => ?_
  refine Qz F_mixed [some 73, some 74, some 72, some 75, some 76, some 16, some 11] rfl ?_
  simp only [zzK, QR, QP, QQ, JC, JE, JF, zz14, zzD, QS, QN, zzF, JB, dues, zz6, QO, ↓Qb]
  refine JT F_go17 (fun hG => rNLegsF l hk (by omega)) (by simp [QY, QX]) (by simp) ?_
  simp only [zzK, QR, QP, QQ, JC, JE, JF, zz14, zzD, QS, QN, zzF, JB, dues, zz6, QO, ↓Qb, atsL, oksG, JV, QZ, Qa, JO, Qm, QT, QS, zz9, QB, QA, zzC, yyF, QF, zz2]
  refine hK0 _ ?_; try clear hK0 K0
  refine kpA [0, 7, 9, 11, 12, 15, 16] ?_
  refine JA fun K0 hK0 => ?_
  refine Qz F_mixed [some 77, some 78, some 79, some 80, some 81, some 82, some 83, some 84, some 85, some 86, some 87, some 12] rfl ?_
  simp only [zzK, QR, QP, QQ, QU, JZ, zz5, Qj, Qi, Qh, and_self, JC, JE, JF, zz13, JQ, JR, zz21, JM, zz34, JB, legs, JN, beq_self_eq_true, Gp_some, zz6, QO, ↓Qb]
  refine JT F_go18 (fun hG => kLegs_ (nlV l) (by omega)) (by simp [QY, QX]) (by simp) ?_
  simp only [zzK, QR, QP, QQ, QU, JZ, zz5, Qj, Qi, Qh, and_self, JC, JE, JF, zz13, JQ, JR, zz21, JM, zz34, JB, legs, JN, beq_self_eq_true, Gp_some, zz6, QO, ↓Qb, atsL, oksG, JV, QZ, Qa, JO, Qm, QT, QS, zz9, QB, QA, zzC, yyF, zzD, zz2]
  refine hK0 _ ?_; try clear hK0 K0
  refine kpA [0, 7, 12, 15] ?_
  refine JA fun K0 hK0 => ?_
  refine awp_mut [some 88, some 89] rfl 1 rfl ?_
  simp only [zzK, QR, QP, QQ, JC, JE, JF, JN, zzB, zz6, QO, ↓Qb]
  refine mut_go [70000] F_go19 (spoilLegs_ (nlV l) (by omega)) (by simp [QY, QX]) (by decide) (by first | exact ⟨by decide, by simp⟩ | rfl) ?_
  simp only [zzK, QR, QP, QQ, JC, JE, JF, JN, zzB, zz6, QO, ↓Qb, mArgs_nil, asE_cl, asF_cl, asD_ptr, asG_ptr, asD_ep, asG_ep, List.mem_singleton, forall_eq, asEc_cons, asEc_nil, mArgs_d, mArgs_m, mRows_nil, mRows_cons, mNewL, nxM, mBase, mName, oksL, List.getElem?_cons_zero, List.getElem?_cons_succ, zzF, asE_ag, asE_d, asE_ref, asEc_cons, asEc_nil, asF_d, asF_ref, asF_ag, asGs, QY, QX, QM, List.not_mem_nil, false_implies, forall_const, atsL, asD_self, asD_nil, asD_sl, asD_agg, asD_int, asD_bool, asD_func, asD_ag, asD_ref, asG_d, asG_ag, asG_ref, JV, QZ, Qa, JO, Qm, QT, QS, zz9, QB, QA, zzC, yyF, zzD, S_func, Sk_func]
  refine ⟨by simp [flatDs, Jc, legC, spoilL], ?_⟩
  refine hK0 _ ?_; try clear hK0 K0
  refine kpA [0, 7, 12] ?_
  refine JA fun K0 hK0 => ?_
  refine Qz F_mixed [some 90, some 91, some 92, some 93, some 94, some 95, some 96, some 97, some 98, some 6] rfl ?_
  simp only [zzK, QR, QP, QQ, QU, JZ, zz5, Qj, Qi, Qh, and_self, JC, JE, JF, zz13, JQ, JR, JB, dues, JN, beq_self_eq_true, Gp_some, zz6, QO, ↓Qb]
  refine JT F_go11 (fun hG => nkDues_ l (by omega)) (by simp [QY, QX]) (by simp) ?_
  simp only [zzK, QR, QP, QQ, QU, JZ, zz5, Qj, Qi, Qh, and_self, JC, JE, JF, zz13, JQ, JR, JB, dues, JN, beq_self_eq_true, Gp_some, zz6, QO, ↓Qb, atsL, oksG, JV, QZ, Qa, JO, Qm, QT, QS, zz9, QB, QA, zzC, yyF, zzD, zz2]
  refine JT F_go9 (fun hG => wakes17_) (by simp [QY, QX]) (by simp) ?_
  simp only [zzK, QR, QP, QQ, QU, JZ, zz5, Qj, Qi, Qh, and_self, JC, JE, JF, zz13, JQ, JR, JB, dues, JN, beq_self_eq_true, Gp_some, zz6, QO, ↓Qb, atsL, oksG, JV, QZ, Qa, JO, Qm, QT, QS, zz9, QB, QA, zzC, yyF, zzD, zz2]
  refine hK0 _ ?_; try clear hK0 K0
  refine kpA [6] ?_
  refine JJ ?_
  simp only [zz6, QO, ↓Qb]
  refine dnA ?_
  simp only [QD, QE, resA, JZ, QR, QP, JD, QQ, Qd, Qc, JP]
  try simp
theorem netExact2_ (l : List DueV) (w c : Int) : ACalls Try.prog 6 [.sl 3 (l.map dueC2), iv w, iv c] [] (bv true) := by
 have e := netExact_ (l.map dueL) w c (dueL_k l)
 rwa [dueL_d] at e

end Go.Proofs.Ytcpkhnciplfmkaa
