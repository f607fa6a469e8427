import Derived.Test.YtopifbpibkpmmaaWpE
import Derived.Test.YtopifbpibkpmmaaWpF
namespace Go.Proofs.Ytopifbpibkpmmaa
open Go.RowKit
set_option linter.unusedVariables false
set_option linter.unusedSimpArgs false
open Option renaming map_some → QA, bind_some → QB
open List renaming length_cons → QF, append_nil → QG
open Nat renaming zero_add → QN, reduceEqDiff → QO, reduceLeDiff → QP, reduceBEq → QQ, reduceLT → QR, reduceAdd → QS, reduceMul → QT, reduceSub → QU
open Int renaming toNat_natCast → QV
open D.agg renaming injEq → QW
open AV renaming idsL → QX, ids → QY, ren → QZ, renL → Qa
open _root_ renaming reduceIte → Qb, cond_false → Qc, cond_true → Qd, reduceCtorEq → Qe, of_decide_eq_false → Qf, of_decide_eq_true → Qg
open IntKind renaming wrap → Ql
open ORow renaming row → Qm
open VLe renaming refl → Qn, still → Qo, nild_ → Qp, nil_ → Qq, refE → Qr, ptrE → Qs, dE → Qt
open RowLe renaming same → Qu, still → Qv, data_ → Qw, uq2 → Qx
open Go.Proofs.Ytopifbpibkpmmaa renaming awp_plain → Qz, awp_seq → JA, evS_assign → JB, evS_move → JC, look_cons → JD, evS_call → JE, evC_value → JF, awp_block → JH, awp_skip → JI, gr_v → JM, len_map → JN, addRows → JO, newRow1 → JS, call_go → JT, evS_indexAddr → JW
theorem F_field46_1 : fieldT Try.prog 46 1 = some (2, 3) := by kernel_rfl
theorem F_go40 : goFn Try.prog 40 := ⟨_, Try.func40, rfl, rfl⟩
theorem F_go30 : goFn Try.prog 30 := ⟨_, Try.func30, rfl, rfl⟩
theorem F_go41 : goFn Try.prog 41 := ⟨_, Try.func41, rfl, rfl⟩
theorem F_zero33 : zeroT Try.prog 33 = some [(.int .i64 0), (.int .i64 0), (.int .i64 0)] := by kernel_rfl
theorem F_bld33 : bldT Try.prog 33 = true := by kernel_rfl
theorem F_fld33_0 : fldT Try.prog 33 0 = some (0, 1) := by kernel_rfl
theorem F_fld33_1 : fldT Try.prog 33 1 = some (1, 1) := by kernel_rfl
theorem F_sl23 : sliceT Try.prog 23 = some 33 := by kernel_rfl
theorem F_sz33 : szT Try.prog 33 = 3 := by kernel_rfl
theorem F_by33 : byT Try.prog 33 = 24 := by kernel_rfl
set_option maxRecDepth 100000 in
set_option maxHeartbeats 4000000 in
theorem tear_ (nx : Int) (ts : List TradeV) (ps : List PosV) (w n mq : Int) (hG : GoodB ⟨nx, ts, ps⟩) (h0 : 0 ≤ mq) (h1 : mq ≤ 1099511627776) (h2 : mq ≤ tAll w n ps) : ACalls Try.prog 24 [.agg (bookC ⟨nx, ts, ps⟩), .agg [iv w, iv n], iv mq] [⟨33, 3, (tearV w n mq ps).map fillC⟩] (.tp [.ref 0 (tearV w n mq ps).length, .d (iv 0)]) := by
 refine acalls_S (rs := [.tmp 6, .tmp 7]) Try.func24 rfl rfl 109 [(0, .d (.agg (bookC ⟨nx, ts, ps⟩))), (1, .d (.agg [iv w, iv n])), (2, .d (iv mq))] rfl (by simp) rfl ?_
 obtain ⟨hl1, hl2⟩ := grow_len hG
 simp only at hl1 hl2
 have hE := (bookE_iff _).2 hG
 have hok : ∀ p ∈ ps, posOk p = true := hG.ok
 have hT := torn_f (w := w) (n := n) hG h0 h1 h2
 have h16 : ∀ s, (tF s n ps).length ≤ 16 := fun s => t_len16 hG s n
 refine JA fun K0 hK0 => ?_
 refine Qz F_mixed [some 3, some 4, some 6, some 7] rfl ?_
 simp only [zzK, QR, QP, QQ, zz35, JS, zz1, zzG, zzD, zzC, QA, yyE, Qe, QS, QN, zzH, JB, bookC, tradesB, poss, zz6, QO, ↓Qb]
 refine hK0 _ ?_; try clear hK0 K0
 refine kpA [2, 3, 4] ?_
 refine JA fun K0 hK0 => ?_
 refine Qz F_mixed [some 19, some 20, some 8] rfl ?_
 simp only [zzK, QR, QP, QQ, F_ok58, F_ag58, F_sz58, zz8, zz23, zzD, QS, QN, zzH, zzC, QA, yyE, Qe, JE, JF, JB, bookC, tradesB, poss, QW, zz6, QO, ↓Qb]
 refine JT F_go39 (fun hG => bCheck_ nx ts ps (by omega) (by omega)) (by simp [QY, QX]) (by simp) ?_
 simp only [zzK, QR, QP, QQ, F_ok58, F_ag58, F_sz58, zz8, zz23, zzD, QS, QN, zzH, zzC, QA, yyE, Qe, JE, JF, JB, bookC, tradesB, poss, QW, zz6, QO, ↓Qb, atsL, oksG, freeN, QZ, Qa, JO, Qm, QT, QS, zz9, QB, QA, S_mem, yyF, QF, zz2]
 refine hK0 _ ?_; try clear hK0 K0
 refine kpA [2, 3, 4, 8] ?_
 refine JA fun K0 hK0 => ?_
 refine JA fun K1 hK1 => ?_
 refine Qz F_mixed [some 21, some 22] rfl ?_
 simp only [zzK, QR, QP, QQ, JC, zz21, JM, zz28, zz6, QO, ↓Qb]
 refine hK1 _ ?_; try clear hK1 K1
 refine kpA [2, 3, 4, 8, 22] ?_
 refine cnA ?_ ?_
 ·intro hb
  simp [hE] at hb
 ·intro hb
  clear hb
  refine JI ?_
  simp only [zz6, QO, ↓Qb]
  refine hK0 _ ?_; try clear hK0 K0
  refine kpA [2, 3, 4] ?_
  refine JA fun K0 hK0 => ?_
  refine JA fun K1 hK1 => ?_
  refine Qz F_mixed [some 24, some 25, some 26, some 27, some 28, some 29] rfl ?_
  simp only [zzK, QR, QP, QQ, QU, S_getD, zz5, and_imp, imp_and, imp_self, and_self, JC, zz21, JM, zz22, zz25, zz13, pickK_l, pickK_r, zz6, QO, ↓Qb]
  refine hK1 _ ?_; try clear hK1 K1
  refine kpA [2, 3, 4, 29] ?_
  refine cnA ?_ ?_
  ·intro hb
   exfalso
   simp [show ¬ mq < 0 by omega, show ¬ mq > 1099511627776 by omega] at hb
  ·intro hb
   clear hb
   refine JI ?_
   simp only [zz6, QO, ↓Qb]
   refine hK0 _ ?_; try clear hK0 K0
   refine kpA [2, 3, 4] ?_
   refine JA fun K0 hK0 => ?_
   refine Qz F_mixed [some 30, some 31, some 32, some 33, some 34, some 9] rfl ?_
   simp only [zzK, QR, QP, QQ, F_ok58, F_ag58, F_sz58, zz8, zz23, zzD, QS, QN, zzH, zzC, QA, yyE, Qe, F_ok29, F_ag29, F_sz29, JE, JF, evS_field, fdK_some, fdV_ag, fdV_agg, fdC_one, fdC_agg, F_field46_1, F_ok3, F_ag3, F_sz3, JB, bookC, tradesB, poss, posA, QW, zz6, QO, ↓Qb]
   refine JT F_go40 (fun hG => bOf_ nx ts ps w n (by omega)) (by simp [QY, QX, posA]) (by simp) ?_
   simp only [zzK, QR, QP, QQ, F_ok58, F_ag58, F_sz58, zz8, zz23, zzD, QS, QN, zzH, zzC, QA, yyE, Qe, F_ok29, F_ag29, F_sz29, JE, JF, evS_field, fdK_some, fdV_ag, fdV_agg, fdC_one, fdC_agg, F_field46_1, F_ok3, F_ag3, F_sz3, JB, bookC, tradesB, poss, posA, QW, zz6, QO, ↓Qb, atsL, oksG, freeN, QZ, Qa, JO, Qm, QT, QS, zz9, QB, QA, S_mem, yyF, QF, zz2]
   refine JT F_go30 (fun hG => Compare_ (ofP w n ps).qty 0) (by simp [QY, QX, posA]) (by simp) ?_
   simp only [zzK, QR, QP, QQ, F_ok58, F_ag58, F_sz58, zz8, zz23, zzD, QS, QN, zzH, zzC, QA, yyE, Qe, F_ok29, F_ag29, F_sz29, JE, JF, evS_field, fdK_some, fdV_ag, fdV_agg, fdC_one, fdC_agg, F_field46_1, F_ok3, F_ag3, F_sz3, JB, bookC, tradesB, poss, posA, QW, zz6, QO, ↓Qb, atsL, oksG, freeN, QZ, Qa, JO, Qm, QT, QS, zz9, QB, QA, S_mem, yyF, QF, zz2]
   obtain ⟨sd, hs⟩ : ∃ sd, sd = cmpI (ofP w n ps).qty 0 := ⟨_, rfl⟩
   rw [← hs]
   have hsk : sOk sd := hs ▸ sgn_ok _
   have hns : Ql .i64 (0 - sd) = 0 - sd := by rcases hsk with h | h | h <;> subst h <;> rfl
   have hall : tAll w n ps = (tWs sd (tF sd n ps)).sum := by subst hs; rfl
   have hPd : (splitV mq (tWs sd (tF sd n ps))) = tParts w n mq ps := by subst hs; rfl
   have htv : tearV w n mq ps = flI (tWho (tF sd n ps)) (splitV mq (tWs sd (tF sd n ps))) (splitV mq (tWs sd (tF sd n ps))).length := by subst hs; rfl
   have hsE : splitE mq (tWs sd (tF sd n ps)) = 0 := by have := hT.e; subst hs; exact this
   have hpl : (splitV mq (tWs sd (tF sd n ps))).length = (tF sd n ps).length := by rw [hPd, hT.len]; subst hs; rfl
   refine hK0 _ ?_; try clear hK0 K0
   refine kpA [2, 3, 4, 9] ?_
   refine JA fun K0 hK0 => ?_
   refine Qz F_mixed [some 10, some 11] rfl ?_
   simp only [zzK, QR, QP, QQ, JB, zz6, QO, ↓Qb]
   refine hK0 _ ?_; try clear hK0 K0
   refine kpA [2, 3, 4, 9, 10, 11] ?_
   refine JA fun K0 hK0 => ?_
   refine Qz F_mixed [some 12] rfl ?_
   simp only [zzK, QR, QP, QQ, JB, zz6, QO, ↓Qb]
   refine hK0 _ ?_; try clear hK0 K0
   refine kpA [2, 3, 4, 9, 10, 11, 12] ?_
   refine JA fun K0 hK0 => ?_
   refine JA fun K1 hK1 => ?_
   refine Qz F_mixed [some 35, some 36, some 37, some 38] rfl ?_
   simp only [zzK, QR, QP, QQ, zz19, zz23, F_off58_2, zzH, QN, QS, F_ok42, F_ag42, F_sz42, zz8, zzD, zzC, QA, yyE, Qe, JE, zz12, F_sl42, Option.isSome_some, JC, JN, zz6, QO, ↓Qb]
   refine hK1 _ ?_; try clear hK1 K1
   refine kpA [2, 4, 9, 10, 11, 12, 36, 37, 38] ?_
   refine JH ?_
   refine awp_loop (fun m s => ∃ (pre : List PosV) (post : List PosV), (ps = pre ++ post) ∧ m = post.length ∧ s = S 109 [(2, .d (iv mq)), (4, .ptr 4 0 0), (9, .d (iv sd)), (10, .ref 10 (tWho (tF sd n pre)).length), (11, .ref 11 (tWs sd (tF sd n pre)).length), (12, .d (iv (tWs sd (tF sd n pre)).sum)), (36, .d (poss ps)), (37, .d (iv ps.length)), (38, .d (iv pre.length))] [(4, (⟨True, 29, 2, true, false, 4, [[.d (iv w), .d (iv n)]]⟩ : ARow)), (10, grow 3 1 10 ((tWho (tF sd n pre)).map fun n => [iv n])), (11, grow 3 1 11 ((tWs sd (tF sd n pre)).map fun n => [iv n]))]) (ps.length) _ (le_SK id [10, 11] rfl (l' := [(2, .d (iv mq)), (4, .ptr 4 0 0), (9, .d (iv sd)), (10, .ref 10 (tWho (tF sd n [])).length), (11, .ref 11 (tWs sd (tF sd n [])).length), (12, .d (iv (tWs sd (tF sd n [])).sum)), (36, .d (poss ps)), (37, .d (iv ps.length)), (38, .d (iv [].length))]) (m' := [(4, (⟨True, 29, 2, true, false, 4, [[.d (iv w), .d (iv n)]]⟩ : ARow)), (10, grow 3 1 10 ((tWho (tF sd n [])).map fun n => [iv n])), (11, grow 3 1 11 ((tWs sd (tF sd n [])).map fun n => [iv n]))]) ?_ ?_ ?_ ?_) ⟨[], ps, rfl, rfl, rfl⟩ ?_
   ·simp only [leV, JD, QQ, Qd, Qc]; exact ⟨(by first | exact Qo rfl | exact Qq (by decide) | exact Qp | exact Qn _ | exact Qs (by simp) (by rfl) | exact Qr (by simp) (by rfl) (by first | rfl | (simp; done) | (simp; omega)) | exact Qt (by first | rfl | simp)), (by first | exact Qo rfl | exact Qq (by decide) | exact Qp | exact Qn _ | exact Qs (by simp) (by rfl) | exact Qr (by simp) (by rfl) (by first | rfl | (simp; done) | (simp; omega)) | exact Qt (by first | rfl | simp)), (by first | exact Qo rfl | exact Qq (by decide) | exact Qp | exact Qn _ | exact Qs (by simp) (by rfl) | exact Qr (by simp) (by rfl) (by first | rfl | (simp; done) | (simp; omega)) | exact Qt (by first | rfl | simp)), (by first | exact Qo rfl | exact Qq (by decide) | exact Qp | exact Qn _ | exact Qs (by simp) (by rfl) | exact Qr (by simp) (by rfl) (by first | rfl | (simp; done) | (simp; omega)) | exact Qt (by first | rfl | simp)), (by first | exact Qo rfl | exact Qq (by decide) | exact Qp | exact Qn _ | exact Qs (by simp) (by rfl) | exact Qr (by simp) (by rfl) (by first | rfl | (simp; done) | (simp; omega)) | exact Qt (by first | rfl | simp)), (Qt rfl), (by first | exact Qo rfl | exact Qq (by decide) | exact Qp | exact Qn _ | exact Qs (by simp) (by rfl) | exact Qr (by simp) (by rfl) (by first | rfl | (simp; done) | (simp; omega)) | exact Qt (by first | rfl | simp)), (by first | exact Qo rfl | exact Qq (by decide) | exact Qp | exact Qn _ | exact Qs (by simp) (by rfl) | exact Qr (by simp) (by rfl) (by first | rfl | (simp; done) | (simp; omega)) | exact Qt (by first | rfl | simp)), (by first | exact Qo rfl | exact Qq (by decide) | exact Qp | exact Qn _ | exact Qs (by simp) (by rfl) | exact Qr (by simp) (by rfl) (by first | rfl | (simp; done) | (simp; omega)) | exact Qt (by first | rfl | simp)), trivial⟩
   ·exact ⟨fun _ => ⟨_, rfl, (by first | exact Qw (by first | rfl | simp) | exact Qx (by first | rfl | simp) (by simp) ids_data | exact Qv (by simp [QX, QY]) | exact Qu (by simp) (by simp [QX, QY]))⟩, fun h => by simp at h, fun h => by simp at h, fun _ => rfl, fun h => by simp at h, fun _ => rfl, trivial⟩
   ·simp [wfV, QY, QX, lookR, grow]
   ·exact ⟨by simp [QX, QY, lookR], wf_data _ _, wf_data _ _, trivial⟩
   rintro m s ⟨pre, post, hsp, rfl, rfl⟩
   have hspl := congrArg List.length hsp
   simp only [List.length_append] at hspl
   have hfl := tF_len sd n pre
   have hl3 : (tWho (tF sd n pre)).length = (tF sd n pre).length := by simp [tWho]
   have hl4 : (tWs sd (tF sd n pre)).length = (tF sd n pre).length := by simp [tWs]
   refine JA fun K2 hK2 => ?_
   refine Qz F_mixed [some 39] rfl ?_
   simp only [zzK, QR, QP, QQ, zz21, JM, zz22, zz6, QO, ↓Qb]
   refine hK2 _ ?_; try clear hK2 K2
   refine kpA [2, 4, 9, 10, 11, 12, 36, 37, 38, 39] ?_
   refine JA fun K2 hK2 => ?_
   refine cnA ?_ ?_
   ·intro hb
    obtain ⟨x, post2, rfl⟩ : ∃ x t, post = x :: t := by
     cases post with
     | nil => have := Qg hb; simp at hspl; omega
     | cons x t => exact ⟨x, t, rfl⟩
    clear hb
    simp only [QF] at hspl
    have gx : (ps.map posC).getD pre.length [] = [iv x.who, iv x.inst, iv x.qty, iv x.cost] := by
     rw [hsp, List.map_append]; exact gd_mid' (A := pre.map posC) _ _ (by simp)
    have bx := ltI (show pre.length < ps.length by omega)
    have hwx : Ql .i64 ((pre.length : Int) + 1) = ((pre ++ [x]).length : Int) := by rw [wrapI (by omega) (by omega)]; simp
    have hxk := posOk_iff.1 (hok x (by rw [hsp]; simp))
    have hsb := smul_b hsk (x := x.qty) ⟨hxk.2.1, hxk.2.2.1⟩
    have hms : Ql .i64 (sd * x.qty) = sd * x.qty := wrapI (by omega) (by omega)
    have hmn : Ql .i64 ((0 - sd) * x.qty) = (0 - sd) * x.qty := by rw [hsb.2]; exact wrapI (by omega) (by omega)
    have hb0 := t_sumb (n := n) hsk (l := pre) fun p hp => hok p (by rw [hsp]; exact List.mem_append_left _ hp)
    refine JI ?_
    simp only [zz6, QO, ↓Qb]
    refine hK2 _ ?_; try clear hK2 K2
    refine kpA [2, 4, 9, 10, 11, 12, 36, 37, 38] ?_
    refine JA fun K2 hK2 => ?_
    refine JH ?_
    refine JA fun K3 hK3 => ?_
    refine Qz F_mixed [some 40, some 41, some 14, none] rfl ?_
    simp only [zzK, QR, QP, QQ, JW, zz23, zz24, F_sl42, F_sz46, QA, zzC, yyE, Qe, F_ok46, F_ag46, zz8, zzD, QS, QN, zzH, zz32, JS, F_zero46, zz10, zz18, splice, QG, zz1, zzG, poss, posC, gx, bx, hwx, JN, ge0, QV, QW, zz6, QO, ↓Qb]
    refine hK3 _ ?_; try clear hK3 K3
    refine kpA [2, 4, 9, 10, 11, 12, 14, 36, 37, 38] ?_
    refine JA fun K3 hK3 => ?_
    refine Qz F_mixed [some 42, some 43, some 44, some 45, some 46, some 47, some 48, some 49, some 50, some 51, some 52, some 53, some 54] rfl ?_
    simp only [zzK, QR, QP, QQ, QU, S_getD, zz5, and_imp, imp_and, imp_self, zz19, zz23, F_off46_0, zzH, QN, QS, F_off29_1, F_ok3, F_ag3, F_sz3, zz8, zzD, zzC, QA, yyE, Qe, zz21, JM, zz34, JC, F_off46_1, zz36, zz22, zz13, pickK_l, pickK_r, hms, zz6, QO, ↓Qb]
    refine hK3 _ ?_; try clear hK3 K3
    refine kpA [2, 4, 9, 10, 11, 12, 14, 36, 37, 38, 54] ?_
    refine cnA ?_ ?_
    ·intro hb
     have ht : tP sd n x = true := by rw [← hb]; simp [tP]
     clear hb
     have hw1 : tWho (tF sd n (pre ++ [x])) = tWho (tF sd n pre) ++ [x.who] := by rw [tF_yes ht]; simp [tWho]
     have hw2 : tWs sd (tF sd n (pre ++ [x])) = tWs sd (tF sd n pre) ++ [(0 - sd) * x.qty] := by rw [tF_yes ht]; simp [tWs, tWt]
     have hsm : (tWs sd (tF sd n (pre ++ [x]))).sum = (tWs sd (tF sd n pre)).sum + (0 - sd) * x.qty := by rw [hw2]; simp
     have hsum : Ql .i64 ((tWs sd (tF sd n pre)).sum + (0 - sd) * x.qty) = (tWs sd (tF sd n pre)).sum + (0 - sd) * x.qty := wrapI (by omega) (by omega)
     refine JA fun K4 hK4 => ?_
     refine awp_draw F_mixed [some 55, some 56, some 57, some 58, some 59, some 60, some 61, some 62, some 63, some 64, some 65, some 66, some 67, some 68, some 10, some 11] rfl (by kernel_rfl) ?_
     simp only [zzK, QR, QP, QQ, JC, zz19, zz23, F_off46_0, zzH, QN, QS, F_off29_0, F_ok3, F_ag3, F_sz3, zz8, zzD, zzC, QA, yyE, Qe, F_sl90, F_zero3, zz3, JS, zz1, zzG, maxLen_le, QT, JE, F_by3, zz4, zz9, QB, zz29, JM, zz37, F_off46_1, zz21, zz36, JB, hns, hmn, grow, unDs_map, QW, zz6, QO, ↓Qb]
     have hm1 : (tWho (tF sd n pre)).length + 1 ≤ 1000000 := by omega
     have hm2 : (tWs sd (tF sd n pre)).length + 1 ≤ 1000000 := by omega
     first | refine ⟨by rw [maxLen_le _ hm1]; trivial, by omega, by rw [maxLen_le _ hm2]; trivial, by omega, ?_⟩ | refine ⟨le_maxLen hm1, by omega, le_maxLen hm2, by omega, ?_⟩ | refine ⟨by simp, le_maxLen hm1, by omega, by simp, le_maxLen hm2, by omega, ?_⟩
     clear hm1 hm2
     refine hK4 _ ?_; try clear hK4 K4
     refine kpA [2, 4, 9, 10, 11, 12, 14, 36, 37, 38] ?_
     refine Qz F_mixed [some 69, some 70, some 71, some 72, some 73, some 74, some 75, some 12] rfl ?_
     simp only [zzK, QR, QP, QQ, JC, zz29, JM, zz37, zz19, zz23, F_off46_1, zzH, QN, QS, F_ok3, F_ag3, F_sz3, zz8, zzD, zzC, QA, yyE, Qe, zz21, zz36, zz26, JB, hns, hmn, hsum, zz6, QO, ↓Qb]
     refine hK2 _ ?_; try clear hK2 K2
     refine kpA [2, 4, 9, 10, 11, 12, 36, 37, 38] ?_
     refine Qz F_mixed [some 76, some 38] rfl ?_
     simp only [zzK, QR, QP, QQ, zz21, JM, zz26, JC, hwx, zz6, QO, ↓Qb]
     refine ⟨post2.length, _, by simp, le_SK (fun r => bif r == 11 then 68 else bif r == 10 then 60 else r) [] rfl (l' := [(2, .d (iv mq)), (4, .ptr 4 0 0), (9, .d (iv sd)), (10, .ref 10 (tWho (tF sd n (pre ++ [x]))).length), (11, .ref 11 (tWs sd (tF sd n (pre ++ [x]))).length), (12, .d (iv (tWs sd (tF sd n (pre ++ [x]))).sum)), (36, .d (poss ps)), (37, .d (iv ps.length)), (38, .d (iv (pre ++ [x]).length))]) (m' := [(4, (⟨True, 29, 2, true, false, 4, [[.d (iv w), .d (iv n)]]⟩ : ARow)), (10, grow 3 1 10 ((tWho (tF sd n (pre ++ [x]))).map fun n => [iv n])), (11, grow 3 1 11 ((tWs sd (tF sd n (pre ++ [x]))).map fun n => [iv n]))]) ?_ ?_ ?_ ?_, (pre ++ [x]), post2, by simp [hsp], rfl, rfl⟩
     ·simp only [leV, JD, QQ, Qd, Qc, hwx, hsum]; exact ⟨(by first | exact Qo rfl | exact Qq (by decide) | exact Qp | exact Qn _ | exact Qs (by simp) (by rfl) | exact Qr (by simp) (by rfl) (by first | rfl | (simp; done) | (simp; omega)) | exact Qt (by first | rfl | simp)), (by first | exact Qo rfl | exact Qq (by decide) | exact Qp | exact Qn _ | exact Qs (by simp) (by rfl) | exact Qr (by simp) (by rfl) (by first | rfl | (simp; done) | (simp; omega)) | exact Qt (by first | rfl | simp)), (by first | exact Qo rfl | exact Qq (by decide) | exact Qp | exact Qn _ | exact Qs (by simp) (by rfl) | exact Qr (by simp) (by rfl) (by first | rfl | (simp; done) | (simp; omega)) | exact Qt (by first | rfl | simp)), (Qr (by simp) (by rfl) (by rw [hw1]; simp)), (Qr (by simp) (by rfl) (by rw [hw2]; simp)), (Qt (by rw [hsm])), (by first | exact Qo rfl | exact Qq (by decide) | exact Qp | exact Qn _ | exact Qs (by simp) (by rfl) | exact Qr (by simp) (by rfl) (by first | rfl | (simp; done) | (simp; omega)) | exact Qt (by first | rfl | simp)), (by first | exact Qo rfl | exact Qq (by decide) | exact Qp | exact Qn _ | exact Qs (by simp) (by rfl) | exact Qr (by simp) (by rfl) (by first | rfl | (simp; done) | (simp; omega)) | exact Qt (by first | rfl | simp)), (by first | exact Qo rfl | exact Qq (by decide) | exact Qp | exact Qn _ | exact Qs (by simp) (by rfl) | exact Qr (by simp) (by rfl) (by first | rfl | (simp; done) | (simp; omega)) | exact Qt (by first | rfl | simp)), trivial⟩
     ·exact ⟨fun _ => ⟨_, rfl, (by first | exact Qw (by first | rfl | simp) | exact Qx (by first | rfl | simp) (by simp) ids_data | exact Qv (by simp [QX, QY]) | exact Qu (by simp) (by simp [QX, QY]))⟩, fun h => by simp at h, fun _ => ⟨_, rfl, Qw (by rw [hw1]; simp)⟩, fun h => by simp at h, fun _ => ⟨_, rfl, Qw (by rw [hw2]; simp)⟩, fun h => by simp at h, trivial⟩
     ·simp [wfV, QY, QX, lookR, grow]
     ·exact ⟨by simp [QX, QY, lookR], wf_data _ _, wf_data _ _, trivial⟩
    ·intro hb
     have ht : tP sd n x = false := by rw [← hb]; simp [tP]
     clear hb
     have hw1 : tWho (tF sd n (pre ++ [x])) = tWho (tF sd n pre) := by rw [tF_no ht]
     have hw2 : tWs sd (tF sd n (pre ++ [x])) = tWs sd (tF sd n pre) := by rw [tF_no ht]
     have hsm : (tWs sd (tF sd n (pre ++ [x]))).sum = (tWs sd (tF sd n pre)).sum := by rw [hw2]
     have hsum : True := trivial
     refine JI ?_
     simp only [zz6, QO, ↓Qb]
     refine hK2 _ ?_; try clear hK2 K2
     refine kpA [2, 4, 9, 10, 11, 12, 36, 37, 38] ?_
     refine Qz F_mixed [some 76, some 38] rfl ?_
     simp only [zzK, QR, QP, QQ, zz21, JM, zz26, JC, hwx, zz6, QO, ↓Qb]
     refine ⟨post2.length, _, by simp, le_SK id [] rfl (l' := [(2, .d (iv mq)), (4, .ptr 4 0 0), (9, .d (iv sd)), (10, .ref 10 (tWho (tF sd n (pre ++ [x]))).length), (11, .ref 11 (tWs sd (tF sd n (pre ++ [x]))).length), (12, .d (iv (tWs sd (tF sd n (pre ++ [x]))).sum)), (36, .d (poss ps)), (37, .d (iv ps.length)), (38, .d (iv (pre ++ [x]).length))]) (m' := [(4, (⟨True, 29, 2, true, false, 4, [[.d (iv w), .d (iv n)]]⟩ : ARow)), (10, grow 3 1 10 ((tWho (tF sd n (pre ++ [x]))).map fun n => [iv n])), (11, grow 3 1 11 ((tWs sd (tF sd n (pre ++ [x]))).map fun n => [iv n]))]) ?_ ?_ ?_ ?_, (pre ++ [x]), post2, by simp [hsp], rfl, rfl⟩
     ·simp only [leV, JD, QQ, Qd, Qc, hwx, hsum]; exact ⟨(by first | exact Qo rfl | exact Qq (by decide) | exact Qp | exact Qn _ | exact Qs (by simp) (by rfl) | exact Qr (by simp) (by rfl) (by first | rfl | (simp; done) | (simp; omega)) | exact Qt (by first | rfl | simp)), (by first | exact Qo rfl | exact Qq (by decide) | exact Qp | exact Qn _ | exact Qs (by simp) (by rfl) | exact Qr (by simp) (by rfl) (by first | rfl | (simp; done) | (simp; omega)) | exact Qt (by first | rfl | simp)), (by first | exact Qo rfl | exact Qq (by decide) | exact Qp | exact Qn _ | exact Qs (by simp) (by rfl) | exact Qr (by simp) (by rfl) (by first | rfl | (simp; done) | (simp; omega)) | exact Qt (by first | rfl | simp)), (Qr (by simp) (by rfl) (by rw [hw1])), (Qr (by simp) (by rfl) (by rw [hw2])), (Qt (by rw [hsm])), (by first | exact Qo rfl | exact Qq (by decide) | exact Qp | exact Qn _ | exact Qs (by simp) (by rfl) | exact Qr (by simp) (by rfl) (by first | rfl | (simp; done) | (simp; omega)) | exact Qt (by first | rfl | simp)), (by first | exact Qo rfl | exact Qq (by decide) | exact Qp | exact Qn _ | exact Qs (by simp) (by rfl) | exact Qr (by simp) (by rfl) (by first | rfl | (simp; done) | (simp; omega)) | exact Qt (by first | rfl | simp)), (by first | exact Qo rfl | exact Qq (by decide) | exact Qp | exact Qn _ | exact Qs (by simp) (by rfl) | exact Qr (by simp) (by rfl) (by first | rfl | (simp; done) | (simp; omega)) | exact Qt (by first | rfl | simp)), trivial⟩
     ·exact ⟨fun _ => ⟨_, rfl, (by first | exact Qw (by first | rfl | simp) | exact Qx (by first | rfl | simp) (by simp) ids_data | exact Qv (by simp [QX, QY]) | exact Qu (by simp) (by simp [QX, QY]))⟩, fun h => by simp at h, fun _ => ⟨_, rfl, Qw (by rw [hw1])⟩, fun h => by simp at h, fun _ => ⟨_, rfl, Qw (by rw [hw2])⟩, fun h => by simp at h, trivial⟩
     ·simp [wfV, QY, QX, lookR, grow]
     ·exact ⟨by simp [QX, QY, lookR], wf_data _ _, wf_data _ _, trivial⟩
   ·intro hb
    obtain rfl : post = [] := by
     cases post with
     | nil => rfl
     | cons x t => have := Qf hb; simp at hspl; omega
    clear hb
    simp only [QG] at hsp
    subst hsp
    refine awp_exit ?_
    simp only [zz6, QO, ↓Qb]
    refine hK0 _ ?_; try clear hK0 K0
    refine kpA [2, 10, 11, 12] ?_
    refine JA fun K0 hK0 => ?_
    refine JA fun K1 hK1 => ?_
    refine Qz F_mixed [some 77, some 78, some 79] rfl ?_
    simp only [zzK, QR, QP, QQ, JC, zz21, JM, zz25, zz6, QO, ↓Qb]
    refine hK1 _ ?_; try clear hK1 K1
    refine kpA [2, 10, 11, 79] ?_
    refine cnA ?_ ?_
    ·intro hb
     exfalso
     have := Qg hb
     omega
    ·intro hb
     clear hb
     refine JI ?_
     simp only [zz6, QO, ↓Qb]
     refine hK0 _ ?_; try clear hK0 K0
     refine kpA [2, 10, 11] ?_
     refine JA fun K0 hK0 => ?_
     refine Qz F_mixed [some 81, some 82, some 83, some 80, some 84, some 85, some 15, some 8] rfl ?_
     simp only [zzK, QR, QP, QQ, JC, JE, JF, zz14, zzD, QS, QN, zzF, JB, ints, grow, D.sl.injEq, JN, zz6, QO, ↓Qb]
     refine JT F_go41 (fun hG => splitF21 mq (tWs sd (tF sd n ps)) (by have := h16 sd; simp only [tWs, List.length_map]; omega)) (by simp [QY, QX]) (by simp) ?_
     simp only [zzK, QR, QP, QQ, JC, JE, JF, zz14, zzD, QS, QN, zzF, JB, ints, grow, JN, zz6, QO, ↓Qb, atsL, oksG, freeN, QZ, Qa, JO, Qm, QT, QS, zz9, QB, QA, zzC, yyF, QF, zz2]
     skip
     refine hK0 _ ?_; try clear hK0 K0
     refine kpA [8, 10, 15] ?_
     refine JA fun K0 hK0 => ?_
     refine JA fun K1 hK1 => ?_
     refine Qz F_mixed [some 86, some 87] rfl ?_
     simp only [zzK, QR, QP, QQ, JC, zz21, JM, zz28, zz6, QO, ↓Qb]
     refine hK1 _ ?_; try clear hK1 K1
     refine kpA [8, 10, 15, 87] ?_
     refine cnA ?_ ?_
     ·intro hb
      simp [hsE] at hb
     ·intro hb
      clear hb
      refine JI ?_
      simp only [zz6, QO, ↓Qb]
      refine hK0 _ ?_; try clear hK0 K0
      refine kpA [10, 15] ?_
      refine JA fun K0 hK0 => ?_
      refine Qz F_mixed [some 16] rfl ?_
      simp only [zzK, QR, QP, QQ, JB, zz6, QO, ↓Qb]
      refine hK0 _ ?_; try clear hK0 K0
      refine kpA [10, 15, 16] ?_
      refine JA fun K0 hK0 => ?_
      refine JA fun K1 hK1 => ?_
      refine Qz F_mixed [some 89, some 90, some 91] rfl ?_
      simp only [zzK, QR, QP, QQ, JC, JE, zz12, F_sl90, Option.isSome_some, ints, JN, zz6, QO, ↓Qb]
      refine hK1 _ ?_; try clear hK1 K1
      refine kpA [10, 16, 89, 90, 91] ?_
      refine JH ?_
      refine awp_loop (fun m s => ∃ (i : Nat), (i ≤ (splitV mq (tWs sd (tF sd n ps))).length) ∧ m = (splitV mq (tWs sd (tF sd n ps))).length - i ∧ s = S 109 [(10, .ref 10 (tWho (tF sd n ps)).length), (16, .ref 16 (flI (tWho (tF sd n ps)) (splitV mq (tWs sd (tF sd n ps))) i).length), (89, .d (ints (splitV mq (tWs sd (tF sd n ps))))), (90, .d (iv (splitV mq (tWs sd (tF sd n ps))).length)), (91, .d (iv ((i : Nat) : Int)))] [(10, grow 3 1 10 ((tWho (tF sd n ps)).map fun n => [iv n])), (16, grow 33 3 16 ((flI (tWho (tF sd n ps)) (splitV mq (tWs sd (tF sd n ps))) i).map fillC))]) ((splitV mq (tWs sd (tF sd n ps))).length) _ (le_SK id [16] rfl (l' := [(10, .ref 10 (tWho (tF sd n ps)).length), (16, .ref 16 (flI (tWho (tF sd n ps)) (splitV mq (tWs sd (tF sd n ps))) 0).length), (89, .d (ints (splitV mq (tWs sd (tF sd n ps))))), (90, .d (iv (splitV mq (tWs sd (tF sd n ps))).length)), (91, .d (iv ((0 : Nat) : Int)))]) (m' := [(10, grow 3 1 10 ((tWho (tF sd n ps)).map fun n => [iv n])), (16, grow 33 3 16 ((flI (tWho (tF sd n ps)) (splitV mq (tWs sd (tF sd n ps))) 0).map fillC))]) ?_ ?_ ?_ ?_) ⟨0, Nat.zero_le _, rfl, rfl⟩ ?_
      ·simp only [leV, JD, QQ, Qd, Qc]; exact ⟨(by first | exact Qo rfl | exact Qq (by decide) | exact Qp | exact Qn _ | exact Qs (by simp) (by rfl) | exact Qr (by simp) (by rfl) (by first | rfl | (simp; done) | (simp; omega)) | exact Qt (by first | rfl | simp)), (by first | exact Qo rfl | exact Qq (by decide) | exact Qp | exact Qn _ | exact Qs (by simp) (by rfl) | exact Qr (by simp) (by rfl) (by first | rfl | (simp; done) | (simp; omega)) | exact Qt (by first | rfl | simp)), (by first | exact Qo rfl | exact Qq (by decide) | exact Qp | exact Qn _ | exact Qs (by simp) (by rfl) | exact Qr (by simp) (by rfl) (by first | rfl | (simp; done) | (simp; omega)) | exact Qt (by first | rfl | simp)), (by first | exact Qo rfl | exact Qq (by decide) | exact Qp | exact Qn _ | exact Qs (by simp) (by rfl) | exact Qr (by simp) (by rfl) (by first | rfl | (simp; done) | (simp; omega)) | exact Qt (by first | rfl | simp)), (Qt rfl), trivial⟩
      ·exact ⟨fun _ => ⟨_, rfl, (by first | exact Qw (by first | rfl | simp) | exact Qx (by first | rfl | simp) (by simp) ids_data | exact Qv (by simp [QX, QY]) | exact Qu (by simp) (by simp [QX, QY]))⟩, fun h => by simp at h, fun h => by simp at h, fun _ => rfl, trivial⟩
      ·simp [wfV, QY, QX, lookR, grow]
      ·exact ⟨wf_data _ _, wf_data _ _, trivial⟩
      rintro m s ⟨i, hil, rfl, rfl⟩
      have hfi := flI_len (tWho (tF sd n ps)) (splitV mq (tWs sd (tF sd n ps))) i
      refine JA fun K2 hK2 => ?_
      refine Qz F_mixed [some 92] rfl ?_
      simp only [zzK, QR, QP, QQ, zz21, JM, zz22, zz6, QO, ↓Qb]
      refine hK2 _ ?_; try clear hK2 K2
      refine kpA [10, 16, 89, 90, 91, 92] ?_
      refine JA fun K2 hK2 => ?_
      refine cnA ?_ ?_
      ·intro hb
       have hi : i < (splitV mq (tWs sd (tF sd n ps))).length := by have := Qg hb; omega
       clear hb
       have hwi : Ql .i64 ((i : Int) + 1) = ((i + 1 : Nat) : Int) := wrapI (by omega) (by omega)
       have hiw : i < (tWho (tF sd n ps)).length := by omega
       have gi := intsD_get (p := (splitV mq (tWs sd (tF sd n ps)))) hi
       have gw := oneI_get (p := (tWho (tF sd n ps))) hiw
       have bi := ltI hi
       have bw := ltI hiw
       have cw := eq_true hiw
       have hsc := flI_succ (tWho (tF sd n ps)) (splitV mq (tWs sd (tF sd n ps))) i
       refine JI ?_
       simp only [zz6, QO, ↓Qb]
       refine hK2 _ ?_; try clear hK2 K2
       refine kpA [10, 16, 89, 90, 91] ?_
       refine JA fun K2 hK2 => ?_
       refine JH ?_
       refine JA fun K3 hK3 => ?_
       refine Qz F_mixed [some 93, some 94, some 95, some 17, some 18] rfl ?_
       simp only [zzK, QR, QP, QQ, JC, JW, zz23, zz24, F_sl90, F_sz3, QA, zzC, yyE, Qe, F_ok3, F_ag3, zz8, zzD, QS, QN, zzH, JB, ints, JN, gi, bi, ge0, QV, zz6, QO, ↓Qb]
       refine hK3 _ ?_; try clear hK3 K3
       refine kpA [10, 16, 17, 18, 89, 90, 91] ?_
       refine JA fun K3 hK3 => ?_
       refine Qz F_mixed [some 96, some 97] rfl ?_
       simp only [zzK, QR, QP, QQ, JC, zz21, JM, zz25, zz6, QO, ↓Qb]
       refine hK3 _ ?_; try clear hK3 K3
       refine kpA [10, 16, 17, 18, 89, 90, 91, 97] ?_
       refine cnA ?_ ?_
       ·intro hb
        have hF1 : flI (tWho (tF sd n ps)) (splitV mq (tWs sd (tF sd n ps))) (i + 1) = flI (tWho (tF sd n ps)) (splitV mq (tWs sd (tF sd n ps))) i ++ [⟨(tWho (tF sd n ps)).getD i 0, (splitV mq (tWs sd (tF sd n ps))).getD i 0, 0⟩] := by rw [hsc, show decide ((splitV mq (tWs sd (tF sd n ps))).getD i 0 > 0) = true from hb]; rfl
        clear hb
        refine Qz F_mixed [some 98, some 99, some 100, some 101, some 102, some 103, some 104, some 105, some 106, some 16] rfl ?_
        simp only [zzK, QR, QP, QQ, JC, JW, zz23, zz24, F_sl90, F_sz3, QA, zzC, yyE, Qe, F_ok3, F_ag3, zz8, zzD, QS, QN, zzH, F_zero33, F_bld33, zz7, splice, Option.getD_some, QG, zz1, zzG, zz10, F_fld33_0, F_fld33_1, F_sl23, F_sz33, zz3, JS, maxLen_le, QT, JE, F_by33, zz4, zz9, QB, JB, JN, gw, bw, cw, Nat.le_refl, ge0, QV, grow, unDs_map, QW, zz6, QO, ↓Qb]
        have hm : (flI (tWho (tF sd n ps)) (splitV mq (tWs sd (tF sd n ps))) i).length + 1 ≤ 1000000 := by first | omega | (simp; omega)
        first | refine ⟨le_maxLen hm, by omega, ?_⟩ | refine ⟨by simp, le_maxLen hm, by omega, ?_⟩
        clear hm
        refine hK2 _ ?_; try clear hK2 K2
        refine kpA [10, 16, 89, 90, 91] ?_
        refine Qz F_mixed [some 107, some 91] rfl ?_
        simp only [zzK, QR, QP, QQ, zz21, JM, zz26, JC, hwi, zz6, QO, ↓Qb]
        refine ⟨(splitV mq (tWs sd (tF sd n ps))).length - (i + 1), _, by omega, le_SK (fun r => bif r == 16 then 106 else r) [] rfl (l' := [(10, .ref 10 (tWho (tF sd n ps)).length), (16, .ref 16 (flI (tWho (tF sd n ps)) (splitV mq (tWs sd (tF sd n ps))) (i + 1)).length), (89, .d (ints (splitV mq (tWs sd (tF sd n ps))))), (90, .d (iv (splitV mq (tWs sd (tF sd n ps))).length)), (91, .d (iv (((i + 1) : Nat) : Int)))]) (m' := [(10, grow 3 1 10 ((tWho (tF sd n ps)).map fun n => [iv n])), (16, grow 33 3 16 ((flI (tWho (tF sd n ps)) (splitV mq (tWs sd (tF sd n ps))) (i + 1)).map fillC))]) ?_ ?_ ?_ ?_, (i + 1), by omega, rfl, rfl⟩
        ·simp only [leV, JD, QQ, Qd, Qc, hwi]; exact ⟨(by first | exact Qo rfl | exact Qq (by decide) | exact Qp | exact Qn _ | exact Qs (by simp) (by rfl) | exact Qr (by simp) (by rfl) (by first | rfl | (simp; done) | (simp; omega)) | exact Qt (by first | rfl | simp)), (Qr (by simp) (by rfl) (by rw [hF1]; simp)), (by first | exact Qo rfl | exact Qq (by decide) | exact Qp | exact Qn _ | exact Qs (by simp) (by rfl) | exact Qr (by simp) (by rfl) (by first | rfl | (simp; done) | (simp; omega)) | exact Qt (by first | rfl | simp)), (by first | exact Qo rfl | exact Qq (by decide) | exact Qp | exact Qn _ | exact Qs (by simp) (by rfl) | exact Qr (by simp) (by rfl) (by first | rfl | (simp; done) | (simp; omega)) | exact Qt (by first | rfl | simp)), (by first | exact Qo rfl | exact Qq (by decide) | exact Qp | exact Qn _ | exact Qs (by simp) (by rfl) | exact Qr (by simp) (by rfl) (by first | rfl | (simp; done) | (simp; omega)) | exact Qt (by first | rfl | simp)), trivial⟩
        ·exact ⟨fun _ => ⟨_, rfl, (by first | exact Qw (by first | rfl | simp) | exact Qx (by first | rfl | simp) (by simp) ids_data | exact Qv (by simp [QX, QY]) | exact Qu (by simp) (by simp [QX, QY]))⟩, fun h => by simp at h, fun _ => ⟨_, rfl, Qw (by rw [hF1]; simp [fillC])⟩, fun h => by simp at h, trivial⟩
        ·simp [wfV, QY, QX, lookR, grow]
        ·exact ⟨wf_data _ _, wf_data _ _, trivial⟩
       ·intro hb
        have hF1 : flI (tWho (tF sd n ps)) (splitV mq (tWs sd (tF sd n ps))) (i + 1) = flI (tWho (tF sd n ps)) (splitV mq (tWs sd (tF sd n ps))) i := by rw [hsc, show decide ((splitV mq (tWs sd (tF sd n ps))).getD i 0 > 0) = false from hb]; simp
        clear hb
        refine JI ?_
        simp only [zz6, QO, ↓Qb]
        refine hK2 _ ?_; try clear hK2 K2
        refine kpA [10, 16, 89, 90, 91] ?_
        refine Qz F_mixed [some 107, some 91] rfl ?_
        simp only [zzK, QR, QP, QQ, zz21, JM, zz26, JC, hwi, zz6, QO, ↓Qb]
        refine ⟨(splitV mq (tWs sd (tF sd n ps))).length - (i + 1), _, by omega, le_SK id [] rfl (l' := [(10, .ref 10 (tWho (tF sd n ps)).length), (16, .ref 16 (flI (tWho (tF sd n ps)) (splitV mq (tWs sd (tF sd n ps))) (i + 1)).length), (89, .d (ints (splitV mq (tWs sd (tF sd n ps))))), (90, .d (iv (splitV mq (tWs sd (tF sd n ps))).length)), (91, .d (iv (((i + 1) : Nat) : Int)))]) (m' := [(10, grow 3 1 10 ((tWho (tF sd n ps)).map fun n => [iv n])), (16, grow 33 3 16 ((flI (tWho (tF sd n ps)) (splitV mq (tWs sd (tF sd n ps))) (i + 1)).map fillC))]) ?_ ?_ ?_ ?_, (i + 1), by omega, rfl, rfl⟩
        ·simp only [leV, JD, QQ, Qd, Qc, hwi]; exact ⟨(by first | exact Qo rfl | exact Qq (by decide) | exact Qp | exact Qn _ | exact Qs (by simp) (by rfl) | exact Qr (by simp) (by rfl) (by first | rfl | (simp; done) | (simp; omega)) | exact Qt (by first | rfl | simp)), (Qr (by simp) (by rfl) (by rw [hF1])), (by first | exact Qo rfl | exact Qq (by decide) | exact Qp | exact Qn _ | exact Qs (by simp) (by rfl) | exact Qr (by simp) (by rfl) (by first | rfl | (simp; done) | (simp; omega)) | exact Qt (by first | rfl | simp)), (by first | exact Qo rfl | exact Qq (by decide) | exact Qp | exact Qn _ | exact Qs (by simp) (by rfl) | exact Qr (by simp) (by rfl) (by first | rfl | (simp; done) | (simp; omega)) | exact Qt (by first | rfl | simp)), (by first | exact Qo rfl | exact Qq (by decide) | exact Qp | exact Qn _ | exact Qs (by simp) (by rfl) | exact Qr (by simp) (by rfl) (by first | rfl | (simp; done) | (simp; omega)) | exact Qt (by first | rfl | simp)), trivial⟩
        ·exact ⟨fun _ => ⟨_, rfl, (by first | exact Qw (by first | rfl | simp) | exact Qx (by first | rfl | simp) (by simp) ids_data | exact Qv (by simp [QX, QY]) | exact Qu (by simp) (by simp [QX, QY]))⟩, fun h => by simp at h, fun _ => ⟨_, rfl, Qw (by rw [hF1])⟩, fun h => by simp at h, trivial⟩
        ·simp [wfV, QY, QX, lookR, grow]
        ·exact ⟨wf_data _ _, wf_data _ _, trivial⟩
      ·intro hb
       obtain rfl : i = (splitV mq (tWs sd (tF sd n ps))).length := by have := Qf hb; omega
       clear hb
       refine awp_exit ?_
       simp only [zz6, QO, ↓Qb]
       refine hK0 _ ?_; try clear hK0 K0
       refine kpA [16] ?_
       refine JA fun K0 hK0 => ?_
       refine Qz F_mixed [some 108, some 6, some 7] rfl ?_
       simp only [zzK, QR, QP, QQ, JC, JB, zz6, QO, ↓Qb]
       refine hK0 _ ?_; try clear hK0 K0
       refine kpA [6, 7] ?_
       refine awp_ret ?_
       simp only [zz6, QO, ↓Qb]
       rw [htv]
       refine done1 16 (by simp only [resCs, resC]; trivial) ?_ (by simp [flatA, flatAs, flatD, fillC]) (by simp [QY, QX, fillC]) (by rfl) trivial rfl rfl ?_ (by simp [flatDs, flatD, fillC])
       ·simp only [List.map_cons, List.map_nil, resA, S_getD, QR, QP, JD, QQ, Qd, Qc, resAll]; rfl
       ·rfl
theorem tearF (b : BookV) (w n m : Int) (hG : GoodB b) (h0 : 0 ≤ m) (h1 : m ≤ 1099511627776) (h2 : m ≤ tAll w n b.poss) : ACalls Try.prog 24 [.agg (bookC b), .agg [iv w, iv n], iv m] [] (.tp [.d (fillsD (tearV w n m b.poss)), .d (iv 0)]) :=
 (tear_ b.next b.trades b.poss w n m hG h0 h1 h2).freezeT (by simp [frzOk, frzOkL])
theorem tearG (b : BookV) (w n m : Int) (hG : GoodB b) (h0 : 0 ≤ m) (h1 : m ≤ 1099511627776) (h2 : m ≤ tAll w n b.poss) : ACalls Try.prog 24 [.agg (bookC b), .agg [iv w, iv n], iv m] [⟨33, 3, (tearV w n m b.poss).map fillC⟩] (.tp [.ref 0 (tearV w n m b.poss).length, .d (iv 0)]) :=
 tear_ b.next b.trades b.poss w n m hG h0 h1 h2
end Go.Proofs.Ytopifbpibkpmmaa
