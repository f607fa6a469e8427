import Derived.Test.YtopifbpibkpmmaaWpD
import Derived.Test.YtopifbpibkpmmaaWpI
import Derived.Test.YtopifbpibkpmmaaWpJ
import Derived.Test.YtopifbpibkpmmaaWpH
import Derived.Test.YtopifbpibkpmmaaWpK
namespace Go.Proofs.Ytopifbpibkpmmaa
open Go.RowKit
set_option linter.unusedVariables false
set_option linter.unusedSimpArgs false
open Option renaming map_some → QA, bind_some → QB
open List renaming length_append → QC, map_cons → QD, map_nil → QE, length_cons → QF, append_nil → QG
open Nat renaming zero_add → QN, reduceEqDiff → QO, reduceLeDiff → QP, reduceBEq → QQ, reduceLT → QR, reduceAdd → QS, reduceMul → QT, reduceSub → QU
open Int renaming toNat_natCast → QV
open D.agg renaming injEq → QW
open AV renaming idsL → QX, ids → QY, ren → QZ, renL → Qa
open _root_ renaming reduceIte → Qb, cond_false → Qc, cond_true → Qd, reduceCtorEq → Qe, of_decide_eq_false → Qf, of_decide_eq_true → Qg, imp_self → Qh, imp_and → Qi, and_imp → Qj
open IntKind renaming wrap → Ql
open ORow renaming row → Qm
open VLe renaming refl → Qn, still → Qo, nild_ → Qp, nil_ → Qq, refE → Qr, ptrE → Qs, dE → Qt
open RowLe renaming same → Qu, still → Qv, data_ → Qw, uq2 → Qx
open Go.Proofs.Ytopifbpibkpmmaa renaming awp_plain → Qz, awp_seq → JA, evS_assign → JB, evS_move → JC, look_cons → JD, evS_call → JE, evC_value → JF, awp_block → JH, awp_skip → JI, awp_ret → JJ, gr_v → JM, len_map → JN, addRows → JO, pickK_l → JQ, pickK_r → JR, newRow1 → JS, call_go → JT, freeN → JV, evS_indexAddr → JW, S_getD → JZ
theorem F_go22 : goFn Try.prog 22 := ⟨_, Try.func22, rfl, rfl⟩
theorem F_go24 : goFn Try.prog 24 := ⟨_, Try.func24, rfl, rfl⟩
theorem F_go10 : goFn Try.prog 10 := ⟨_, Try.func10, rfl, rfl⟩
theorem F_cv63_3 : ∀ (k : IntKind) (x : Int), pureCv Try.prog 63 3 (.int k x) = True := fun _ _ => pure_cv (by kernel_rfl) (by kernel_rfl)
theorem F_go15 : goFn Try.prog 15 := ⟨_, Try.func15, rfl, rfl⟩
theorem F_go25 : goFn Try.prog 25 := ⟨_, Try.func25, rfl, rfl⟩
theorem F_go26 : goFn Try.prog 26 := ⟨_, Try.func26, rfl, rfl⟩
set_option maxRecDepth 100000 in
set_option maxHeartbeats 4000000 in
theorem torn_ (l : List ActV) (w n a c : Int) : ACalls Try.prog 8 [acts l, .agg [iv w, iv n], iv a, iv c] [] (bv true) := by
 refine acalls_S (rs := [.tmp 8]) Try.func8 rfl rfl 188 [(0, .d (acts l)), (1, .d (.agg [iv w, iv n])), (2, .d (iv a)), (3, .d (iv c))] rfl (by simp) rfl ?_
 refine JA fun K0 hK0 => ?_
 refine Qz F_mixed [some 5, some 8] rfl ?_
 simp only [zzK, QR, QP, QQ, zz35, JS, zz1, zzG, zzD, zzC, QA, yyE, Qe, QS, QN, zzH, JB, zz6, QO, ↓Qb]
 refine hK0 _ ?_; try clear hK0 K0
 refine kpA [0, 2, 3, 5] ?_
 refine JA fun K0 hK0 => ?_
 refine JA fun K1 hK1 => ?_
 refine Qz F_mixed [some 26, some 27, some 28, some 29, some 30, some 31, some 32, some 33, some 34, some 35, some 36] rfl ?_
 simp only [zzK, QR, QP, QQ, QU, JZ, zz5, Qj, Qi, Qh, and_self, JC, JE, zz12, F_sl55, Option.isSome_some, zz21, JM, zz25, zz22, zz13, JQ, JR, acts, JN, zz6, QO, ↓Qb]
 refine hK1 _ ?_; try clear hK1 K1
 refine kpA [0, 2, 3, 5, 36] ?_
 refine cnA ?_ ?_
 ·intro hb
  clear hb
  refine JA fun K2 hK2 => ?_
  refine Qz F_mixed [some 8] rfl ?_
  simp only [zzK, QR, QP, QQ, JB, zz6, QO, ↓Qb]
  refine hK2 _ ?_; try clear hK2 K2
  refine kpA [8] ?_
  refine JJ ?_
  simp only [zz6, QO, ↓Qb]
  refine dnA ?_
  simp only [QD, QE, resA, JZ, QR, QP, JD, QQ, Qd, Qc, resAll]
  
 ·intro hb
  have hc : 0 ≤ c ∧ c ≤ 1073741824 := by
   by_cases h1 : c < 0
   ·simp [h1] at hb
   ·by_cases h2 : c > 1073741824
    ·simp [h2] at hb
    ·omega
  clear hb
  have hI := inv_grown l
  have hQ := qb_grown l
  refine JI ?_
  simp only [zz6, QO, ↓Qb]
  refine hK0 _ ?_; try clear hK0 K0
  refine kpA [0, 2, 3, 5] ?_
  refine JA fun K0 hK0 => ?_
  refine Qz F_mixed [some 37, some 38, some 9, none] rfl ?_
  simp only [zzK, QR, QP, QQ, JC, JE, JF, zz32, JS, F_zero58, zzC, QA, yyE, Qe, zzD, QS, QN, zzH, zz10, zz18, F_ok58, F_sz58, splice, QG, zz1, zzG, acts, bookC, tradesB, poss, QW, zz6, QO, ↓Qb]
  refine JT F_go22 (fun hG => grownBF l) (by simp [QY, QX]) (by simp) ?_
  simp only [zzK, QR, QP, QQ, JC, JE, JF, zz32, JS, F_zero58, zzC, QA, yyE, Qe, zzD, QS, QN, zzH, zz10, zz18, F_ok58, F_sz58, splice, QG, zz1, zzG, acts, bookC, tradesB, poss, QW, zz6, QO, ↓Qb, atsL, oksG, JV, QZ, Qa, JO, Qm, QT, QS, zz9, QB, QA, S_mem, yyF, QF, zz2]
  generalize grownB l = b at hI hQ ⊢
  have hGd := hI.good
  have hbl := grow_len hGd
  refine hK0 _ ?_; try clear hK0 K0
  refine kpA [2, 3, 5, 9] ?_
  refine JA fun K0 hK0 => ?_
  refine Qz F_mixed [some 39, some 40, some 41, some 42, some 10] rfl ?_
  simp only [zzK, QR, QP, QQ, F_ok58, F_ag58, F_sz58, zz8, zz23, zzD, QS, QN, zzH, zzC, QA, yyE, Qe, F_ok29, F_ag29, F_sz29, JE, JF, evS_field, fdK_some, fdV_ag, fdV_agg, fdC_one, fdC_agg, F_field46_1, F_ok3, F_ag3, F_sz3, JB, bookC, tradesB, poss, QW, posA, zz6, QO, ↓Qb]
  refine JT F_go23 (fun hG => rOf13_ b.next b.trades b.poss w n (by omega)) (by simp [QY, QX, posA]) (by simp) ?_
  simp only [zzK, QR, QP, QQ, F_ok58, F_ag58, F_sz58, zz8, zz23, zzD, QS, QN, zzH, zzC, QA, yyE, Qe, F_ok29, F_ag29, F_sz29, JE, JF, evS_field, fdK_some, fdV_ag, fdV_agg, fdC_one, fdC_agg, F_field46_1, F_ok3, F_ag3, F_sz3, JB, bookC, tradesB, poss, QW, posA, zz6, QO, ↓Qb, atsL, oksG, JV, QZ, Qa, JO, Qm, QT, QS, zz9, QB, QA, S_mem, yyF, QF, zz2]
  obtain ⟨q, hq⟩ : ∃ q, q = (ofP w n b.poss).qty := ⟨_, rfl⟩
  rw [← hq]
  have hqb := of_bnd hGd w n
  rw [← hq] at hqb
  refine hK0 _ ?_; try clear hK0 K0
  refine kpA [2, 3, 5, 9, 10] ?_
  refine JA fun K0 hK0 => ?_
  refine JA fun K1 hK1 => ?_
  refine Qz F_mixed [some 43, some 44] rfl ?_
  simp only [zzK, QR, QP, QQ, JC, zz21, JM, zz34, zz6, QO, ↓Qb]
  refine hK1 _ ?_; try clear hK1 K1
  refine kpA [2, 3, 5, 9, 10, 44] ?_
  refine cnA ?_ ?_
  ·intro hb
   have hq0 : q = 0 := by simpa using hb
   clear hb
   obtain ⟨z1, z2⟩ := t_zero (w := w) (n := n) (ps := b.poss) (by omega)
   refine JA fun K2 hK2 => ?_
   refine Qz F_mixed [some 46, some 47, some 48, some 45, some 49, some 50, some 11, some 12] rfl ?_
   simp only [zzK, QR, QP, QQ, F_ok58, F_ag58, F_sz58, zz8, zz23, zzD, QS, QN, zzH, zzC, QA, yyE, Qe, F_ok29, F_ag29, F_sz29, JE, JF, JC, zz14, JB, bookC, tradesB, poss, QW, fillsD, z2, zz6, QO, ↓Qb]
   refine JT F_go24 (fun hG => tearF b w n 0 hGd (by omega) (by omega) (by omega)) (by simp [QY, QX]) (by simp) ?_
   simp only [zzK, QR, QP, QQ, F_ok58, F_ag58, F_sz58, zz8, zz23, zzD, QS, QN, zzH, zzC, QA, yyE, Qe, F_ok29, F_ag29, F_sz29, JE, JF, JC, zz14, JB, bookC, tradesB, poss, QW, fillsD, z2, zz6, QO, ↓Qb, atsL, oksG, JV, QZ, Qa, JO, Qm, QT, QS, zz9, QB, QA, S_mem, yyF, QF, zz2]
   refine hK2 _ ?_; try clear hK2 K2
   refine kpA [11, 12] ?_
   refine JA fun K2 hK2 => ?_
   refine Qz F_mixed [some 51, some 52, some 53, some 54, some 55, some 56, some 57, some 58, some 59, some 60, some 8] rfl ?_
   simp only [zzK, QR, QP, QQ, QU, JZ, zz5, Qj, Qi, Qh, and_self, JC, zz21, JM, zz34, JE, zz12, F_sl23, Option.isSome_some, zz13, JQ, JR, JF, JB, fillsD, z2, JN, QE, List.length_nil, Int.natCast_zero, beq_self_eq_true, Gp_some, zz6, QO, ↓Qb]
   refine JT F_go10 (fun hG => wakes19_) (by simp [QY, QX]) (by simp) ?_
   simp only [zzK, QR, QP, QQ, QU, JZ, zz5, Qj, Qi, Qh, and_self, JC, zz21, JM, zz34, JE, zz12, F_sl23, Option.isSome_some, zz13, JQ, JR, JF, JB, fillsD, z2, JN, QE, Int.natCast_zero, beq_self_eq_true, Gp_some, zz6, QO, ↓Qb, atsL, oksG, JV, QZ, Qa, JO, Qm, QT, QS, zz9, QB, QA, zzC, yyF, zzD, zz2]
   refine hK2 _ ?_; try clear hK2 K2
   refine kpA [8] ?_
   refine JJ ?_
   simp only [zz6, QO, ↓Qb]
   refine dnA ?_
   simp only [QD, QE, resA, JZ, QR, QP, JD, QQ, Qd, Qc, resAll]
   try simp
  ·intro hb
   have hq0 : q ≠ 0 := by simpa using hb
   clear hb
   have hwq : Ql .i64 (0 - q) = 0 - q := wrapI (by omega) (by omega)
   obtain ⟨A, hA⟩ : ∃ A, A = absQ q := ⟨_, rfl⟩
   have hab : (if 0 - q > q then 0 - q else q) = A := by rw [hA]; rfl
   have hA2 : (0 < A ∧ A ≤ 1099511627776) ∧ (A = q ∨ A = -q) ∧ (q > 0 → A = q) ∧ (q < 0 → A = -q) := by rw [← hab]; split <;> omega
   obtain ⟨⟨hA0, hA1⟩, hA3, hA4, hA5⟩ := hA2
   obtain ⟨K, hK, k0, k1⟩ := mod_at (a := a) hA0 hA1
   have hAu : Ql .u64 A = A := by rw [wrapU_]; omega
   have hAn : ¬ A = 0 := by omega
   have hw1 : Ql .i64 (1 + K) = 1 + K := wrapI (by omega) (by omega)
   have hqo : (ofP w n b.poss).qty ≠ 0 := by rw [← hq]; exact hq0
   have hkn := keyOk_iff.1 (of_key hGd hqo)
   have hm2 : 1 + K ≤ (ofP w n b.poss).qty ∨ 1 + K ≤ -(ofP w n b.poss).qty := by rw [← hq]; omega
   have hM : 1 + K ≤ tAll w n b.poss := by rcases t_enough hGd hkn.2 hm2 with h | h <;> omega
   have hT := torn_f (w := w) (n := n) hGd (by omega) (by omega) hM
   have hTL := torn_l (c := c) hGd hQ hqo (by omega) hm2 hc hT
   have hfl := tear_len hGd hT
   have hle := hTL.e
   have hla := hTL.add
   have htp := fun (d : BookV) hd hA => torn_pos (d := d) (c := c) hGd hqo (by omega) hm2 hT hd hA
   rw [← hq] at hla htp
   refine JI ?_
   simp only [zz6, QO, ↓Qb]
   refine hK0 _ ?_; try clear hK0 K0
   refine kpA [2, 3, 5, 9, 10] ?_
   refine JA fun K0 hK0 => ?_
   refine Qz F_mixed [some 61, some 62, some 63, some 64, some 13] rfl ?_
   simp only [zzK, QR, QP, QQ, JC, zz29, JM, zz37, JE, zz11, grsL, QB, QA, oksL, JB, hwq, hab, zz6, QO, ↓Qb]
   refine hK0 _ ?_; try clear hK0 K0
   refine kpA [2, 3, 5, 9, 10, 13] ?_
   refine JA fun K0 hK0 => ?_
   refine Qz F_mixed [some 65, some 66, some 67, some 68, some 69, some 70, some 71, some 14] rfl ?_
   simp only [zzK, QR, QP, QQ, JC, zz27, JM, F_cv3_63, F_cvV63, zz21, b_rem, pure_rem, ne_eq, Int.reduceEq, not_false_eq_true, F_cv63_3, F_cvV3, zz26, JB, hAu, hAn, hK, hw1, zz6, QO, ↓Qb]
   refine hK0 _ ?_; try clear hK0 K0
   refine kpA [3, 5, 9, 10, 13, 14] ?_
   refine JA fun K0 hK0 => ?_
   refine Qz F_mixed [some 73, some 74, some 75, some 76, some 72, some 77, some 78, some 15, some 16] rfl ?_
   simp only [zzK, QR, QP, QQ, F_ok58, F_ag58, F_sz58, zz8, zz23, zzD, QS, QN, zzH, zzC, QA, yyE, Qe, F_ok29, F_ag29, F_sz29, JC, JE, JF, zz14, JB, bookC, tradesB, poss, QW, zz6, QO, ↓Qb]
   refine JT F_go24 (fun hG => tearG b w n (1 + K) hGd (by omega) (by omega) hM) (by simp [QY, QX]) (by simp) ?_
   simp only [zzK, QR, QP, QQ, F_ok58, F_ag58, F_sz58, zz8, zz23, zzD, QS, QN, zzH, zzC, QA, yyE, Qe, F_ok29, F_ag29, F_sz29, JC, JE, JF, zz14, JB, bookC, tradesB, poss, QW, zz6, QO, ↓Qb, atsL, oksG, JV, QZ, Qa, JO, Qm, QT, QS, zz9, QB, QA, S_mem, yyF, QF, zz2]
   refine hK0 _ ?_; try clear hK0 K0
   refine kpA [3, 5, 9, 10, 13, 14, 15, 16] ?_
   refine JA fun K0 hK0 => ?_
   refine JA fun K1 hK1 => ?_
   refine Qz F_mixed [some 79, some 80] rfl ?_
   simp only [zzK, QR, QP, QQ, JC, zz21, JM, zz28, zz6, QO, ↓Qb]
   refine hK1 _ ?_; try clear hK1 K1
   refine kpA [3, 5, 9, 10, 13, 14, 15, 80] ?_
   refine cnA ?_ ?_
   ·intro hb
    simp at hb
   ·intro hb
    clear hb
    refine JI ?_
    simp only [zz6, QO, ↓Qb]
    refine hK0 _ ?_; try clear hK0 K0
    refine kpA [3, 5, 9, 10, 13, 14, 15] ?_
    refine JA fun K0 hK0 => ?_
    refine JA fun K1 hK1 => ?_
    refine Qz F_mixed [some 17] rfl ?_
    simp only [zzK, QR, QP, QQ, JB, zz6, QO, ↓Qb]
    refine hK1 _ ?_; try clear hK1 K1
    refine kpA [3, 5, 9, 10, 13, 14, 15, 17] ?_
    refine JH ?_
    refine awp_loop (fun m s => ∃ (pre : List FillV) (post : List FillV), ((tearV w n (1 + K) b.poss) = pre ++ post) ∧ m = post.length ∧ s = S 188 [(3, .d (iv c)), (5, .ptr 5 0 0), (9, .ptr 9 0 0), (10, .d (iv q)), (13, .d (iv A)), (14, .d (iv (1 + K))), (15, .ref 77000 (tearV w n (1 + K) b.poss).length), (17, .d (iv pre.length))] [(5, (⟨True, 29, 2, true, false, 5, [[.d (iv w), .d (iv n)]]⟩ : ARow)), (9, (⟨True, 58, 3, true, false, 9, [[.d (iv b.next), .d (.sl 7 (b.trades.map tradeC)), .d (.sl 4 (b.poss.map posC))]]⟩ : ARow)), (77000, (⟨True, 33, 3, true, true, 77000, aV ((pre.map (setP c) ++ post).map fillC)⟩ : ARow))]) ((tearV w n (1 + K) b.poss).length) _ (le_SK id [] rfl (l' := [(3, .d (iv c)), (5, .ptr 5 0 0), (9, .ptr 9 0 0), (10, .d (iv q)), (13, .d (iv A)), (14, .d (iv (1 + K))), (15, .ref 77000 (tearV w n (1 + K) b.poss).length), (17, .d (iv [].length))]) (m' := [(5, (⟨True, 29, 2, true, false, 5, [[.d (iv w), .d (iv n)]]⟩ : ARow)), (9, (⟨True, 58, 3, true, false, 9, [[.d (iv b.next), .d (.sl 7 (b.trades.map tradeC)), .d (.sl 4 (b.poss.map posC))]]⟩ : ARow)), (77000, (⟨True, 33, 3, true, true, 77000, aV (([].map (setP c) ++ (tearV w n (1 + K) b.poss)).map fillC)⟩ : ARow))]) ?_ ?_ ?_ ?_) ⟨[], (tearV w n (1 + K) b.poss), rfl, rfl, rfl⟩ ?_
    ·simp only [leV, JD, QQ, Qd, Qc]; exact ⟨(by first | exact Qo rfl | exact Qq (by decide) | exact Qp | exact Qn _ | exact Qs (by simp) (by rfl) | exact Qr (by simp) (by rfl) (by first | rfl | (simp; done) | (simp; omega)) | exact Qt (by first | rfl | simp)), (by first | exact Qo rfl | exact Qq (by decide) | exact Qp | exact Qn _ | exact Qs (by simp) (by rfl) | exact Qr (by simp) (by rfl) (by first | rfl | (simp; done) | (simp; omega)) | exact Qt (by first | rfl | simp)), (by first | exact Qo rfl | exact Qq (by decide) | exact Qp | exact Qn _ | exact Qs (by simp) (by rfl) | exact Qr (by simp) (by rfl) (by first | rfl | (simp; done) | (simp; omega)) | exact Qt (by first | rfl | simp)), (by first | exact Qo rfl | exact Qq (by decide) | exact Qp | exact Qn _ | exact Qs (by simp) (by rfl) | exact Qr (by simp) (by rfl) (by first | rfl | (simp; done) | (simp; omega)) | exact Qt (by first | rfl | simp)), (by first | exact Qo rfl | exact Qq (by decide) | exact Qp | exact Qn _ | exact Qs (by simp) (by rfl) | exact Qr (by simp) (by rfl) (by first | rfl | (simp; done) | (simp; omega)) | exact Qt (by first | rfl | simp)), (by first | exact Qo rfl | exact Qq (by decide) | exact Qp | exact Qn _ | exact Qs (by simp) (by rfl) | exact Qr (by simp) (by rfl) (by first | rfl | (simp; done) | (simp; omega)) | exact Qt (by first | rfl | simp)), (by first | exact Qo rfl | exact Qq (by decide) | exact Qp | exact Qn _ | exact Qs (by simp) (by rfl) | exact Qr (by simp) (by rfl) (by first | rfl | (simp; done) | (simp; omega)) | exact Qt (by first | rfl | simp)), (Qt rfl), trivial⟩
    ·exact ⟨fun _ => ⟨_, rfl, (by first | exact Qv (by simp [QX, QY]) | exact Qu (by simp) (by simp [QX, QY]))⟩, fun h => by simp at h, fun _ => ⟨_, rfl, (by first | exact Qv (by simp [QX, QY]) | exact Qu (by simp) (by simp [QX, QY]))⟩, fun h => by simp at h, fun _ => ⟨_, rfl, Qu (by simp [aV]) ids_data⟩, fun h => by simp at h, trivial⟩
    ·simp [wfV, QY, QX, lookR, grow]
    ·exact ⟨by simp [QX, QY, lookR], by simp [QX, QY, lookR], fun e he r' hr' => by rw [aV_ids _ e he] at hr'; simp at hr', trivial⟩
    rintro m s ⟨pre, post, hsp, rfl, rfl⟩
    have hspl := congrArg List.length hsp
    simp only [QC] at hspl
    refine JA fun K2 hK2 => ?_
    refine JA fun K3 hK3 => ?_
    refine Qz F_mixed [some 81, some 82, some 83, some 84] rfl ?_
    simp only [zzK, QR, QP, QQ, JC, JE, zz12, F_sl23, Option.isSome_some, zz21, JM, zz22, zz6, QO, ↓Qb]
    refine hK3 _ ?_; try clear hK3 K3
    refine kpA [3, 5, 9, 10, 13, 14, 15, 17, 84] ?_
    refine cnA ?_ ?_
    ·intro hb
     obtain ⟨x, post2, rfl⟩ : ∃ x t, post = x :: t := by
      cases post with
      | nil => have := Qg hb; simp at hspl; omega
      | cons x t => exact ⟨x, t, rfl⟩
     clear hb
     simp only [QF] at hspl
     have gx : ((pre.map (setP c) ++ x :: post2).map fillC).getD pre.length [] = [iv x.frm, iv x.qty, iv x.price] := fill_at rfl (by simp)
     have bx := ltI (show pre.length < (tearV w n (1 + K) b.poss).length by omega)
     have cx := eq_true (show pre.length < (pre.map (setP c) ++ x :: post2).length by simp)
     have c2 : ((tearV w n (1 + K) b.poss).length ≤ (pre.map (setP c) ++ x :: post2).length) = True := eq_true (by simp; omega)
     have hwx : Ql .i64 ((pre.length : Int) + 1) = ((pre ++ [x]).length : Int) := by rw [wrapI (by omega) (by omega)]; simp
     have hset := fset (pre.map (setP c)) post2 x c (k := pre.length) (by simp)
     refine JI ?_
     simp only [zz6, QO, ↓Qb]
     refine hK2 _ ?_; try clear hK2 K2
     refine kpA [3, 5, 9, 10, 13, 14, 15, 17] ?_
     refine JA fun K2 hK2 => ?_
     refine JH ?_
     refine Qz F_mixed [some 87, some 88, some 89, some 90, some 91, none] rfl ?_
     simp only [zzK, QR, QP, QQ, JC, JW, zz23, zz24, F_sl23, F_sz33, QA, zzC, yyE, Qe, zz19, F_off33_2, zzH, QN, QS, zz18, F_ok3, F_sz3, splice, QG, zzD, zz1, zzG, splice, aV_len, aV_get, JN, gx, bx, cx, c2, ge0, QV, Nat.le_refl, QD, QW, zz6, QO, ↓Qb]
     refine hK2 _ ?_; try clear hK2 K2
     refine kpA [3, 5, 9, 10, 13, 14, 15, 17] ?_
     refine Qz F_mixed [some 85, some 86, some 17] rfl ?_
     simp only [zzK, QR, QP, QQ, JC, zz21, JM, zz26, JB, hwx, zz6, QO, ↓Qb]
     refine ⟨post2.length, _, by simp, le_SK id [] rfl (l' := [(3, .d (iv c)), (5, .ptr 5 0 0), (9, .ptr 9 0 0), (10, .d (iv q)), (13, .d (iv A)), (14, .d (iv (1 + K))), (15, .ref 77000 (tearV w n (1 + K) b.poss).length), (17, .d (iv (pre ++ [x]).length))]) (m' := [(5, (⟨True, 29, 2, true, false, 5, [[.d (iv w), .d (iv n)]]⟩ : ARow)), (9, (⟨True, 58, 3, true, false, 9, [[.d (iv b.next), .d (.sl 7 (b.trades.map tradeC)), .d (.sl 4 (b.poss.map posC))]]⟩ : ARow)), (77000, (⟨True, 33, 3, true, true, 77000, aV (((pre ++ [x]).map (setP c) ++ post2).map fillC)⟩ : ARow))]) ?_ ?_ ?_ ?_, (pre ++ [x]), post2, by simp [hsp], rfl, rfl⟩
     ·simp only [leV, JD, QQ, Qd, Qc, hwx]; exact ⟨(by first | exact Qo rfl | exact Qq (by decide) | exact Qp | exact Qn _ | exact Qs (by simp) (by rfl) | exact Qr (by simp) (by rfl) (by first | rfl | (simp; done) | (simp; omega)) | exact Qt (by first | rfl | simp)), (by first | exact Qo rfl | exact Qq (by decide) | exact Qp | exact Qn _ | exact Qs (by simp) (by rfl) | exact Qr (by simp) (by rfl) (by first | rfl | (simp; done) | (simp; omega)) | exact Qt (by first | rfl | simp)), (by first | exact Qo rfl | exact Qq (by decide) | exact Qp | exact Qn _ | exact Qs (by simp) (by rfl) | exact Qr (by simp) (by rfl) (by first | rfl | (simp; done) | (simp; omega)) | exact Qt (by first | rfl | simp)), (by first | exact Qo rfl | exact Qq (by decide) | exact Qp | exact Qn _ | exact Qs (by simp) (by rfl) | exact Qr (by simp) (by rfl) (by first | rfl | (simp; done) | (simp; omega)) | exact Qt (by first | rfl | simp)), (by first | exact Qo rfl | exact Qq (by decide) | exact Qp | exact Qn _ | exact Qs (by simp) (by rfl) | exact Qr (by simp) (by rfl) (by first | rfl | (simp; done) | (simp; omega)) | exact Qt (by first | rfl | simp)), (by first | exact Qo rfl | exact Qq (by decide) | exact Qp | exact Qn _ | exact Qs (by simp) (by rfl) | exact Qr (by simp) (by rfl) (by first | rfl | (simp; done) | (simp; omega)) | exact Qt (by first | rfl | simp)), (by first | exact Qo rfl | exact Qq (by decide) | exact Qp | exact Qn _ | exact Qs (by simp) (by rfl) | exact Qr (by simp) (by rfl) (by first | rfl | (simp; done) | (simp; omega)) | exact Qt (by first | rfl | simp)), (by first | exact Qo rfl | exact Qq (by decide) | exact Qp | exact Qn _ | exact Qs (by simp) (by rfl) | exact Qr (by simp) (by rfl) (by first | rfl | (simp; done) | (simp; omega)) | exact Qt (by first | rfl | simp)), trivial⟩
     ·exact ⟨fun _ => ⟨_, rfl, (by first | exact Qv (by simp [QX, QY]) | exact Qu (by simp) (by simp [QX, QY]))⟩, fun h => by simp at h, fun _ => ⟨_, rfl, (by first | exact Qv (by simp [QX, QY]) | exact Qu (by simp) (by simp [QX, QY]))⟩, fun h => by simp at h, fun _ => ⟨_, rfl, Qu (by rw [hset]; simp) (fun e he => by rw [hset] at he; exact aV_ids _ e he)⟩, fun h => by simp at h, trivial⟩
     ·simp [wfV, QY, QX, lookR, grow]
     ·exact ⟨by simp [QX, QY, lookR], by simp [QX, QY, lookR], fun e he r' hr' => by rw [aV_ids _ e he] at hr'; simp at hr', trivial⟩
    ·intro hb
     obtain rfl : post = [] := by
      cases post with
      | nil => rfl
      | cons x t => have := Qf hb; simp at hspl; omega
     clear hb
     simp only [QG] at hsp
     rw [← hsp]
     simp only [QG]
     have hFl : ((tearV w n (1 + K) b.poss).map (setP c)).length = (tearV w n (1 + K) b.poss).length := by simp
     refine awp_exit ?_
     simp only [zz6, QO, ↓Qb]
     refine hK0 _ ?_; try clear hK0 K0
     refine kpA [5, 9, 10, 13, 14, 15] ?_
     refine JA fun K0 hK0 => ?_
     refine Qz F_mixed [some 93, some 94, some 95, some 96, some 97, some 92, some 98, some 99, some 18, some 16] rfl ?_
     simp only [zzK, QR, QP, QQ, F_ok29, F_ag29, F_sz29, zz8, zz23, zzD, QS, QN, zzH, zzC, QA, yyE, Qe, JC, zz21, JM, zz25, JE, JF, zz14, JB, fillsD, aV_len, aV, unE_map, JN, hFl, Nat.le_refl, QW, zz6, QO, ↓Qb]
     refine JT F_go15 (fun hG => aLegsF w n (decide (q > 0)) ((tearV w n (1 + K) b.poss).map (setP c)) (by omega)) (by simp [QY, QX]) (by simp) ?_
     simp only [zzK, QR, QP, QQ, F_ok29, F_ag29, F_sz29, zz8, zz23, zzD, QS, QN, zzH, zzC, QA, yyE, Qe, JC, zz21, JM, zz25, JE, JF, zz14, JB, fillsD, aV_len, aV, JN, hFl, Nat.le_refl, QW, zz6, QO, ↓Qb, atsL, oksG, JV, QZ, Qa, JO, Qm, QT, QS, zz9, QB, QA, S_mem, yyF, QF, zz2]
     skip
     refine hK0 _ ?_; try clear hK0 K0
     refine kpA [5, 9, 13, 14, 16, 18] ?_
     refine JA fun K0 hK0 => ?_
     refine JA fun K1 hK1 => ?_
     refine Qz F_mixed [some 100, some 101] rfl ?_
     simp only [zzK, QR, QP, QQ, JC, zz21, JM, zz28, zz6, QO, ↓Qb]
     refine hK1 _ ?_; try clear hK1 K1
     refine kpA [5, 9, 13, 14, 18, 101] ?_
     refine cnA ?_ ?_
     ·intro hb
      simp [hle] at hb
     ·intro hb
      clear hb
      have hlv := lgV_yes (w := w) (n := n) (long := decide (q > 0)) hle
      have hll : (lgs w n (decide (q > 0)) ((tearV w n (1 + K) b.poss).map (setP c))).length ≤ 200000 := by rw [lgs_len]; omega
      refine JI ?_
      simp only [zz6, QO, ↓Qb]
      refine hK0 _ ?_; try clear hK0 K0
      refine kpA [5, 9, 13, 14, 18] ?_
      refine JA fun K0 hK0 => ?_
      refine Qz F_mixed [some 103, some 104, some 105, some 102, some 106, some 107, some 19, none, some 16] rfl ?_
      simp only [zzK, QR, QP, QQ, F_ok58, F_ag58, F_sz58, zz8, zz23, zzD, QS, QN, zzH, zzC, QA, yyE, Qe, JC, JE, JF, zz14, zz32, JS, F_zero58, zz10, zz18, splice, QG, zz1, zzG, JB, bookC, tradesB, poss, QW, hlv, zz6, QO, ↓Qb]
      refine JT F_go25 (fun hG => rAddF b.next b.trades b.poss (lgs w n (decide (q > 0)) ((tearV w n (1 + K) b.poss).map (setP c))) (by omega) (by omega) hll) (by simp [QY, QX]) (by simp) ?_
      simp only [zzK, QR, QP, QQ, F_ok58, F_ag58, F_sz58, zz8, zz23, zzD, QS, QN, zzH, zzC, QA, yyE, Qe, JC, JE, JF, zz14, zz32, JS, F_zero58, zz10, zz18, splice, QG, zz1, zzG, JB, bookC, tradesB, poss, QW, hlv, zz6, QO, ↓Qb, atsL, oksG, JV, QZ, Qa, JO, Qm, QT, QS, zz9, QB, QA, S_mem, yyF, QF, zz2]
      refine hK0 _ ?_; try clear hK0 K0
      refine kpA [5, 9, 13, 14, 16, 19] ?_
      refine JA fun K0 hK0 => ?_
      refine JA fun K1 hK1 => ?_
      refine Qz F_mixed [some 108, some 109] rfl ?_
      simp only [zzK, QR, QP, QQ, JC, zz21, JM, zz28, zz6, QO, ↓Qb]
      refine hK1 _ ?_; try clear hK1 K1
      refine kpA [5, 9, 13, 14, 16, 19, 109] ?_
      refine cnA ?_ ?_
      ·intro hb
       have he1 : addE b (lgs w n (decide (q > 0)) ((tearV w n (1 + K) b.poss).map (setP c))) = 1 := by
        rcases hla with h | h
        ·exfalso; rw [show addE ⟨b.next, b.trades, b.poss⟩ (lgs w n (decide (q > 0)) ((tearV w n (1 + K) b.poss).map (setP c))) = 0 from h] at hb; simp at hb
        ·exact h
       clear hb
       have he1 : addE ⟨b.next, b.trades, b.poss⟩ (lgs w n (decide (q > 0)) ((tearV w n (1 + K) b.poss).map (setP c))) = 1 := he1
       refine JA fun K2 hK2 => ?_
       refine Qz F_mixed [some 110, some 111, some 112, some 113, some 114, some 8] rfl ?_
       simp only [zzK, QR, QP, QQ, QU, JZ, zz5, Qj, Qi, Qh, and_self, JC, zz21, JM, zz34, JE, JF, zz13, JQ, JR, JB, he1, zz6, QO, ↓Qb]
       refine JT F_go10 (fun hG => wakes19_) (by simp [QY, QX]) (by simp) ?_
       simp only [zzK, QR, QP, QQ, QU, JZ, zz5, Qj, Qi, Qh, and_self, JC, zz21, JM, zz34, JE, JF, zz13, JQ, JR, JB, he1, zz6, QO, ↓Qb, atsL, oksG, JV, QZ, Qa, JO, Qm, QT, QS, zz9, QB, QA, zzC, yyF, zzD, zz2]
       refine hK2 _ ?_; try clear hK2 K2
       refine kpA [8] ?_
       refine JJ ?_
       simp only [zz6, QO, ↓Qb]
       refine dnA ?_
       simp only [QD, QE, resA, JZ, QR, QP, JD, QQ, Qd, Qc, resAll]
       try simp
      ·intro hb
       have hA0_ : addE b (lgs w n (decide (q > 0)) ((tearV w n (1 + K) b.poss).map (setP c))) = 0 := (show addE ⟨b.next, b.trades, b.poss⟩ (lgs w n (decide (q > 0)) ((tearV w n (1 + K) b.poss).map (setP c))) = 0 by simpa using hb)
       clear hb
       obtain ⟨d, hd⟩ : ∃ d, d = addV b (lgs w n (decide (q > 0)) ((tearV w n (1 + K) b.poss).map (setP c))) := ⟨_, rfl⟩
       obtain ⟨t1, t2, t3⟩ := htp d hd hA0_
       have hD : GoodB d := by rw [hd]; exact add_good hA0_
       have hdl := grow_len hD
       rw [show addV ⟨b.next, b.trades, b.poss⟩ (lgs w n (decide (q > 0)) ((tearV w n (1 + K) b.poss).map (setP c))) = d from hd.symm]
       refine JI ?_
       simp only [zz6, QO, ↓Qb]
       refine hK0 _ ?_; try clear hK0 K0
       refine kpA [5, 9, 13, 14, 19] ?_
       refine JA fun K0 hK0 => ?_
       refine JA fun K1 hK1 => ?_
       refine Qz F_mixed [some 20] rfl ?_
       simp only [zzK, QR, QP, QQ, JB, zz6, QO, ↓Qb]
       refine hK1 _ ?_; try clear hK1 K1
       refine kpA [5, 9, 13, 14, 19, 20] ?_
       refine JH ?_
       refine awp_loop (fun m s => ∃ (pre : List PosV) (post : List PosV), (b.poss = pre ++ post) ∧ m = post.length ∧ s = S 188 [(5, .ptr 5 0 0), (9, .ptr 9 0 0), (13, .d (iv A)), (14, .d (iv (1 + K))), (19, .ptr 19 0 0), (20, .d (iv pre.length))] [(5, (⟨True, 29, 2, true, false, 5, [[.d (iv w), .d (iv n)]]⟩ : ARow)), (9, (⟨True, 58, 3, true, false, 9, [[.d (iv b.next), .d (.sl 7 (b.trades.map tradeC)), .d (.sl 4 (b.poss.map posC))]]⟩ : ARow)), (19, (⟨True, 58, 3, true, false, 19, [[.d (iv d.next), .d (.sl 7 (d.trades.map tradeC)), .d (.sl 4 (d.poss.map posC))]]⟩ : ARow))]) (b.poss.length) _ (le_SK id [] rfl (l' := [(5, .ptr 5 0 0), (9, .ptr 9 0 0), (13, .d (iv A)), (14, .d (iv (1 + K))), (19, .ptr 19 0 0), (20, .d (iv [].length))]) (m' := [(5, (⟨True, 29, 2, true, false, 5, [[.d (iv w), .d (iv n)]]⟩ : ARow)), (9, (⟨True, 58, 3, true, false, 9, [[.d (iv b.next), .d (.sl 7 (b.trades.map tradeC)), .d (.sl 4 (b.poss.map posC))]]⟩ : ARow)), (19, (⟨True, 58, 3, true, false, 19, [[.d (iv d.next), .d (.sl 7 (d.trades.map tradeC)), .d (.sl 4 (d.poss.map posC))]]⟩ : ARow))]) ?_ ?_ ?_ ?_) ⟨[], b.poss, rfl, rfl, rfl⟩ ?_
       ·simp only [leV, JD, QQ, Qd, Qc]; exact ⟨(by first | exact Qo rfl | exact Qq (by decide) | exact Qp | exact Qn _ | exact Qs (by simp) (by rfl) | exact Qr (by simp) (by rfl) (by first | rfl | (simp; done) | (simp; omega)) | exact Qt (by first | rfl | simp)), (by first | exact Qo rfl | exact Qq (by decide) | exact Qp | exact Qn _ | exact Qs (by simp) (by rfl) | exact Qr (by simp) (by rfl) (by first | rfl | (simp; done) | (simp; omega)) | exact Qt (by first | rfl | simp)), (by first | exact Qo rfl | exact Qq (by decide) | exact Qp | exact Qn _ | exact Qs (by simp) (by rfl) | exact Qr (by simp) (by rfl) (by first | rfl | (simp; done) | (simp; omega)) | exact Qt (by first | rfl | simp)), (by first | exact Qo rfl | exact Qq (by decide) | exact Qp | exact Qn _ | exact Qs (by simp) (by rfl) | exact Qr (by simp) (by rfl) (by first | rfl | (simp; done) | (simp; omega)) | exact Qt (by first | rfl | simp)), (by first | exact Qo rfl | exact Qq (by decide) | exact Qp | exact Qn _ | exact Qs (by simp) (by rfl) | exact Qr (by simp) (by rfl) (by first | rfl | (simp; done) | (simp; omega)) | exact Qt (by first | rfl | simp)), (Qt rfl), trivial⟩
       ·exact ⟨fun _ => ⟨_, rfl, (by first | exact Qw (by first | rfl | simp) | exact Qx (by first | rfl | simp) (by simp) ids_data | exact Qv (by simp [QX, QY]) | exact Qu (by simp) (by simp [QX, QY]))⟩, fun h => by simp at h, fun _ => ⟨_, rfl, (by first | exact Qw (by first | rfl | simp) | exact Qx (by first | rfl | simp) (by simp) ids_data | exact Qv (by simp [QX, QY]) | exact Qu (by simp) (by simp [QX, QY]))⟩, fun h => by simp at h, fun _ => ⟨_, rfl, (by first | exact Qw (by first | rfl | simp) | exact Qx (by first | rfl | simp) (by simp) ids_data | exact Qv (by simp [QX, QY]) | exact Qu (by simp) (by simp [QX, QY]))⟩, fun h => by simp at h, trivial⟩
       ·simp [wfV, QY, QX, lookR, grow]
       ·exact ⟨by simp [QX, QY, lookR], by simp [QX, QY, lookR], by simp [QX, QY, lookR], trivial⟩
       rintro m s ⟨pre, post, hsp, rfl, rfl⟩
       have hspl := congrArg List.length hsp
       simp only [QC] at hspl
       refine JA fun K2 hK2 => ?_
       refine JA fun K3 hK3 => ?_
       refine Qz F_mixed [some 115, some 116, some 117, some 118, some 119] rfl ?_
       simp only [zzK, QR, QP, QQ, JC, zz19, zz23, F_off58_2, zzH, QN, QS, F_ok42, F_ag42, F_sz42, zz8, zzD, zzC, QA, yyE, Qe, JE, zz12, F_sl42, Option.isSome_some, zz21, JM, zz22, JN, zz6, QO, ↓Qb]
       refine hK3 _ ?_; try clear hK3 K3
       refine kpA [5, 9, 13, 14, 19, 20, 119] ?_
       refine cnA ?_ ?_
       ·intro hb
        obtain ⟨x, post2, rfl⟩ : ∃ x t, post = x :: t := by
         cases post with
         | nil => have := Qg hb; simp at hspl; omega
         | cons x t => exact ⟨x, t, rfl⟩
        clear hb
        simp only [QF] at hspl
        have gx : (b.poss.map posC).getD pre.length [] = [iv x.who, iv x.inst, iv x.qty, iv x.cost] := by
         rw [hsp, List.map_append]; exact gd_mid' (A := pre.map posC) _ _ (by simp)
        have bx := ltI (show pre.length < b.poss.length by omega)
        have hwx : Ql .i64 ((pre.length : Int) + 1) = ((pre ++ [x]).length : Int) := by rw [wrapI (by omega) (by omega)]; simp
        have hxm : x ∈ b.poss := by rw [hsp]; simp
        obtain ⟨u1, u2⟩ := t1 x hxm
        have hxb := posOk_iff.1 (hGd.ok x hxm)
        have hwqx : Ql .i64 (0 - x.qty) = 0 - x.qty := wrapI (by omega) (by omega)
        have hyb := of_bnd hD x.who x.inst
        have hwy : Ql .i64 (0 - (ofP x.who x.inst d.poss).qty) = 0 - (ofP x.who x.inst d.poss).qty := wrapI (by omega) (by omega)
        refine JI ?_
        simp only [zz6, QO, ↓Qb]
        refine hK2 _ ?_; try clear hK2 K2
        refine kpA [5, 9, 13, 14, 19, 20] ?_
        refine JA fun K2 hK2 => ?_
        refine JH ?_
        refine JA fun K3 hK3 => ?_
        refine awp_draw F_mixed [some 122, some 123, some 124, some 125, some 126, some 127, some 128, some 129, some 130, some 131, some 132, some 133, some 134, some 135, some 136, some 21, some 22] rfl (by kernel_rfl) ?_
        simp only [zzK, QR, QP, QQ, zz19, zz23, F_off58_2, zzH, QN, QS, F_ok42, F_ag42, F_sz42, zz8, zzD, zzC, QA, yyE, Qe, JC, JW, zz24, F_sl42, F_sz46, F_off46_1, F_ok3, F_ag3, F_sz3, F_ok58, F_ag58, F_sz58, F_off46_0, F_ok29, F_ag29, F_sz29, JE, JF, evS_field, fdK_some, fdV_ag, fdV_agg, fdC_one, fdC_agg, F_field46_1, JB, posA, posC, bookC, tradesB, poss, QW, gx, bx, hwx, JN, ge0, QV, QW, zz6, QO, ↓Qb]
        refine JT F_go23 (fun hG => rOf13_ d.next d.trades d.poss x.who x.inst (by omega)) (by simp [QY, QX, posA]) (by simp) ?_
        simp only [zzK, QR, QP, QQ, zz19, zz23, F_off58_2, zzH, QN, QS, F_ok42, F_ag42, F_sz42, zz8, zzD, zzC, QA, yyE, Qe, JC, JW, zz24, F_sl42, F_sz46, F_off46_1, F_ok3, F_ag3, F_sz3, F_ok58, F_ag58, F_sz58, F_off46_0, F_ok29, F_ag29, F_sz29, JE, JF, evS_field, fdK_some, fdV_ag, fdV_agg, fdC_one, fdC_agg, F_field46_1, JB, posA, posC, bookC, tradesB, poss, QW, gx, bx, hwx, JN, ge0, QV, QW, zz6, QO, ↓Qb, atsL, oksG, JV, QZ, Qa, JO, Qm, QT, QS, zz9, QB, QA, S_mem, yyF, QF, zz2]
        refine hK3 _ ?_; try clear hK3 K3
        refine kpA [5, 9, 13, 14, 19, 20, 21, 22] ?_
        refine JA fun K3 hK3 => ?_
        refine Qz F_mixed [some 137, some 138, some 139, some 140, some 141, some 142, some 143, some 144, some 145, some 146, some 147, some 148, some 149, some 150, some 151, some 152, some 153, some 154, some 155, some 156, some 157, some 158, some 159, some 160, some 161] rfl ?_
        simp only [zzK, QR, QP, QQ, QU, JZ, zz5, Qj, Qi, Qh, and_self, JC, zz29, JM, zz37, JE, zz11, grsL, QB, QA, oksL, zz21, zz25, zz22, zz13, JQ, JR, hwqx, hwy, zz6, QO, ↓Qb]
        refine hK3 _ ?_; try clear hK3 K3
        refine kpA [5, 9, 13, 14, 19, 20, 161] ?_
        refine cnA ?_ ?_
        ·intro hb
         exfalso
         simp only [cond_eq_ite, Bool.or_eq_true, Bool.and_eq_true, decide_eq_true_eq] at hb
         repeat' split at hb
         all_goals (first | omega | (simp at hb; done) | (simp at hb; omega))
        ·intro hb
         clear hb
         refine JI ?_
         simp only [zz6, QO, ↓Qb]
         refine hK2 _ ?_; try clear hK2 K2
         refine kpA [5, 9, 13, 14, 19, 20] ?_
         refine Qz F_mixed [some 120, some 121, some 20] rfl ?_
         simp only [zzK, QR, QP, QQ, JC, zz21, JM, zz26, JB, hwx, zz6, QO, ↓Qb]
         refine ⟨post2.length, _, by simp, le_SK id [] rfl (l' := [(5, .ptr 5 0 0), (9, .ptr 9 0 0), (13, .d (iv A)), (14, .d (iv (1 + K))), (19, .ptr 19 0 0), (20, .d (iv (pre ++ [x]).length))]) (m' := [(5, (⟨True, 29, 2, true, false, 5, [[.d (iv w), .d (iv n)]]⟩ : ARow)), (9, (⟨True, 58, 3, true, false, 9, [[.d (iv b.next), .d (.sl 7 (b.trades.map tradeC)), .d (.sl 4 (b.poss.map posC))]]⟩ : ARow)), (19, (⟨True, 58, 3, true, false, 19, [[.d (iv d.next), .d (.sl 7 (d.trades.map tradeC)), .d (.sl 4 (d.poss.map posC))]]⟩ : ARow))]) ?_ ?_ ?_ ?_, (pre ++ [x]), post2, by simp [hsp], rfl, rfl⟩
         ·simp only [leV, JD, QQ, Qd, Qc, hwx]; exact ⟨(by first | exact Qo rfl | exact Qq (by decide) | exact Qp | exact Qn _ | exact Qs (by simp) (by rfl) | exact Qr (by simp) (by rfl) (by first | rfl | (simp; done) | (simp; omega)) | exact Qt (by first | rfl | simp)), (by first | exact Qo rfl | exact Qq (by decide) | exact Qp | exact Qn _ | exact Qs (by simp) (by rfl) | exact Qr (by simp) (by rfl) (by first | rfl | (simp; done) | (simp; omega)) | exact Qt (by first | rfl | simp)), (by first | exact Qo rfl | exact Qq (by decide) | exact Qp | exact Qn _ | exact Qs (by simp) (by rfl) | exact Qr (by simp) (by rfl) (by first | rfl | (simp; done) | (simp; omega)) | exact Qt (by first | rfl | simp)), (by first | exact Qo rfl | exact Qq (by decide) | exact Qp | exact Qn _ | exact Qs (by simp) (by rfl) | exact Qr (by simp) (by rfl) (by first | rfl | (simp; done) | (simp; omega)) | exact Qt (by first | rfl | simp)), (by first | exact Qo rfl | exact Qq (by decide) | exact Qp | exact Qn _ | exact Qs (by simp) (by rfl) | exact Qr (by simp) (by rfl) (by first | rfl | (simp; done) | (simp; omega)) | exact Qt (by first | rfl | simp)), (by first | exact Qo rfl | exact Qq (by decide) | exact Qp | exact Qn _ | exact Qs (by simp) (by rfl) | exact Qr (by simp) (by rfl) (by first | rfl | (simp; done) | (simp; omega)) | exact Qt (by first | rfl | simp)), trivial⟩
         ·exact ⟨fun _ => ⟨_, rfl, (by first | exact Qw (by first | rfl | simp) | exact Qx (by first | rfl | simp) (by simp) ids_data | exact Qv (by simp [QX, QY]) | exact Qu (by simp) (by simp [QX, QY]))⟩, fun h => by simp at h, fun _ => ⟨_, rfl, (by first | exact Qw (by first | rfl | simp) | exact Qx (by first | rfl | simp) (by simp) ids_data | exact Qv (by simp [QX, QY]) | exact Qu (by simp) (by simp [QX, QY]))⟩, fun h => by simp at h, fun _ => ⟨_, rfl, (by first | exact Qw (by first | rfl | simp) | exact Qx (by first | rfl | simp) (by simp) ids_data | exact Qv (by simp [QX, QY]) | exact Qu (by simp) (by simp [QX, QY]))⟩, fun h => by simp at h, trivial⟩
         ·simp [wfV, QY, QX, lookR, grow]
         ·exact ⟨by simp [QX, QY, lookR], by simp [QX, QY, lookR], by simp [QX, QY, lookR], trivial⟩
       ·intro hb
        obtain rfl : post = [] := by
         cases post with
         | nil => rfl
         | cons x t => have := Qf hb; simp at hspl; omega
        clear hb
        simp only [QG] at hsp
        have hzb := of_bnd hD w n
        have hwz : Ql .i64 (0 - (ofP w n d.poss).qty) = 0 - (ofP w n d.poss).qty := wrapI (by omega) (by omega)
        have hwA : Ql .i64 (A - (1 + K)) = A - (1 + K) := wrapI (by omega) (by omega)
        have h9 : ∀ y : Int, (q > 0 → y = q - (1 + K)) → (¬ q > 0 → y = q + (1 + K)) → (if 0 - y > y then 0 - y else y) = A - (1 + K) := fun y h1 h2 => by
         by_cases hp : q > 0
         ·have := h1 hp; have := hA4 hp; split <;> omega
         ·have := h2 hp; have := hA5 (by omega); split <;> omega
        have hmz : (if 0 - (ofP w n d.poss).qty > (ofP w n d.poss).qty then 0 - (ofP w n d.poss).qty else (ofP w n d.poss).qty) = A - (1 + K) := h9 _ (fun h => by rw [t2, decide_eq_true h]; rfl) (fun h => by rw [t2, decide_eq_false h]; simp only [lq, Qc]; omega)
        refine awp_exit ?_
        simp only [zz6, QO, ↓Qb]
        refine hK0 _ ?_; try clear hK0 K0
        refine kpA [5, 13, 14, 19] ?_
        refine JA fun K0 hK0 => ?_
        refine Qz F_mixed [some 162, some 163, some 164, some 165, some 23] rfl ?_
        simp only [zzK, QR, QP, QQ, F_ok58, F_ag58, F_sz58, zz8, zz23, zzD, QS, QN, zzH, zzC, QA, yyE, Qe, F_ok29, F_ag29, F_sz29, JE, JF, evS_field, fdK_some, fdV_ag, fdV_agg, fdC_one, fdC_agg, F_field46_1, F_ok3, F_ag3, F_sz3, JB, posA, bookC, tradesB, poss, QW, zz6, QO, ↓Qb]
        refine JT F_go23 (fun hG => rOf13_ d.next d.trades d.poss w n (by omega)) (by simp [QY, QX, posA]) (by simp) ?_
        simp only [zzK, QR, QP, QQ, F_ok58, F_ag58, F_sz58, zz8, zz23, zzD, QS, QN, zzH, zzC, QA, yyE, Qe, F_ok29, F_ag29, F_sz29, JE, JF, evS_field, fdK_some, fdV_ag, fdV_agg, fdC_one, fdC_agg, F_field46_1, F_ok3, F_ag3, F_sz3, JB, posA, bookC, tradesB, poss, QW, zz6, QO, ↓Qb, atsL, oksG, JV, QZ, Qa, JO, Qm, QT, QS, zz9, QB, QA, S_mem, yyF, QF, zz2]
        refine hK0 _ ?_; try clear hK0 K0
        refine kpA [5, 13, 14, 19, 23] ?_
        refine JA fun K0 hK0 => ?_
        refine Qz F_mixed [some 167, some 168, some 169, some 170, some 166, some 171, some 172, some 24, some 25] rfl ?_
        simp only [zzK, QR, QP, QQ, F_ok58, F_ag58, F_sz58, zz8, zz23, zzD, QS, QN, zzH, zzC, QA, yyE, Qe, zz19, F_off29_1, F_ok3, F_ag3, F_sz3, JE, JF, JC, zz14, JB, bookC, tradesB, poss, QW, t3, zz6, QO, ↓Qb]
        refine JT F_go26 (fun hG => rBoth_ d.next d.trades d.poss n (by omega)) (by simp [QY, QX]) (by simp) ?_
        simp only [zzK, QR, QP, QQ, F_ok58, F_ag58, F_sz58, zz8, zz23, zzD, QS, QN, zzH, zzC, QA, yyE, Qe, zz19, F_off29_1, F_ok3, F_ag3, F_sz3, JE, JF, JC, zz14, JB, bookC, tradesB, poss, QW, t3, zz6, QO, ↓Qb, atsL, oksG, JV, QZ, Qa, JO, Qm, QT, QS, zz9, QB, QA, S_mem, yyF, QF, zz2]
        refine hK0 _ ?_; try clear hK0 K0
        refine kpA [13, 14, 23, 24] ?_
        refine JA fun K0 hK0 => ?_
        refine Qz F_mixed [some 173, some 174, some 175, some 176, some 177, some 178, some 179, some 180, some 181, some 182, some 183, some 184, some 185, some 186, some 187, some 8] rfl ?_
        simp only [zzK, QR, QP, QQ, QU, JZ, zz5, Qj, Qi, Qh, and_self, JC, zz21, JM, zz34, zz29, zz37, JE, zz11, grsL, QB, QA, oksL, zz33, zz13, JQ, JR, JF, JB, hwz, hwA, hmz, beq_self_eq_true, Bool.and_self, zz6, QO, ↓Qb]
        refine JT F_go10 (fun hG => wakes19_) (by simp [QY, QX]) (by simp) ?_
        simp only [zzK, QR, QP, QQ, QU, JZ, zz5, Qj, Qi, Qh, and_self, JC, zz21, JM, zz34, zz29, zz37, JE, zz11, grsL, QB, QA, oksL, zz33, zz13, JQ, JR, JF, JB, hwz, hwA, hmz, beq_self_eq_true, Bool.and_self, zz6, QO, ↓Qb, atsL, oksG, JV, QZ, Qa, JO, Qm, QT, QS, zz9, QB, QA, zzC, yyF, zzD, zz2]
        refine hK0 _ ?_; try clear hK0 K0
        refine kpA [8] ?_
        refine JJ ?_
        simp only [zz6, QO, ↓Qb]
        refine dnA ?_
        simp only [QD, QE, resA, JZ, QR, QP, JD, QQ, Qd, Qc, resAll]
        try simp
end Go.Proofs.Ytopifbpibkpmmaa
