import Derived.Test.YtjkfadaedgidpaaWpI
namespace Go.Proofs.Ytjkfadaedgidpaa
open Go.RowKit
set_option linter.unusedVariables false
set_option linter.unusedSimpArgs false
open Option renaming map_some → QA, bind_some → QB
open List renaming map_cons → QD, map_nil → QE, length_cons → QF
open Nat renaming zero_add → QH
open D.agg renaming injEq → QJ
open AV renaming idsL → QK, ids → QL
open VLe renaming refl → QM, still → QN, nild_ → QO, nil_ → QP, refE → QQ, ptrE → QR, dE → QS
open Go.Proofs.Ytjkfadaedgidpaa renaming awp_plain → QW, awp_seq → QX, evS_assign → QY, evS_move → QZ, look_cons → Qa, evS_call → Qb, evC_value → Qc, S_getD → Qi
theorem F_go9 : goFn Try.prog 9 := ⟨_, Try.func9, rfl, rfl⟩
theorem F_bool4 : Try.prog.underlying 4 = some .bool := by kernel_rfl
theorem F_go11 : goFn Try.prog 11 := ⟨_, Try.func11, rfl, rfl⟩
set_option maxRecDepth 100000 in
set_option maxHeartbeats 4000000 in
theorem fundSums_ (nx : Int) (l : List LegV) (c amt : Int) (ws : List Int) : ACalls Try.prog 5 [.agg (ledC ⟨nx, l⟩), iv c, iv amt, ints ws] [] (bv true) := by
 refine acalls_S (rs := [.tmp 8]) Try.func5 rfl rfl 133 [(0, .d (.agg (ledC ⟨nx, l⟩))), (1, .d (iv c)), (2, .d (iv amt)), (3, .d (ints ws))] rfl (by simp) rfl ?_
 refine QX fun K0 hK0 => ?_
 refine QW F_mixed [some 4, some 8] rfl ?_
 simp only [zzK, Nat.reduceLT, Nat.reduceLeDiff, Nat.reduceBEq, zz35, newRow1, zz1, zzG, zzD, zzC, QA, yyE, reduceCtorEq, Nat.reduceAdd, QH, zzH, QY, ledC, legs, zz6, Nat.reduceEqDiff, ↓reduceIte]
 refine hK0 _ ?_; try clear hK0 K0
 refine kpA [1, 2, 3, 4] ?_
 refine QX fun K0 hK0 => ?_
 refine QX fun K1 hK1 => ?_
 refine QW F_mixed [some 18, some 19, some 20, some 21, some 22, some 23, some 24, some 25, some 26] rfl ?_
 simp only [zzK, Nat.reduceLT, Nat.reduceLeDiff, Nat.reduceBEq, Nat.reduceSub, Qi, zz5, and_imp, imp_and, imp_self, zz19, zz23, F_off24_1, zzH, QH, Nat.reduceAdd, F_ok22, F_ag22, F_sz22, zz8, zzD, zzC, QA, yyE, reduceCtorEq, Qb, zz12, F_sl22, Option.isSome_some, zz21, gr_v, zz25, QZ, F_sl25, zz13, pickK_l, pickK_r, ledC, legs, ints, len_map, zz6, Nat.reduceEqDiff, ↓reduceIte]
 refine hK1 _ ?_; try clear hK1 K1
 refine kpA [1, 2, 3, 4, 26] ?_
 refine cnA ?_ ?_
 ·intro hb
  clear hb
  refine QX fun K2 hK2 => ?_
  refine QW F_mixed [some 8] rfl ?_
  simp only [zzK, Nat.reduceLT, Nat.reduceLeDiff, Nat.reduceBEq, QY, zz6, Nat.reduceEqDiff, ↓reduceIte]
  refine hK2 _ ?_; try clear hK2 K2
  refine kpA [8] ?_
  refine awp_ret ?_
  simp only [zz6, Nat.reduceEqDiff, ↓reduceIte]
  refine dnA ?_
  simp only [QD, QE, resA, Qi, Nat.reduceLT, Nat.reduceLeDiff, Qa, Nat.reduceBEq, cond_true, cond_false, resAll]
  
 ·intro hb
  have hlw : l.length ≤ 300 ∧ ws.length ≤ 300 := by simp at hb; omega
  clear hb
  have hvl := lvV_len ⟨nx, l⟩ c amt ws
  refine awp_skip ?_
  simp only [zz6, Nat.reduceEqDiff, ↓reduceIte]
  refine hK0 _ ?_; try clear hK0 K0
  refine kpA [1, 2, 3, 4] ?_
  refine QX fun K0 hK0 => ?_
  refine QW F_mixed [some 28, some 29, some 30, some 31, some 27, some 32, some 33, some 9, some 10] rfl ?_
  simp only [zzK, Nat.reduceLT, Nat.reduceLeDiff, Nat.reduceBEq, F_ok24, F_ag24, F_sz24, zz8, zz23, zzD, Nat.reduceAdd, QH, zzH, zzC, QA, yyE, reduceCtorEq, QZ, Qb, Qc, zz14, QY, ledC, legs, ints, QJ, zz6, Nat.reduceEqDiff, ↓reduceIte]
  refine call_go F_go12 (fun hG => fShares_ nx l c ws (by omega) (by omega)) (by simp [QL, QK]) (by simp) ?_
  simp only [zzK, Nat.reduceLT, Nat.reduceLeDiff, Nat.reduceBEq, F_ok24, F_ag24, F_sz24, zz8, zz23, zzD, Nat.reduceAdd, QH, zzH, zzC, QA, yyE, reduceCtorEq, QZ, Qb, Qc, zz14, QY, ledC, legs, ints, QJ, zz6, Nat.reduceEqDiff, ↓reduceIte, atsL, oksG, freeN, AV.ren, AV.renL, addRows, ORow.row, Nat.reduceMul, Nat.reduceAdd, zz9, QB, QA, S_mem, yyF, QF, zz2]
  refine hK0 _ ?_; try clear hK0 K0
  refine kpA [1, 2, 3, 4, 9, 10] ?_
  refine QX fun K0 hK0 => ?_
  refine QX fun K1 hK1 => ?_
  refine QW F_mixed [some 34, some 35] rfl ?_
  simp only [zzK, Nat.reduceLT, Nat.reduceLeDiff, Nat.reduceBEq, QZ, zz21, gr_v, zz28, zz6, Nat.reduceEqDiff, ↓reduceIte]
  refine hK1 _ ?_; try clear hK1 K1
  refine kpA [1, 2, 3, 4, 9, 35] ?_
  refine cnA ?_ ?_
  ·intro hb
   have hn0 := sh_none (s := ⟨nx, l⟩) hb
   clear hb
   refine QX fun K2 hK2 => ?_
   refine QW F_mixed [some 36, some 37, some 38, some 39, some 40, some 8] rfl ?_
   simp only [zzK, Nat.reduceLT, Nat.reduceLeDiff, Nat.reduceBEq, Nat.reduceSub, Qi, zz5, and_imp, imp_and, imp_self, and_self, QZ, zz21, gr_v, zz34, Qb, Qc, zz13, pickK_l, pickK_r, QY, hn0, zz6, Nat.reduceEqDiff, ↓reduceIte]
   refine call_go F_go9 (fun hG => wakes21_) (by simp [QL, QK]) (by simp) ?_
   simp only [zzK, Nat.reduceLT, Nat.reduceLeDiff, Nat.reduceBEq, Nat.reduceSub, Qi, zz5, and_imp, imp_and, imp_self, and_self, QZ, zz21, gr_v, zz34, Qb, Qc, zz13, pickK_l, pickK_r, QY, hn0, zz6, Nat.reduceEqDiff, ↓reduceIte, atsL, oksG, freeN, AV.ren, AV.renL, addRows, ORow.row, Nat.reduceMul, Nat.reduceAdd, zz9, QB, QA, zzC, yyF, zzD, zz2]
   refine hK2 _ ?_; try clear hK2 K2
   refine kpA [8] ?_
   refine awp_ret ?_
   simp only [zz6, Nat.reduceEqDiff, ↓reduceIte]
   refine dnA ?_
   simp only [QD, QE, resA, Qi, Nat.reduceLT, Nat.reduceLeDiff, Qa, Nat.reduceBEq, cond_true, cond_false, resAll]
   try rfl
  ·intro hb
   have he : shE ⟨nx, l⟩ c ws = 0 := by simpa using hb
   clear hb
   refine awp_skip ?_
   simp only [zz6, Nat.reduceEqDiff, ↓reduceIte]
   refine hK0 _ ?_; try clear hK0 K0
   refine kpA [1, 2, 3, 4, 9] ?_
   refine QX fun K0 hK0 => ?_
   refine QW F_mixed [some 11] rfl ?_
   simp only [zzK, Nat.reduceLT, Nat.reduceLeDiff, Nat.reduceBEq, QY, zz6, Nat.reduceEqDiff, ↓reduceIte]
   refine hK0 _ ?_; try clear hK0 K0
   refine kpA [1, 2, 3, 4, 9, 11] ?_
   refine QX fun K0 hK0 => ?_
   refine QX fun K1 hK1 => ?_
   refine QW F_mixed [some 12] rfl ?_
   simp only [zzK, Nat.reduceLT, Nat.reduceLeDiff, Nat.reduceBEq, QY, zz6, Nat.reduceEqDiff, ↓reduceIte]
   refine hK1 _ ?_; try clear hK1 K1
   refine kpA [1, 2, 3, 4, 9, 11, 12] ?_
   refine awp_block ?_
   refine awp_loop (fun m s => ∃ (pre : List Int) (post : List Int), (ws = pre ++ post) ∧ m = post.length ∧ s = S 133 [(1, .d (iv c)), (2, .d (iv amt)), (3, .d (ints ws)), (4, .ptr 4 0 0), (9, .d (iv (shN ⟨nx, l⟩ c ws))), (11, .d (iv (shV c l pre).sum)), (12, .d (iv pre.length))] [(4, (⟨True, 24, 2, true, false, 4, [[.d (iv nx), .d (.sl 4 (l.map legC))]]⟩ : ARow))]) (ws.length) _ (le_SK id [] rfl (l' := [(1, .d (iv c)), (2, .d (iv amt)), (3, .d (ints ws)), (4, .ptr 4 0 0), (9, .d (iv (shN ⟨nx, l⟩ c ws))), (11, .d (iv (shV c l []).sum)), (12, .d (iv [].length))]) (m' := [(4, (⟨True, 24, 2, true, false, 4, [[.d (iv nx), .d (.sl 4 (l.map legC))]]⟩ : ARow))]) ?_ ?_ ?_ ?_) ⟨[], ws, rfl, rfl, rfl⟩ ?_
   ·simp only [leV, Qa, Nat.reduceBEq, cond_true, cond_false]; exact ⟨(by first | exact QN rfl | exact QP (by decide) | exact QO | exact QM _ | exact QR (by simp) (by rfl) | exact QQ (by simp) (by rfl) (by first | rfl | (simp; done) | (simp; omega)) | exact QS (by first | rfl | simp)), (by first | exact QN rfl | exact QP (by decide) | exact QO | exact QM _ | exact QR (by simp) (by rfl) | exact QQ (by simp) (by rfl) (by first | rfl | (simp; done) | (simp; omega)) | exact QS (by first | rfl | simp)), (by first | exact QN rfl | exact QP (by decide) | exact QO | exact QM _ | exact QR (by simp) (by rfl) | exact QQ (by simp) (by rfl) (by first | rfl | (simp; done) | (simp; omega)) | exact QS (by first | rfl | simp)), (by first | exact QN rfl | exact QP (by decide) | exact QO | exact QM _ | exact QR (by simp) (by rfl) | exact QQ (by simp) (by rfl) (by first | rfl | (simp; done) | (simp; omega)) | exact QS (by first | rfl | simp)), (by first | exact QN rfl | exact QP (by decide) | exact QO | exact QM _ | exact QR (by simp) (by rfl) | exact QQ (by simp) (by rfl) (by first | rfl | (simp; done) | (simp; omega)) | exact QS (by first | rfl | simp)), (QS rfl), (by first | exact QN rfl | exact QP (by decide) | exact QO | exact QM _ | exact QR (by simp) (by rfl) | exact QQ (by simp) (by rfl) (by first | rfl | (simp; done) | (simp; omega)) | exact QS (by first | rfl | simp)), trivial⟩
   ·exact ⟨fun _ => ⟨_, rfl, (by first | exact RowLe.still (by simp [QK, QL]) | exact RowLe.same (by simp) (by simp [QK, QL]))⟩, fun h => by simp at h, trivial⟩
   ·simp [wfV, QL, QK, lookR, grow]
   ·exact ⟨by simp [QK, QL, lookR], trivial⟩
   rintro m s ⟨pre, post, hsp, rfl, rfl⟩
   have hspl := congrArg List.length hsp
   simp only [List.length_append] at hspl
   refine QX fun K2 hK2 => ?_
   refine QX fun K3 hK3 => ?_
   refine QW F_mixed [some 41, some 42, some 43, some 44] rfl ?_
   simp only [zzK, Nat.reduceLT, Nat.reduceLeDiff, Nat.reduceBEq, QZ, Qb, zz12, F_sl25, Option.isSome_some, zz21, gr_v, zz22, ints, len_map, zz6, Nat.reduceEqDiff, ↓reduceIte]
   refine hK3 _ ?_; try clear hK3 K3
   refine kpA [1, 2, 3, 4, 9, 11, 12, 44] ?_
   refine cnA ?_ ?_
   ·intro hb
    obtain ⟨x, post2, rfl⟩ : ∃ x t, post = x :: t := by
     cases post with
     | nil => have := of_decide_eq_true hb; simp at hspl; omega
     | cons x t => exact ⟨x, t, rfl⟩
    clear hb
    simp only [QF] at hspl
    have gx : (ws.map (fun n => [iv n])).getD pre.length [] = [iv x] := by
     rw [hsp, List.map_append]; exact gd_mid' (A := pre.map (fun n => [iv n])) _ _ (by simp)
    have bx := ltI (show pre.length < ws.length by omega)
    have hwx : IntKind.wrap .i64 ((pre.length : Int) + 1) = ((pre ++ [x]).length : Int) := by rw [wrapI (by omega) (by omega)]; simp
    obtain ⟨ho1, ho2⟩ := one_share (s := ⟨nx, l⟩) he (w := x) (by rw [hsp]; simp)
    have hst := sh_step (s := ⟨nx, l⟩) he hsp
    refine awp_skip ?_
    simp only [zz6, Nat.reduceEqDiff, ↓reduceIte]
    refine hK2 _ ?_; try clear hK2 K2
    refine kpA [1, 2, 3, 4, 9, 11, 12] ?_
    refine QX fun K2 hK2 => ?_
    refine awp_block ?_
    refine QX fun K3 hK3 => ?_
    refine awp_draw F_mixed [some 48, some 49, some 50, some 51, some 52, some 53, some 54, some 55, some 47, some 56, some 57, some 13, some 14] rfl (by kernel_rfl) ?_
    simp only [zzK, Nat.reduceLT, Nat.reduceLeDiff, Nat.reduceBEq, F_ok24, F_ag24, F_sz24, zz8, zz23, zzD, Nat.reduceAdd, QH, zzH, zzC, QA, yyE, reduceCtorEq, QZ, evS_indexAddr, zz24, F_sl25, F_sz3, F_ok3, F_ag3, F_zero3, zz3, newRow1, zz1, zzG, maxLen_le, Nat.reduceMul, Qb, Qc, zz14, QY, ints, gx, bx, hwx, len_map, ge0, Int.toNat_natCast, QJ, ledC, legs, QD, D.sl.injEq, zz6, Nat.reduceEqDiff, ↓reduceIte]
    refine call_go F_go12 (fun hG => fShares_ nx l c [x] (by omega) (by simp)) (by simp [QL, QK]) (by simp) ?_
    simp only [zzK, Nat.reduceLT, Nat.reduceLeDiff, Nat.reduceBEq, F_ok24, F_ag24, F_sz24, zz8, zz23, zzD, Nat.reduceAdd, QH, zzH, zzC, QA, yyE, reduceCtorEq, QZ, evS_indexAddr, zz24, F_sl25, F_sz3, F_ok3, F_ag3, F_zero3, zz3, newRow1, zz1, zzG, maxLen_le, Nat.reduceMul, Qb, Qc, zz14, QY, ints, gx, bx, hwx, len_map, ge0, Int.toNat_natCast, QJ, ledC, legs, QD, zz6, Nat.reduceEqDiff, ↓reduceIte, atsL, oksG, freeN, AV.ren, AV.renL, addRows, ORow.row, Nat.reduceMul, Nat.reduceAdd, zz9, QB, QA, S_mem, yyF, QF, zz2]
    refine hK3 _ ?_; try clear hK3 K3
    refine kpA [1, 2, 3, 4, 9, 11, 12, 13, 14] ?_
    refine QX fun K3 hK3 => ?_
    refine QX fun K4 hK4 => ?_
    refine QW F_mixed [some 58, some 59] rfl ?_
    simp only [zzK, Nat.reduceLT, Nat.reduceLeDiff, Nat.reduceBEq, QZ, zz21, gr_v, zz28, zz6, Nat.reduceEqDiff, ↓reduceIte]
    refine hK4 _ ?_; try clear hK4 K4
    refine kpA [1, 2, 3, 4, 9, 11, 12, 13, 59] ?_
    refine cnA ?_ ?_
    ·intro hb
     exfalso
     simp [ho1] at hb
    ·intro hb
     clear hb
     refine awp_skip ?_
     simp only [zz6, Nat.reduceEqDiff, ↓reduceIte]
     refine hK3 _ ?_; try clear hK3 K3
     refine kpA [1, 2, 3, 4, 9, 11, 12, 13] ?_
     refine QW F_mixed [some 60, some 61, some 62, some 11] rfl ?_
     simp only [zzK, Nat.reduceLT, Nat.reduceLeDiff, Nat.reduceBEq, QZ, zz21, gr_v, zz26, QY, hst, zz6, Nat.reduceEqDiff, ↓reduceIte]
     refine hK2 _ ?_; try clear hK2 K2
     refine kpA [1, 2, 3, 4, 9, 11, 12] ?_
     refine QW F_mixed [some 45, some 46, some 12] rfl ?_
     simp only [zzK, Nat.reduceLT, Nat.reduceLeDiff, Nat.reduceBEq, QZ, zz21, gr_v, zz26, QY, hwx, zz6, Nat.reduceEqDiff, ↓reduceIte]
     refine ⟨post2.length, _, by simp, le_SK id [] rfl (l' := [(1, .d (iv c)), (2, .d (iv amt)), (3, .d (ints ws)), (4, .ptr 4 0 0), (9, .d (iv (shN ⟨nx, l⟩ c ws))), (11, .d (iv (shV c l (pre ++ [x])).sum)), (12, .d (iv (pre ++ [x]).length))]) (m' := [(4, (⟨True, 24, 2, true, false, 4, [[.d (iv nx), .d (.sl 4 (l.map legC))]]⟩ : ARow))]) ?_ ?_ ?_ ?_, (pre ++ [x]), post2, by simp [hsp], rfl, rfl⟩
     ·simp only [leV, Qa, Nat.reduceBEq, cond_true, cond_false, hwx, hst]; exact ⟨(by first | exact QN rfl | exact QP (by decide) | exact QO | exact QM _ | exact QR (by simp) (by rfl) | exact QQ (by simp) (by rfl) (by first | rfl | (simp; done) | (simp; omega)) | exact QS (by first | rfl | simp)), (by first | exact QN rfl | exact QP (by decide) | exact QO | exact QM _ | exact QR (by simp) (by rfl) | exact QQ (by simp) (by rfl) (by first | rfl | (simp; done) | (simp; omega)) | exact QS (by first | rfl | simp)), (by first | exact QN rfl | exact QP (by decide) | exact QO | exact QM _ | exact QR (by simp) (by rfl) | exact QQ (by simp) (by rfl) (by first | rfl | (simp; done) | (simp; omega)) | exact QS (by first | rfl | simp)), (by first | exact QN rfl | exact QP (by decide) | exact QO | exact QM _ | exact QR (by simp) (by rfl) | exact QQ (by simp) (by rfl) (by first | rfl | (simp; done) | (simp; omega)) | exact QS (by first | rfl | simp)), (by first | exact QN rfl | exact QP (by decide) | exact QO | exact QM _ | exact QR (by simp) (by rfl) | exact QQ (by simp) (by rfl) (by first | rfl | (simp; done) | (simp; omega)) | exact QS (by first | rfl | simp)), (by first | exact QN rfl | exact QP (by decide) | exact QO | exact QM _ | exact QR (by simp) (by rfl) | exact QQ (by simp) (by rfl) (by first | rfl | (simp; done) | (simp; omega)) | exact QS (by first | rfl | simp)), (by first | exact QN rfl | exact QP (by decide) | exact QO | exact QM _ | exact QR (by simp) (by rfl) | exact QQ (by simp) (by rfl) (by first | rfl | (simp; done) | (simp; omega)) | exact QS (by first | rfl | simp)), trivial⟩
     ·exact ⟨fun _ => ⟨_, rfl, (by first | exact RowLe.still (by simp [QK, QL]) | exact RowLe.same (by simp) (by simp [QK, QL]))⟩, fun h => by simp at h, trivial⟩
     ·simp [wfV, QL, QK, lookR, grow]
     ·exact ⟨by simp [QK, QL, lookR], trivial⟩
   ·intro hb
    obtain rfl : post = [] := by
     cases post with
     | nil => rfl
     | cons x t => have := of_decide_eq_false hb; simp at hspl; omega
    clear hb
    simp only [List.append_nil] at hsp
    subst hsp
    have hsn := (sh_open (s := ⟨nx, l⟩) he).2.2.2
    have hiff := lv_iff (amt := amt) he
    refine awp_exit ?_
    simp only [zz6, Nat.reduceEqDiff, ↓reduceIte]
    refine hK0 _ ?_; try clear hK0 K0
    refine kpA [1, 2, 3, 4, 9, 11] ?_
    refine QX fun K0 hK0 => ?_
    refine QW F_mixed [some 64, some 65, some 66, some 67, some 68, some 63, some 69, some 70, some 15, some 10] rfl ?_
    simp only [zzK, Nat.reduceLT, Nat.reduceLeDiff, Nat.reduceBEq, F_ok24, F_ag24, F_sz24, zz8, zz23, zzD, Nat.reduceAdd, QH, zzH, zzC, QA, yyE, reduceCtorEq, QZ, Qb, Qc, zz14, QY, ledC, legs, ints, QJ, zz6, Nat.reduceEqDiff, ↓reduceIte]
    refine call_go F_go8 (fun hG => levyF nx l c amt ws (by omega) (by omega)) (by simp [QL, QK]) (by simp) ?_
    simp only [zzK, Nat.reduceLT, Nat.reduceLeDiff, Nat.reduceBEq, F_ok24, F_ag24, F_sz24, zz8, zz23, zzD, Nat.reduceAdd, QH, zzH, zzC, QA, yyE, reduceCtorEq, QZ, Qb, Qc, zz14, QY, ledC, legs, ints, QJ, zz6, Nat.reduceEqDiff, ↓reduceIte, atsL, oksG, freeN, AV.ren, AV.renL, addRows, ORow.row, Nat.reduceMul, Nat.reduceAdd, zz9, QB, QA, S_mem, yyF, QF, zz2]
    refine hK0 _ ?_; try clear hK0 K0
    refine kpA [1, 2, 3, 4, 9, 10, 11, 15] ?_
    refine QX fun K0 hK0 => ?_
    refine QX fun K1 hK1 => ?_
    refine QW F_mixed [some 71, some 72, some 73, some 74, some 75, some 76, some 77, some 78, some 79, some 80, some 81, some 82, some 83, some 84, some 85] rfl ?_
    simp only [zzK, Nat.reduceLT, Nat.reduceLeDiff, Nat.reduceBEq, Nat.reduceSub, Qi, zz5, and_imp, imp_and, imp_self, and_self, QZ, zz21, gr_v, zz28, zz34, zz31, b_leq, pure_leq, zz13, pickK_l, pickK_r, b_neqb, pure_neqb F_bool4, hsn, hiff, zz6, Nat.reduceEqDiff, ↓reduceIte]
    refine hK1 _ ?_; try clear hK1 K1
    refine kpA [1, 2, 3, 4, 9, 10, 15, 85] ?_
    refine cnA ?_ ?_
    ·intro hb
     exfalso
     simp [hsn, hiff] at hb
    ·intro hb
     clear hb
     refine awp_skip ?_
     simp only [zz6, Nat.reduceEqDiff, ↓reduceIte]
     refine hK0 _ ?_; try clear hK0 K0
     refine kpA [1, 2, 3, 4, 9, 10, 15] ?_
     refine QX fun K0 hK0 => ?_
     refine QX fun K1 hK1 => ?_
     refine QW F_mixed [some 86, some 87, some 88, some 89, some 90, some 91, some 92, some 93, some 94, some 95, some 96] rfl ?_
     simp only [zzK, Nat.reduceLT, Nat.reduceLeDiff, Nat.reduceBEq, Nat.reduceSub, Qi, zz5, and_imp, imp_and, imp_self, QZ, zz21, gr_v, zz28, zz34, zz13, pickK_l, pickK_r, zz19, zz23, F_off24_0, zzH, QH, Nat.reduceAdd, F_ok3, F_ag3, F_sz3, zz8, zzD, zzC, QA, yyE, reduceCtorEq, zz31, ledC, legs, zz6, Nat.reduceEqDiff, ↓reduceIte]
     refine hK1 _ ?_; try clear hK1 K1
     refine kpA [1, 2, 3, 4, 9, 15, 96] ?_
     refine cnA ?_ ?_
     ·intro hb
      clear hb
      refine QX fun K2 hK2 => ?_
      refine QW F_mixed [some 97, some 8] rfl ?_
      simp only [zzK, Nat.reduceLT, Nat.reduceLeDiff, Nat.reduceBEq, Qb, Qc, QY, zz6, Nat.reduceEqDiff, ↓reduceIte]
      refine call_go F_go9 (fun hG => wakes21_) (by simp [QL, QK]) (by simp) ?_
      simp only [zzK, Nat.reduceLT, Nat.reduceLeDiff, Nat.reduceBEq, Qb, Qc, QY, zz6, Nat.reduceEqDiff, ↓reduceIte, atsL, oksG, freeN, AV.ren, AV.renL, addRows, ORow.row, Nat.reduceMul, Nat.reduceAdd, zz9, QB, QA, zzC, yyF, zzD, zz2]
      refine hK2 _ ?_; try clear hK2 K2
      refine kpA [8] ?_
      refine awp_ret ?_
      simp only [zz6, Nat.reduceEqDiff, ↓reduceIte]
      refine dnA ?_
      simp only [QD, QE, resA, Qi, Nat.reduceLT, Nat.reduceLeDiff, Qa, Nat.reduceBEq, cond_true, cond_false, resAll]
      
     ·intro hb
      have hL : lvE ⟨nx, l⟩ c amt ws = 0 ∧ amt ≠ 0 ∧ nx < 549755813888 := by simp at hb; omega
      clear hb
      have hG := (lv_facts hL.1).good
      have hwn : IntKind.wrap .i64 (nx + 1) = nx + 1 := (good_last hG hL.2.2).1
      have h0 : 0 ≤ nx := hG.last
      have hp := lv_post hL.1 hL.2.1 (nx + 1) (.inl (by show ¬ nx + 1 ≤ nx; omega))
      have hib : idBad (nx + 1) = false := by simp [idBad]; omega
      rw [hib] at hp
      have hpl := postV_len ⟨nx, l⟩ (nx + 1) (lvV ⟨nx, l⟩ c amt ws)
      simp only at hpl
      refine awp_skip ?_
      simp only [zz6, Nat.reduceEqDiff, ↓reduceIte]
      refine hK0 _ ?_; try clear hK0 K0
      refine kpA [1, 2, 3, 4, 9, 15] ?_
      refine QX fun K0 hK0 => ?_
      refine QW F_mixed [some 99, some 100, some 101, some 102, some 103, some 104, some 98, some 105, some 106, some 16, none, some 10] rfl ?_
      simp only [zzK, Nat.reduceLT, Nat.reduceLeDiff, Nat.reduceBEq, F_ok24, F_ag24, F_sz24, zz8, zz23, zzD, Nat.reduceAdd, QH, zzH, zzC, QA, yyE, reduceCtorEq, zz19, F_off24_0, F_ok3, F_ag3, F_sz3, zz21, gr_v, zz26, QZ, Qb, Qc, zz14, zz32, newRow1, F_zero24, zz10, zz18, splice, List.append_nil, zz1, zzG, QY, ledC, legs, ledC, hwn, legs, QJ, zz6, Nat.reduceEqDiff, ↓reduceIte]
      refine call_go F_go11 (fun hG => rPostF nx (nx + 1) l (lvV ⟨nx, l⟩ c amt ws) (by omega) (by omega)) (by simp [QL, QK]) (by simp) ?_
      simp only [zzK, Nat.reduceLT, Nat.reduceLeDiff, Nat.reduceBEq, F_ok24, F_ag24, F_sz24, zz8, zz23, zzD, Nat.reduceAdd, QH, zzH, zzC, QA, yyE, reduceCtorEq, zz19, F_off24_0, F_ok3, F_ag3, F_sz3, zz21, gr_v, zz26, QZ, Qb, Qc, zz14, zz32, newRow1, F_zero24, zz10, zz18, splice, List.append_nil, zz1, zzG, QY, ledC, legs, ledC, hwn, legs, QJ, zz6, Nat.reduceEqDiff, ↓reduceIte, atsL, oksG, freeN, AV.ren, AV.renL, addRows, ORow.row, Nat.reduceMul, Nat.reduceAdd, zz9, QB, QA, S_mem, yyF, QF, zz2]
      refine hK0 _ ?_; try clear hK0 K0
      refine kpA [1, 2, 3, 9, 10, 16] ?_
      refine QX fun K0 hK0 => ?_
      refine QX fun K1 hK1 => ?_
      refine QW F_mixed [some 107, some 108] rfl ?_
      simp only [zzK, Nat.reduceLT, Nat.reduceLeDiff, Nat.reduceBEq, QZ, zz21, gr_v, zz28, zz6, Nat.reduceEqDiff, ↓reduceIte]
      refine hK1 _ ?_; try clear hK1 K1
      refine kpA [1, 2, 3, 9, 10, 16, 108] ?_
      refine cnA ?_ ?_
      ·intro hb
       have hp1 : postE ⟨nx, l⟩ (nx + 1) (lvV ⟨nx, l⟩ c amt ws) = 1 := by
        rcases hp with h | h | h
        ·rw [h] at hb; cases hb
        ·exact h
        ·cases h.2
       clear hb
       refine QX fun K2 hK2 => ?_
       refine QW F_mixed [some 109, some 110, some 111, some 112, some 113, some 8] rfl ?_
       simp only [zzK, Nat.reduceLT, Nat.reduceLeDiff, Nat.reduceBEq, Nat.reduceSub, Qi, zz5, and_imp, imp_and, imp_self, and_self, QZ, zz21, gr_v, zz34, Qb, Qc, zz13, pickK_l, pickK_r, QY, hp1, zz6, Nat.reduceEqDiff, ↓reduceIte]
       refine call_go F_go9 (fun hG => wakes21_) (by simp [QL, QK]) (by simp) ?_
       simp only [zzK, Nat.reduceLT, Nat.reduceLeDiff, Nat.reduceBEq, Nat.reduceSub, Qi, zz5, and_imp, imp_and, imp_self, and_self, QZ, zz21, gr_v, zz34, Qb, Qc, zz13, pickK_l, pickK_r, QY, hp1, zz6, Nat.reduceEqDiff, ↓reduceIte, atsL, oksG, freeN, AV.ren, AV.renL, addRows, ORow.row, Nat.reduceMul, Nat.reduceAdd, zz9, QB, QA, zzC, yyF, zzD, zz2]
       refine hK2 _ ?_; try clear hK2 K2
       refine kpA [8] ?_
       refine awp_ret ?_
       simp only [zz6, Nat.reduceEqDiff, ↓reduceIte]
       refine dnA ?_
       simp only [QD, QE, resA, Qi, Nat.reduceLT, Nat.reduceLeDiff, Qa, Nat.reduceBEq, cond_true, cond_false, resAll]
       try rfl
      ·intro hb
       have hp0 : postE ⟨nx, l⟩ (nx + 1) (lvV ⟨nx, l⟩ c amt ws) = 0 := by simpa using hb
       clear hb
       obtain ⟨hn1, hn2⟩ := lv_new hL.1 hp0
       have hn1 : shE ⟨(postV ⟨nx, l⟩ (nx + 1) (lvV ⟨nx, l⟩ c amt ws)).last, (postV ⟨nx, l⟩ (nx + 1) (lvV ⟨nx, l⟩ c amt ws)).bal⟩ c ws = 0 := hn1
       have hn2 : shN ⟨(postV ⟨nx, l⟩ (nx + 1) (lvV ⟨nx, l⟩ c amt ws)).last, (postV ⟨nx, l⟩ (nx + 1) (lvV ⟨nx, l⟩ c amt ws)).bal⟩ c ws = shN ⟨nx, l⟩ c ws - amt := hn2
       have hF := lv_facts hL.1
       have ha0 := hF.a0
       have ha1 := hF.le
       have ha2 := hF.sum
       simp only at ha1 ha2 hsn
       have hws : IntKind.wrap .i64 (shN ⟨nx, l⟩ c ws - amt) = shN ⟨nx, l⟩ c ws - amt := wrapI (by omega) (by omega)
       have hws2 : IntKind.wrap .i64 ((shV c l ws).sum - amt) = shN ⟨nx, l⟩ c ws - amt := by rw [← hsn]; exact hws
       refine awp_skip ?_
       simp only [zz6, Nat.reduceEqDiff, ↓reduceIte]
       refine hK0 _ ?_; try clear hK0 K0
       refine kpA [1, 2, 3, 9, 16] ?_
       refine QX fun K0 hK0 => ?_
       refine QW F_mixed [some 115, some 116, some 117, some 118, some 114, some 119, some 120, some 17, some 10] rfl ?_
       simp only [zzK, Nat.reduceLT, Nat.reduceLeDiff, Nat.reduceBEq, F_ok24, F_ag24, F_sz24, zz8, zz23, zzD, Nat.reduceAdd, QH, zzH, zzC, QA, yyE, reduceCtorEq, QZ, Qb, Qc, zz14, QY, ledC, legs, ints, QJ, zz6, Nat.reduceEqDiff, ↓reduceIte]
       refine call_go F_go12 (fun hG => fShares_ (postV ⟨nx, l⟩ (nx + 1) (lvV ⟨nx, l⟩ c amt ws)).last (postV ⟨nx, l⟩ (nx + 1) (lvV ⟨nx, l⟩ c amt ws)).bal c ws (by omega) (by omega)) (by simp [QL, QK]) (by simp) ?_
       simp only [zzK, Nat.reduceLT, Nat.reduceLeDiff, Nat.reduceBEq, F_ok24, F_ag24, F_sz24, zz8, zz23, zzD, Nat.reduceAdd, QH, zzH, zzC, QA, yyE, reduceCtorEq, QZ, Qb, Qc, zz14, QY, ledC, legs, ints, QJ, zz6, Nat.reduceEqDiff, ↓reduceIte, atsL, oksG, freeN, AV.ren, AV.renL, addRows, ORow.row, Nat.reduceMul, Nat.reduceAdd, zz9, QB, QA, S_mem, yyF, QF, zz2]
       refine hK0 _ ?_; try clear hK0 K0
       refine kpA [2, 9, 10, 17] ?_
       refine QX fun K0 hK0 => ?_
       refine QW F_mixed [some 121, some 122, some 123, some 124, some 125, some 126, some 127, some 128, some 129, some 130, some 131, some 132, some 8] rfl ?_
       simp only [zzK, Nat.reduceLT, Nat.reduceLeDiff, Nat.reduceBEq, Nat.reduceSub, Qi, zz5, and_imp, imp_and, imp_self, and_self, QZ, zz21, gr_v, zz34, zz33, zz13, pickK_l, pickK_r, Qb, Qc, QY, hn1, hn2, hws, hws2, zz6, Nat.reduceEqDiff, ↓reduceIte]
       refine call_go F_go9 (fun hG => wakes21_) (by simp [QL, QK]) (by simp) ?_
       simp only [zzK, Nat.reduceLT, Nat.reduceLeDiff, Nat.reduceBEq, Nat.reduceSub, Qi, zz5, and_imp, imp_and, imp_self, and_self, QZ, zz21, gr_v, zz34, zz33, zz13, pickK_l, pickK_r, Qb, Qc, QY, hn1, hn2, hws, hws2, zz6, Nat.reduceEqDiff, ↓reduceIte, atsL, oksG, freeN, AV.ren, AV.renL, addRows, ORow.row, Nat.reduceMul, Nat.reduceAdd, zz9, QB, QA, zzC, yyF, zzD, zz2]
       refine hK0 _ ?_; try clear hK0 K0
       refine kpA [8] ?_
       refine awp_ret ?_
       simp only [zz6, Nat.reduceEqDiff, ↓reduceIte]
       refine dnA ?_
       simp only [QD, QE, resA, Qi, Nat.reduceLT, Nat.reduceLeDiff, Qa, Nat.reduceBEq, cond_true, cond_false, resAll]
       try simp
end Go.Proofs.Ytjkfadaedgidpaa
