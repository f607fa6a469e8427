import Derived.Test.YtjkfadaedgidpaaWpI
namespace Go.Proofs.Ytjkfadaedgidpaa
open Go.RowKit
set_option linter.unusedVariables false
set_option linter.unusedSimpArgs false
open Option renaming map_some → QA, bind_some → QB
open List renaming map_cons → QD, length_cons → QF
open Nat renaming zero_add → QH
open D.agg renaming injEq → QJ
open AV renaming idsL → QK, ids → QL
open VLe renaming refl → QM, still → QN, nild_ → QO, nil_ → QP, refE → QQ, ptrE → QR, dE → QS
open RowLe renaming same → QT, still → QU
open Go.Proofs.Ytjkfadaedgidpaa renaming awp_plain → QW, awp_seq → QX, evS_assign → QY, evS_move → QZ, look_cons → Qa, evS_call → Qb, evC_value → Qc, S_getD → Qi
theorem F_go9 : goFn Try.prog 9 := ⟨_, Try.func9, rfl, rfl⟩
theorem F_go11 : goFn Try.prog 11 := ⟨_, Try.func11, rfl, rfl⟩
set_option maxRecDepth 100000 in
set_option maxHeartbeats 4000000 in
theorem fundBears_ (nx : Int) (l : List LegV) (c amt : Int) (ws : List Int) (hnx : nx < 9223372036854775808) : ACalls Try.prog 3 [.agg (ledC ⟨nx, l⟩), iv c, iv amt, ints ws] [] (bv true) := by
 refine acalls_S (rs := [.tmp 8]) Try.func3 rfl rfl 150 [(0, .d (.agg (ledC ⟨nx, l⟩))), (1, .d (iv c)), (2, .d (iv amt)), (3, .d (ints ws))] rfl (by simp) rfl ?_
 refine QX fun K0 hK0 => ?_
 refine QW F_mixed [some 4, some 8] rfl ?_
 simp only [zzK, Nat.reduceLT, Nat.reduceLeDiff, Nat.reduceBEq, zz35, newRow1, zz1, zzG, zzD, zzC, QA, yyE, reduceCtorEq, Nat.reduceAdd, QH, zzH, QY, ledC, legs, zz6, Nat.reduceEqDiff, ↓reduceIte]
 refine hK0 _ ?_; try clear hK0 K0
 refine kpA [1, 2, 3, 4] ?_
 refine QX fun K0 hK0 => ?_
 refine QX fun K1 hK1 => ?_
 refine QW F_mixed [some 16, some 17, some 18, some 19, some 20, some 21, some 22, some 23, some 24] rfl ?_
 simp only [zzK, Nat.reduceLT, Nat.reduceLeDiff, Nat.reduceBEq, Nat.reduceSub, Qi, zz5, and_imp, imp_and, imp_self, zz19, zz23, F_off24_1, zzH, QH, Nat.reduceAdd, F_ok22, F_ag22, F_sz22, zz8, zzD, zzC, QA, yyE, reduceCtorEq, Qb, zz12, F_sl22, Option.isSome_some, zz21, gr_v, zz25, QZ, F_sl25, zz13, pickK_l, pickK_r, ledC, legs, ints, len_map, zz6, Nat.reduceEqDiff, ↓reduceIte]
 refine hK1 _ ?_; try clear hK1 K1
 refine kpA [1, 2, 3, 4, 24] ?_
 refine cnA ?_ ?_
 ·intro hb
  clear hb
  refine QX fun K2 hK2 => ?_
  refine QW F_mixed [some 8] rfl ?_
  simp only [zzK, Nat.reduceLT, Nat.reduceLeDiff, Nat.reduceBEq, QY, zz6, Nat.reduceEqDiff, ↓reduceIte]
  refine hK2 _ ?_; try clear hK2 K2
  refine kpA [8] ?_
  refine awp_ret ?_
  simp only [zz6, Nat.reduceEqDiff, ↓reduceIte]
  refine dnA ?_
  simp only [QD, List.map_nil, resA, Qi, Nat.reduceLT, Nat.reduceLeDiff, Qa, Nat.reduceBEq, cond_true, cond_false, resAll]
  
 ·intro hb
  have hlw : l.length ≤ 300 ∧ ws.length ≤ 300 := by simp at hb; omega
  clear hb
  have hvl := lvV_len ⟨nx, l⟩ c amt ws
  refine awp_skip ?_
  simp only [zz6, Nat.reduceEqDiff, ↓reduceIte]
  refine hK0 _ ?_; try clear hK0 K0
  refine kpA [1, 2, 3, 4] ?_
  refine QX fun K0 hK0 => ?_
  refine QW F_mixed [some 26, some 27, some 28, some 29, some 30, some 25, some 31, some 32, some 9, some 10] rfl ?_
  simp only [zzK, Nat.reduceLT, Nat.reduceLeDiff, Nat.reduceBEq, F_ok24, F_ag24, F_sz24, zz8, zz23, zzD, Nat.reduceAdd, QH, zzH, zzC, QA, yyE, reduceCtorEq, QZ, Qb, Qc, zz14, QY, ledC, legs, ints, QJ, zz6, Nat.reduceEqDiff, ↓reduceIte]
  refine call_go F_go8 (fun hG => levyF nx l c amt ws (by omega) (by omega)) (by simp [QL, QK]) (by simp) ?_
  simp only [zzK, Nat.reduceLT, Nat.reduceLeDiff, Nat.reduceBEq, F_ok24, F_ag24, F_sz24, zz8, zz23, zzD, Nat.reduceAdd, QH, zzH, zzC, QA, yyE, reduceCtorEq, QZ, Qb, Qc, zz14, QY, ledC, legs, ints, QJ, zz6, Nat.reduceEqDiff, ↓reduceIte, atsL, oksG, freeN, AV.ren, AV.renL, addRows, ORow.row, Nat.reduceMul, Nat.reduceAdd, zz9, QB, QA, S_mem, yyF, QF, zz2]
  refine hK0 _ ?_; try clear hK0 K0
  refine kpA [1, 2, 3, 4, 9, 10] ?_
  refine QX fun K0 hK0 => ?_
  refine QX fun K1 hK1 => ?_
  refine QW F_mixed [some 33, some 34] rfl ?_
  simp only [zzK, Nat.reduceLT, Nat.reduceLeDiff, Nat.reduceBEq, QZ, zz21, gr_v, zz28, zz6, Nat.reduceEqDiff, ↓reduceIte]
  refine hK1 _ ?_; try clear hK1 K1
  refine kpA [1, 2, 3, 4, 9, 34] ?_
  refine cnA ?_ ?_
  ·intro hb
   have hv0 : lvV ⟨nx, l⟩ c amt ws = [] := lvV_bad (by simpa using hb)
   clear hb
   refine QX fun K2 hK2 => ?_
   refine QW F_mixed [some 35, some 36, some 37, some 38, some 39, some 40, some 8] rfl ?_
   simp only [zzK, Nat.reduceLT, Nat.reduceLeDiff, Nat.reduceBEq, Nat.reduceSub, Qi, zz5, and_imp, imp_and, imp_self, and_self, QZ, Qb, zz12, F_sl26, Option.isSome_some, zz21, gr_v, zz34, Qc, zz13, pickK_l, pickK_r, QY, legs, len_map, hv0, List.length_nil, zz6, Nat.reduceEqDiff, ↓reduceIte]
   refine call_go F_go9 (fun hG => wakes21_) (by simp [QL, QK]) (by simp) ?_
   simp only [zzK, Nat.reduceLT, Nat.reduceLeDiff, Nat.reduceBEq, Nat.reduceSub, Qi, zz5, and_imp, imp_and, imp_self, and_self, QZ, Qb, zz12, F_sl26, Option.isSome_some, zz21, gr_v, zz34, Qc, zz13, pickK_l, pickK_r, QY, legs, len_map, hv0, zz6, Nat.reduceEqDiff, ↓reduceIte, atsL, oksG, freeN, AV.ren, AV.renL, addRows, ORow.row, Nat.reduceMul, Nat.reduceAdd, zz9, QB, QA, zzC, yyF, zzD, zz2]
   refine hK2 _ ?_; try clear hK2 K2
   refine kpA [8] ?_
   refine awp_ret ?_
   simp only [zz6, Nat.reduceEqDiff, ↓reduceIte]
   refine dnA ?_
   simp only [QD, List.map_nil, resA, Qi, Nat.reduceLT, Nat.reduceLeDiff, Qa, Nat.reduceBEq, cond_true, cond_false, resAll]
   try rfl
  ·intro hb
   have he : lvE ⟨nx, l⟩ c amt ws = 0 := by simpa using hb
   clear hb
   refine awp_skip ?_
   simp only [zz6, Nat.reduceEqDiff, ↓reduceIte]
   refine hK0 _ ?_; try clear hK0 K0
   refine kpA [1, 2, 3, 4, 9] ?_
   refine QX fun K0 hK0 => ?_
   refine QW F_mixed [some 11] rfl ?_
   simp only [zzK, Nat.reduceLT, Nat.reduceLeDiff, Nat.reduceBEq, QY, zz6, Nat.reduceEqDiff, ↓reduceIte]
   refine hK0 _ ?_; try clear hK0 K0
   refine kpA [1, 2, 3, 4, 9, 11] ?_
   refine QX fun K0 hK0 => ?_
   refine QX fun K1 hK1 => ?_
   refine QW F_mixed [some 12] rfl ?_
   simp only [zzK, Nat.reduceLT, Nat.reduceLeDiff, Nat.reduceBEq, QY, zz6, Nat.reduceEqDiff, ↓reduceIte]
   refine hK1 _ ?_; try clear hK1 K1
   refine kpA [1, 2, 3, 4, 9, 11, 12] ?_
   refine awp_block ?_
   refine awp_loop (fun m s => ∃ (q : List LegV) (r : List LegV), ((lvV ⟨nx, l⟩ c amt ws) = q ++ r) ∧ m = r.length ∧ s = S 150 [(1, .d (iv c)), (2, .d (iv amt)), (3, .d (ints ws)), (4, .ptr 4 0 0), (9, .d (legs (lvV ⟨nx, l⟩ c amt ws))), (11, .d (iv (bS q))), (12, .d (iv q.length))] [(4, (⟨True, 24, 2, true, false, 4, [[.d (iv nx), .d (.sl 4 (l.map legC))]]⟩ : ARow))]) ((lvV ⟨nx, l⟩ c amt ws).length) _ (le_SK id [] rfl (l' := [(1, .d (iv c)), (2, .d (iv amt)), (3, .d (ints ws)), (4, .ptr 4 0 0), (9, .d (legs (lvV ⟨nx, l⟩ c amt ws))), (11, .d (iv (bS []))), (12, .d (iv [].length))]) (m' := [(4, (⟨True, 24, 2, true, false, 4, [[.d (iv nx), .d (.sl 4 (l.map legC))]]⟩ : ARow))]) ?_ ?_ ?_ ?_) ⟨[], (lvV ⟨nx, l⟩ c amt ws), rfl, rfl, rfl⟩ ?_
   ·simp only [leV, Qa, Nat.reduceBEq, cond_true, cond_false]; exact ⟨(by first | exact QN rfl | exact QP (by decide) | exact QO | exact QM _ | exact QR (by simp) (by rfl) | exact QQ (by simp) (by rfl) (by first | rfl | (simp; done) | (simp; omega)) | exact QS (by first | rfl | simp)), (by first | exact QN rfl | exact QP (by decide) | exact QO | exact QM _ | exact QR (by simp) (by rfl) | exact QQ (by simp) (by rfl) (by first | rfl | (simp; done) | (simp; omega)) | exact QS (by first | rfl | simp)), (by first | exact QN rfl | exact QP (by decide) | exact QO | exact QM _ | exact QR (by simp) (by rfl) | exact QQ (by simp) (by rfl) (by first | rfl | (simp; done) | (simp; omega)) | exact QS (by first | rfl | simp)), (by first | exact QN rfl | exact QP (by decide) | exact QO | exact QM _ | exact QR (by simp) (by rfl) | exact QQ (by simp) (by rfl) (by first | rfl | (simp; done) | (simp; omega)) | exact QS (by first | rfl | simp)), (by first | exact QN rfl | exact QP (by decide) | exact QO | exact QM _ | exact QR (by simp) (by rfl) | exact QQ (by simp) (by rfl) (by first | rfl | (simp; done) | (simp; omega)) | exact QS (by first | rfl | simp)), (QS rfl), (by first | exact QN rfl | exact QP (by decide) | exact QO | exact QM _ | exact QR (by simp) (by rfl) | exact QQ (by simp) (by rfl) (by first | rfl | (simp; done) | (simp; omega)) | exact QS (by first | rfl | simp)), trivial⟩
   ·exact ⟨fun _ => ⟨_, rfl, (by first | exact QU (by simp [QK, QL]) | exact QT (by simp) (by simp [QK, QL]))⟩, fun h => by simp at h, trivial⟩
   ·simp [wfV, QL, QK, lookR, grow]
   ·exact ⟨by simp [QK, QL, lookR], trivial⟩
   rintro m s ⟨q, r, hsq, rfl, rfl⟩
   have hsql := congrArg List.length hsq
   simp only [List.length_append] at hsql
   refine QX fun K2 hK2 => ?_
   refine QX fun K3 hK3 => ?_
   refine QW F_mixed [some 41, some 42, some 43, some 44] rfl ?_
   simp only [zzK, Nat.reduceLT, Nat.reduceLeDiff, Nat.reduceBEq, QZ, Qb, zz12, F_sl26, Option.isSome_some, zz21, gr_v, zz22, legs, len_map, zz6, Nat.reduceEqDiff, ↓reduceIte]
   refine hK3 _ ?_; try clear hK3 K3
   refine kpA [1, 2, 3, 4, 9, 11, 12, 44] ?_
   refine cnA ?_ ?_
   ·intro hb
    obtain ⟨z, r2, rfl⟩ : ∃ x t, r = x :: t := by
     cases r with
     | nil => have := of_decide_eq_true hb; simp at hsql; omega
     | cons x t => exact ⟨x, t, rfl⟩
    clear hb
    simp only [QF] at hsql
    have gz : ((lvV ⟨nx, l⟩ c amt ws).map legC).getD q.length [] = [iv z.ac.kind, iv z.ac.who, iv z.ac.cur, iv z.amt] := by
     rw [hsq, List.map_append]; exact gd_mid' (A := q.map legC) _ _ (by simp)
    have bz := ltI (show q.length < (lvV ⟨nx, l⟩ c amt ws).length by omega)
    have hwz : IntKind.wrap .i64 ((q.length : Int) + 1) = ((q ++ [z]).length : Int) := by rw [wrapI (by omega) (by omega)]; simp
    have hzm : z ∈ (lvV ⟨nx, l⟩ c amt ws) := by rw [hsq]; simp
    obtain ⟨hs6, hs3⟩ := bS_step (s := ⟨nx, l⟩) he hsq
    have hzl := lv_leg (s := ⟨nx, l⟩) he hzm
    refine awp_skip ?_
    simp only [zz6, Nat.reduceEqDiff, ↓reduceIte]
    refine hK2 _ ?_; try clear hK2 K2
    refine kpA [1, 2, 3, 4, 9, 11, 12] ?_
    refine QX fun K2 hK2 => ?_
    refine awp_block ?_
    refine QX fun K3 hK3 => ?_
    refine QW F_mixed [some 47, some 48, some 49, some 50, some 13, none] rfl ?_
    simp only [zzK, Nat.reduceLT, Nat.reduceLeDiff, Nat.reduceBEq, QZ, evS_indexAddr, zz23, zz24, F_sl26, F_sz34, QA, zzC, yyE, reduceCtorEq, F_ok34, F_ag34, zz8, zzD, Nat.reduceAdd, QH, zzH, zz32, newRow1, F_zero34, zz10, zz18, splice, List.append_nil, zz1, zzG, legs, gz, bz, hwz, len_map, ge0, Int.toNat_natCast, QJ, zz6, Nat.reduceEqDiff, ↓reduceIte]
    refine hK3 _ ?_; try clear hK3 K3
    refine kpA [1, 2, 3, 4, 9, 11, 12, 13] ?_
    refine QX fun K3 hK3 => ?_
    refine QX fun K4 hK4 => ?_
    refine QW F_mixed [some 51, some 52, some 53, some 54] rfl ?_
    simp only [zzK, Nat.reduceLT, Nat.reduceLeDiff, Nat.reduceBEq, zz19, zz23, F_off34_0, zzH, QH, Nat.reduceAdd, F_off32_0, F_ok3, F_ag3, F_sz3, zz8, zzD, zzC, QA, yyE, reduceCtorEq, zz21, gr_v, zz34, zz6, Nat.reduceEqDiff, ↓reduceIte]
    refine hK4 _ ?_; try clear hK4 K4
    refine kpA [1, 2, 3, 4, 9, 11, 12, 13, 54] ?_
    refine cnA ?_ ?_
    ·intro hb
     have hk : z.ac.kind = 6 := by simpa using hb
     clear hb
     have g6 : z.amt = amt ∧ z.ac.cur = c := by
      rcases hzl with g | g
      ·exact g.2
      ·exact absurd (hk.symm.trans g.1) (by decide)
     obtain ⟨ga, gb⟩ := g6
     have hbq := hs6 hk
     refine QX fun K5 hK5 => ?_
     refine QX fun K6 hK6 => ?_
     refine QW F_mixed [some 55, some 56, some 57, some 58, some 59, some 60, some 61, some 62, some 63, some 64, some 65] rfl ?_
     simp only [zzK, Nat.reduceLT, Nat.reduceLeDiff, Nat.reduceBEq, Nat.reduceSub, Qi, zz5, and_imp, imp_and, imp_self, zz19, zz23, F_off34_1, zzH, QH, Nat.reduceAdd, F_ok3, F_ag3, F_sz3, zz8, zzD, zzC, QA, yyE, reduceCtorEq, QZ, zz21, gr_v, zz28, F_off34_0, F_off32_2, zz13, pickK_l, pickK_r, ga, gb, zz6, Nat.reduceEqDiff, ↓reduceIte]
     refine hK6 _ ?_; try clear hK6 K6
     refine kpA [1, 2, 3, 4, 9, 11, 12, 65] ?_
     refine cnA ?_ ?_
     ·intro hb
      exfalso
      simp [ga, gb] at hb
     ·intro hb
      clear hb
      refine awp_skip ?_
      simp only [zz6, Nat.reduceEqDiff, ↓reduceIte]
      refine hK5 _ ?_; try clear hK5 K5
      refine kpA [1, 2, 3, 4, 9, 11, 12] ?_
      refine awp_exit ?_
      simp only [zz6, Nat.reduceEqDiff, ↓reduceIte]
      refine hK2 _ ?_; try clear hK2 K2
      refine kpA [1, 2, 3, 4, 9, 11, 12] ?_
      refine QW F_mixed [some 45, some 46, some 12] rfl ?_
      simp only [zzK, Nat.reduceLT, Nat.reduceLeDiff, Nat.reduceBEq, QZ, zz21, gr_v, zz26, QY, hwz, zz6, Nat.reduceEqDiff, ↓reduceIte]
      refine ⟨r2.length, _, by simp, le_SK id [] rfl (l' := [(1, .d (iv c)), (2, .d (iv amt)), (3, .d (ints ws)), (4, .ptr 4 0 0), (9, .d (legs (lvV ⟨nx, l⟩ c amt ws))), (11, .d (iv (bS (q ++ [z])))), (12, .d (iv (q ++ [z]).length))]) (m' := [(4, (⟨True, 24, 2, true, false, 4, [[.d (iv nx), .d (.sl 4 (l.map legC))]]⟩ : ARow))]) ?_ ?_ ?_ ?_, (q ++ [z]), r2, by simp [hsq], rfl, rfl⟩
      ·simp only [leV, Qa, Nat.reduceBEq, cond_true, cond_false, hwz, hbq]; exact ⟨(by first | exact QN rfl | exact QP (by decide) | exact QO | exact QM _ | exact QR (by simp) (by rfl) | exact QQ (by simp) (by rfl) (by first | rfl | (simp; done) | (simp; omega)) | exact QS (by first | rfl | simp)), (by first | exact QN rfl | exact QP (by decide) | exact QO | exact QM _ | exact QR (by simp) (by rfl) | exact QQ (by simp) (by rfl) (by first | rfl | (simp; done) | (simp; omega)) | exact QS (by first | rfl | simp)), (by first | exact QN rfl | exact QP (by decide) | exact QO | exact QM _ | exact QR (by simp) (by rfl) | exact QQ (by simp) (by rfl) (by first | rfl | (simp; done) | (simp; omega)) | exact QS (by first | rfl | simp)), (by first | exact QN rfl | exact QP (by decide) | exact QO | exact QM _ | exact QR (by simp) (by rfl) | exact QQ (by simp) (by rfl) (by first | rfl | (simp; done) | (simp; omega)) | exact QS (by first | rfl | simp)), (by first | exact QN rfl | exact QP (by decide) | exact QO | exact QM _ | exact QR (by simp) (by rfl) | exact QQ (by simp) (by rfl) (by first | rfl | (simp; done) | (simp; omega)) | exact QS (by first | rfl | simp)), (by first | exact QN rfl | exact QP (by decide) | exact QO | exact QM _ | exact QR (by simp) (by rfl) | exact QQ (by simp) (by rfl) (by first | rfl | (simp; done) | (simp; omega)) | exact QS (by first | rfl | simp)), (by first | exact QN rfl | exact QP (by decide) | exact QO | exact QM _ | exact QR (by simp) (by rfl) | exact QQ (by simp) (by rfl) (by first | rfl | (simp; done) | (simp; omega)) | exact QS (by first | rfl | simp)), trivial⟩
      ·exact ⟨fun _ => ⟨_, rfl, (by first | exact QU (by simp [QK, QL]) | exact QT (by simp) (by simp [QK, QL]))⟩, fun h => by simp at h, trivial⟩
      ·simp [wfV, QL, QK, lookR, grow]
      ·exact ⟨by simp [QK, QL, lookR], trivial⟩
    ·intro hb
     obtain ⟨hk, gc, gw, gn, gl, go⟩ := hzl.resolve_left (fun g => by simp [g.1] at hb)
     clear hb
     have hst := hs3 hk
     have hng : IntKind.wrap .i64 (0 - z.amt) = - z.amt := by rw [wrapI (by omega) (by omega)]; omega
     have hng2 : IntKind.wrap .i64 (- z.amt) = - z.amt := wrapI (by omega) (by omega)
     simp only at go
     have hgo : decide (- z.amt > ofL z.ac l) = false := decide_eq_false (by omega)
     have hg0 : decide (z.amt ≥ 0) = false := decide_eq_false (by omega)
     have hkb : (z.ac.kind != 3) = false := by simp [hk]
     have hcb : (z.ac.cur != c) = false := by simp [gc]
     refine awp_skip ?_
     simp only [zz6, Nat.reduceEqDiff, ↓reduceIte]
     refine hK3 _ ?_; try clear hK3 K3
     refine kpA [1, 2, 3, 4, 9, 11, 12, 13] ?_
     refine QX fun K3 hK3 => ?_
     refine QW F_mixed [some 14] rfl ?_
     simp only [zzK, Nat.reduceLT, Nat.reduceLeDiff, Nat.reduceBEq, QY, zz6, Nat.reduceEqDiff, ↓reduceIte]
     refine hK3 _ ?_; try clear hK3 K3
     refine kpA [1, 2, 3, 4, 9, 11, 12, 13, 14] ?_
     refine QX fun K3 hK3 => ?_
     refine QX fun K4 hK4 => ?_
     refine QW F_mixed [some 15] rfl ?_
     simp only [zzK, Nat.reduceLT, Nat.reduceLeDiff, Nat.reduceBEq, QY, zz6, Nat.reduceEqDiff, ↓reduceIte]
     refine hK4 _ ?_; try clear hK4 K4
     refine kpA [1, 2, 3, 4, 9, 11, 12, 13, 14, 15] ?_
     refine awp_block ?_
     refine awp_loop (fun m s => ∃ (w1 : List Int) (w2 : List Int), (ws = w1 ++ w2) ∧ m = w2.length ∧ s = S 150 [(1, .d (iv c)), (2, .d (iv amt)), (3, .d (ints ws)), (4, .ptr 4 0 0), (9, .d (legs (lvV ⟨nx, l⟩ c amt ws))), (11, .d (iv (bS q))), (12, .d (iv q.length)), (13, .ptr 13 0 0), (14, bv (w1.any fun x => x == z.ac.who)), (15, .d (iv w1.length))] [(4, (⟨True, 24, 2, true, false, 4, [[.d (iv nx), .d (.sl 4 (l.map legC))]]⟩ : ARow)), (13, (⟨True, 34, 4, true, false, 13, [[.d (iv z.ac.kind), .d (iv z.ac.who), .d (iv z.ac.cur), .d (iv z.amt)]]⟩ : ARow))]) (ws.length) _ (le_SK id [] rfl (l' := [(1, .d (iv c)), (2, .d (iv amt)), (3, .d (ints ws)), (4, .ptr 4 0 0), (9, .d (legs (lvV ⟨nx, l⟩ c amt ws))), (11, .d (iv (bS q))), (12, .d (iv q.length)), (13, .ptr 13 0 0), (14, bv ([].any fun x => x == z.ac.who)), (15, .d (iv [].length))]) (m' := [(4, (⟨True, 24, 2, true, false, 4, [[.d (iv nx), .d (.sl 4 (l.map legC))]]⟩ : ARow)), (13, (⟨True, 34, 4, true, false, 13, [[.d (iv z.ac.kind), .d (iv z.ac.who), .d (iv z.ac.cur), .d (iv z.amt)]]⟩ : ARow))]) ?_ ?_ ?_ ?_) ⟨[], ws, rfl, rfl, rfl⟩ ?_
     ·simp only [leV, Qa, Nat.reduceBEq, cond_true, cond_false]; exact ⟨(by first | exact QN rfl | exact QP (by decide) | exact QO | exact QM _ | exact QR (by simp) (by rfl) | exact QQ (by simp) (by rfl) (by first | rfl | (simp; done) | (simp; omega)) | exact QS (by first | rfl | simp)), (by first | exact QN rfl | exact QP (by decide) | exact QO | exact QM _ | exact QR (by simp) (by rfl) | exact QQ (by simp) (by rfl) (by first | rfl | (simp; done) | (simp; omega)) | exact QS (by first | rfl | simp)), (by first | exact QN rfl | exact QP (by decide) | exact QO | exact QM _ | exact QR (by simp) (by rfl) | exact QQ (by simp) (by rfl) (by first | rfl | (simp; done) | (simp; omega)) | exact QS (by first | rfl | simp)), (by first | exact QN rfl | exact QP (by decide) | exact QO | exact QM _ | exact QR (by simp) (by rfl) | exact QQ (by simp) (by rfl) (by first | rfl | (simp; done) | (simp; omega)) | exact QS (by first | rfl | simp)), (by first | exact QN rfl | exact QP (by decide) | exact QO | exact QM _ | exact QR (by simp) (by rfl) | exact QQ (by simp) (by rfl) (by first | rfl | (simp; done) | (simp; omega)) | exact QS (by first | rfl | simp)), (by first | exact QN rfl | exact QP (by decide) | exact QO | exact QM _ | exact QR (by simp) (by rfl) | exact QQ (by simp) (by rfl) (by first | rfl | (simp; done) | (simp; omega)) | exact QS (by first | rfl | simp)), (by first | exact QN rfl | exact QP (by decide) | exact QO | exact QM _ | exact QR (by simp) (by rfl) | exact QQ (by simp) (by rfl) (by first | rfl | (simp; done) | (simp; omega)) | exact QS (by first | rfl | simp)), (by first | exact QN rfl | exact QP (by decide) | exact QO | exact QM _ | exact QR (by simp) (by rfl) | exact QQ (by simp) (by rfl) (by first | rfl | (simp; done) | (simp; omega)) | exact QS (by first | rfl | simp)), (QS rfl), (by first | exact QN rfl | exact QP (by decide) | exact QO | exact QM _ | exact QR (by simp) (by rfl) | exact QQ (by simp) (by rfl) (by first | rfl | (simp; done) | (simp; omega)) | exact QS (by first | rfl | simp)), trivial⟩
     ·exact ⟨fun _ => ⟨_, rfl, (by first | exact QU (by simp [QK, QL]) | exact QT (by simp) (by simp [QK, QL]))⟩, fun h => by simp at h, fun _ => ⟨_, rfl, (by first | exact QU (by simp [QK, QL]) | exact QT (by simp) (by simp [QK, QL]))⟩, fun h => by simp at h, trivial⟩
     ·simp [wfV, QL, QK, lookR, grow]
     ·exact ⟨by simp [QK, QL, lookR], by simp [QK, QL, lookR], trivial⟩
     rintro m s ⟨w1, w2, hsw, rfl, rfl⟩
     have hswl := congrArg List.length hsw
     simp only [List.length_append] at hswl
     refine QX fun K5 hK5 => ?_
     refine QX fun K6 hK6 => ?_
     refine QW F_mixed [some 66, some 67, some 68, some 69] rfl ?_
     simp only [zzK, Nat.reduceLT, Nat.reduceLeDiff, Nat.reduceBEq, QZ, Qb, zz12, F_sl25, Option.isSome_some, zz21, gr_v, zz22, ints, len_map, zz6, Nat.reduceEqDiff, ↓reduceIte]
     refine hK6 _ ?_; try clear hK6 K6
     refine kpA [1, 2, 3, 4, 9, 11, 12, 13, 14, 15, 69] ?_
     refine cnA ?_ ?_
     ·intro hb
      obtain ⟨x, w22, rfl⟩ : ∃ x t, w2 = x :: t := by
       cases w2 with
       | nil => have := of_decide_eq_true hb; simp at hswl; omega
       | cons x t => exact ⟨x, t, rfl⟩
      clear hb
      simp only [QF] at hswl
      have gx : (ws.map (fun n => [iv n])).getD w1.length [] = [iv x] := by
       rw [hsw, List.map_append]; exact gd_mid' (A := w1.map (fun n => [iv n])) _ _ (by simp)
      have bx := ltI (show w1.length < ws.length by omega)
      have hwx : IntKind.wrap .i64 ((w1.length : Int) + 1) = ((w1 ++ [x]).length : Int) := by rw [wrapI (by omega) (by omega)]; simp
      have hnm : (w1.any (fun x => x == z.ac.who) || x == z.ac.who) = (w1 ++ [x]).any fun x => x == z.ac.who := by simp [List.any_append]
      refine awp_skip ?_
      simp only [zz6, Nat.reduceEqDiff, ↓reduceIte]
      refine hK5 _ ?_; try clear hK5 K5
      refine kpA [1, 2, 3, 4, 9, 11, 12, 13, 14, 15] ?_
      refine QX fun K5 hK5 => ?_
      refine awp_block ?_
      refine awp_draw F_mixed [some 72, some 73, some 74, some 75, some 76, some 77, some 78, some 79, some 80, some 81, some 82, some 14] rfl (by kernel_rfl) ?_
      simp only [zzK, Nat.reduceLT, Nat.reduceLeDiff, Nat.reduceBEq, Nat.reduceSub, Qi, zz5, and_imp, imp_and, imp_self, QZ, evS_indexAddr, zz23, zz24, F_sl25, F_sz3, QA, zzC, yyE, reduceCtorEq, F_ok3, F_ag3, zz8, zzD, Nat.reduceAdd, QH, zzH, zz19, F_off34_0, F_off32_1, zz21, gr_v, zz34, zz13, pickK_l, pickK_r, QY, ints, hnm, gx, bx, hwx, len_map, ge0, Int.toNat_natCast, QJ, zz6, Nat.reduceEqDiff, ↓reduceIte]
      refine hK5 _ ?_; try clear hK5 K5
      refine kpA [1, 2, 3, 4, 9, 11, 12, 13, 14, 15] ?_
      refine QW F_mixed [some 70, some 71, some 15] rfl ?_
      simp only [zzK, Nat.reduceLT, Nat.reduceLeDiff, Nat.reduceBEq, QZ, zz21, gr_v, zz26, QY, hwx, zz6, Nat.reduceEqDiff, ↓reduceIte]
      refine ⟨w22.length, _, by simp, le_SK id [] rfl (l' := [(1, .d (iv c)), (2, .d (iv amt)), (3, .d (ints ws)), (4, .ptr 4 0 0), (9, .d (legs (lvV ⟨nx, l⟩ c amt ws))), (11, .d (iv (bS q))), (12, .d (iv q.length)), (13, .ptr 13 0 0), (14, bv ((w1 ++ [x]).any fun x => x == z.ac.who)), (15, .d (iv (w1 ++ [x]).length))]) (m' := [(4, (⟨True, 24, 2, true, false, 4, [[.d (iv nx), .d (.sl 4 (l.map legC))]]⟩ : ARow)), (13, (⟨True, 34, 4, true, false, 13, [[.d (iv z.ac.kind), .d (iv z.ac.who), .d (iv z.ac.cur), .d (iv z.amt)]]⟩ : ARow))]) ?_ ?_ ?_ ?_, (w1 ++ [x]), w22, by simp [hsw], rfl, rfl⟩
      ·simp only [leV, Qa, Nat.reduceBEq, cond_true, cond_false, hwx, hnm]; exact ⟨(by first | exact QN rfl | exact QP (by decide) | exact QO | exact QM _ | exact QR (by simp) (by rfl) | exact QQ (by simp) (by rfl) (by first | rfl | (simp; done) | (simp; omega)) | exact QS (by first | rfl | simp)), (by first | exact QN rfl | exact QP (by decide) | exact QO | exact QM _ | exact QR (by simp) (by rfl) | exact QQ (by simp) (by rfl) (by first | rfl | (simp; done) | (simp; omega)) | exact QS (by first | rfl | simp)), (by first | exact QN rfl | exact QP (by decide) | exact QO | exact QM _ | exact QR (by simp) (by rfl) | exact QQ (by simp) (by rfl) (by first | rfl | (simp; done) | (simp; omega)) | exact QS (by first | rfl | simp)), (by first | exact QN rfl | exact QP (by decide) | exact QO | exact QM _ | exact QR (by simp) (by rfl) | exact QQ (by simp) (by rfl) (by first | rfl | (simp; done) | (simp; omega)) | exact QS (by first | rfl | simp)), (by first | exact QN rfl | exact QP (by decide) | exact QO | exact QM _ | exact QR (by simp) (by rfl) | exact QQ (by simp) (by rfl) (by first | rfl | (simp; done) | (simp; omega)) | exact QS (by first | rfl | simp)), (by first | exact QN rfl | exact QP (by decide) | exact QO | exact QM _ | exact QR (by simp) (by rfl) | exact QQ (by simp) (by rfl) (by first | rfl | (simp; done) | (simp; omega)) | exact QS (by first | rfl | simp)), (by first | exact QN rfl | exact QP (by decide) | exact QO | exact QM _ | exact QR (by simp) (by rfl) | exact QQ (by simp) (by rfl) (by first | rfl | (simp; done) | (simp; omega)) | exact QS (by first | rfl | simp)), (by first | exact QN rfl | exact QP (by decide) | exact QO | exact QM _ | exact QR (by simp) (by rfl) | exact QQ (by simp) (by rfl) (by first | rfl | (simp; done) | (simp; omega)) | exact QS (by first | rfl | simp)), (by first | exact QN rfl | exact QP (by decide) | exact QO | exact QM _ | exact QR (by simp) (by rfl) | exact QQ (by simp) (by rfl) (by first | rfl | (simp; done) | (simp; omega)) | exact QS (by first | rfl | simp)), (by first | exact QN rfl | exact QP (by decide) | exact QO | exact QM _ | exact QR (by simp) (by rfl) | exact QQ (by simp) (by rfl) (by first | rfl | (simp; done) | (simp; omega)) | exact QS (by first | rfl | simp)), trivial⟩
      ·exact ⟨fun _ => ⟨_, rfl, (by first | exact QU (by simp [QK, QL]) | exact QT (by simp) (by simp [QK, QL]))⟩, fun h => by simp at h, fun _ => ⟨_, rfl, (by first | exact QU (by simp [QK, QL]) | exact QT (by simp) (by simp [QK, QL]))⟩, fun h => by simp at h, trivial⟩
      ·simp [wfV, QL, QK, lookR, grow]
      ·exact ⟨by simp [QK, QL, lookR], by simp [QK, QL, lookR], trivial⟩
     ·intro hb
      obtain rfl : w2 = [] := by
       cases w2 with
       | nil => rfl
       | cons x t => have := of_decide_eq_false hb; simp at hswl; omega
      clear hb
      simp only [List.append_nil] at hsw
      subst hsw
      have hnt : (ws.any fun x => x == z.ac.who) = true := List.any_eq_true.2 ⟨z.ac.who, gw, by simp⟩
      refine awp_exit ?_
      simp only [zz6, Nat.reduceEqDiff, ↓reduceIte]
      refine hK3 _ ?_; try clear hK3 K3
      refine kpA [1, 2, 3, 4, 9, 11, 12, 13, 14] ?_
      refine QX fun K3 hK3 => ?_
      refine QX fun K4 hK4 => ?_
      refine awp_draw F_mixed [some 83, some 84, some 85, some 86, some 87, some 88, some 89, some 90, some 91, some 92, some 93, some 94, some 95, some 96, some 97, some 98, some 99, some 100, some 101, some 102, some 103, some 104, some 105, some 106, some 107, some 108, some 109, some 110, some 111, some 112] rfl (by kernel_rfl) ?_
      simp only [zzK, Nat.reduceLT, Nat.reduceLeDiff, Nat.reduceBEq, Nat.reduceSub, Qi, zz5, and_imp, imp_and, imp_self, zz19, zz23, F_off34_0, zzH, QH, Nat.reduceAdd, F_off32_0, F_ok3, F_ag3, F_sz3, zz8, zzD, zzC, QA, yyE, reduceCtorEq, zz21, gr_v, zz28, QZ, F_off32_2, zz13, pickK_l, pickK_r, zz29, zz30, F_off34_1, zz31, zz37, F_ok24, F_ag24, F_sz24, F_ok32, F_ag32, F_sz32, Qb, Qc, zz25, ledC, legs, acC, hkb, hcb, hnt, hg0, hng, hng2, hgo, QJ, Bool.not_true, Bool.not_false, zz6, Nat.reduceEqDiff, ↓reduceIte]
      refine call_go F_go10 (fun hG => rOf_ nx l z.ac (by omega)) (by simp [QL, QK]) (by simp) ?_
      simp only [zzK, Nat.reduceLT, Nat.reduceLeDiff, Nat.reduceBEq, Nat.reduceSub, Qi, zz5, and_imp, imp_and, imp_self, zz19, zz23, F_off34_0, zzH, QH, Nat.reduceAdd, F_off32_0, F_ok3, F_ag3, F_sz3, zz8, zzD, zzC, QA, yyE, reduceCtorEq, zz21, gr_v, zz28, QZ, F_off32_2, zz13, pickK_l, pickK_r, zz29, zz30, F_off34_1, zz31, zz37, F_ok24, F_ag24, F_sz24, F_ok32, F_ag32, F_sz32, Qb, Qc, zz25, ledC, legs, acC, hkb, hcb, hnt, hg0, hng, hng2, hgo, QJ, Bool.not_true, Bool.not_false, zz6, Nat.reduceEqDiff, ↓reduceIte, atsL, oksG, freeN, AV.ren, AV.renL, addRows, ORow.row, Nat.reduceMul, Nat.reduceAdd, zz9, QB, QA, S_mem, yyF, QF, zz2]
      refine hK4 _ ?_; try clear hK4 K4
      refine kpA [1, 2, 3, 4, 9, 11, 12, 13, 112] ?_
      refine cnA ?_ ?_
      ·intro hb
       exfalso
       simp [hkb, hcb, hnt, hg0, hng, hng2, hgo] at hb
      ·intro hb
       clear hb
       refine awp_skip ?_
       simp only [zz6, Nat.reduceEqDiff, ↓reduceIte]
       refine hK3 _ ?_; try clear hK3 K3
       refine kpA [1, 2, 3, 4, 9, 11, 12, 13] ?_
       refine QW F_mixed [some 113, some 114, some 115, some 116, some 11] rfl ?_
       simp only [zzK, Nat.reduceLT, Nat.reduceLeDiff, Nat.reduceBEq, QZ, zz19, zz23, F_off34_1, zzH, QH, Nat.reduceAdd, F_ok3, F_ag3, F_sz3, zz8, zzD, zzC, QA, yyE, reduceCtorEq, zz21, gr_v, zz33, QY, hst, zz6, Nat.reduceEqDiff, ↓reduceIte]
       refine hK2 _ ?_; try clear hK2 K2
       refine kpA [1, 2, 3, 4, 9, 11, 12] ?_
       refine QW F_mixed [some 45, some 46, some 12] rfl ?_
       simp only [zzK, Nat.reduceLT, Nat.reduceLeDiff, Nat.reduceBEq, QZ, zz21, gr_v, zz26, QY, hwz, zz6, Nat.reduceEqDiff, ↓reduceIte]
       refine ⟨r2.length, _, by simp, le_SK id [] rfl (l' := [(1, .d (iv c)), (2, .d (iv amt)), (3, .d (ints ws)), (4, .ptr 4 0 0), (9, .d (legs (lvV ⟨nx, l⟩ c amt ws))), (11, .d (iv (bS (q ++ [z])))), (12, .d (iv (q ++ [z]).length))]) (m' := [(4, (⟨True, 24, 2, true, false, 4, [[.d (iv nx), .d (.sl 4 (l.map legC))]]⟩ : ARow))]) ?_ ?_ ?_ ?_, (q ++ [z]), r2, by simp [hsq], rfl, rfl⟩
       ·simp only [leV, Qa, Nat.reduceBEq, cond_true, cond_false, hwz, hst]; exact ⟨(by first | exact QN rfl | exact QP (by decide) | exact QO | exact QM _ | exact QR (by simp) (by rfl) | exact QQ (by simp) (by rfl) (by first | rfl | (simp; done) | (simp; omega)) | exact QS (by first | rfl | simp)), (by first | exact QN rfl | exact QP (by decide) | exact QO | exact QM _ | exact QR (by simp) (by rfl) | exact QQ (by simp) (by rfl) (by first | rfl | (simp; done) | (simp; omega)) | exact QS (by first | rfl | simp)), (by first | exact QN rfl | exact QP (by decide) | exact QO | exact QM _ | exact QR (by simp) (by rfl) | exact QQ (by simp) (by rfl) (by first | rfl | (simp; done) | (simp; omega)) | exact QS (by first | rfl | simp)), (by first | exact QN rfl | exact QP (by decide) | exact QO | exact QM _ | exact QR (by simp) (by rfl) | exact QQ (by simp) (by rfl) (by first | rfl | (simp; done) | (simp; omega)) | exact QS (by first | rfl | simp)), (by first | exact QN rfl | exact QP (by decide) | exact QO | exact QM _ | exact QR (by simp) (by rfl) | exact QQ (by simp) (by rfl) (by first | rfl | (simp; done) | (simp; omega)) | exact QS (by first | rfl | simp)), (by first | exact QN rfl | exact QP (by decide) | exact QO | exact QM _ | exact QR (by simp) (by rfl) | exact QQ (by simp) (by rfl) (by first | rfl | (simp; done) | (simp; omega)) | exact QS (by first | rfl | simp)), (by first | exact QN rfl | exact QP (by decide) | exact QO | exact QM _ | exact QR (by simp) (by rfl) | exact QQ (by simp) (by rfl) (by first | rfl | (simp; done) | (simp; omega)) | exact QS (by first | rfl | simp)), trivial⟩
       ·exact ⟨fun _ => ⟨_, rfl, (by first | exact QU (by simp [QK, QL]) | exact QT (by simp) (by simp [QK, QL]))⟩, fun h => by simp at h, trivial⟩
       ·simp [wfV, QL, QK, lookR, grow]
       ·exact ⟨by simp [QK, QL, lookR], trivial⟩
   ·intro hb
    obtain rfl : r = [] := by
     cases r with
     | nil => rfl
     | cons x t => have := of_decide_eq_false hb; simp at hsql; omega
    clear hb
    simp only [List.append_nil] at hsq
    have hq := hsq.symm
    subst hq
    have hbe := lv_bears (s := ⟨nx, l⟩) he
    refine awp_exit ?_
    simp only [zz6, Nat.reduceEqDiff, ↓reduceIte]
    refine hK0 _ ?_; try clear hK0 K0
    refine kpA [2, 4, 9, 11] ?_
    refine QX fun K0 hK0 => ?_
    refine QX fun K1 hK1 => ?_
    refine QW F_mixed [some 117, some 118, some 119] rfl ?_
    simp only [zzK, Nat.reduceLT, Nat.reduceLeDiff, Nat.reduceBEq, QZ, zz21, gr_v, zz28, hbe, zz6, Nat.reduceEqDiff, ↓reduceIte]
    refine hK1 _ ?_; try clear hK1 K1
    refine kpA [2, 4, 9, 119] ?_
    refine cnA ?_ ?_
    ·intro hb
     exfalso
     simp [hbe] at hb
    ·intro hb
     clear hb
     refine awp_skip ?_
     simp only [zz6, Nat.reduceEqDiff, ↓reduceIte]
     refine hK0 _ ?_; try clear hK0 K0
     refine kpA [2, 4, 9] ?_
     refine QX fun K0 hK0 => ?_
     refine QX fun K1 hK1 => ?_
     refine QW F_mixed [some 120, some 121] rfl ?_
     simp only [zzK, Nat.reduceLT, Nat.reduceLeDiff, Nat.reduceBEq, QZ, zz21, gr_v, zz34, zz6, Nat.reduceEqDiff, ↓reduceIte]
     refine hK1 _ ?_; try clear hK1 K1
     refine kpA [4, 9, 121] ?_
     refine cnA ?_ ?_
     ·intro hb
      have ha0 : amt = 0 := by simpa using hb
      clear hb
      have hv0 : (lvV ⟨nx, l⟩ c amt ws) = [] := by rw [ha0] at he ⊢; exact lv_nil he
      refine QX fun K2 hK2 => ?_
      refine QW F_mixed [some 122, some 123, some 124, some 125, some 126, some 127, some 8] rfl ?_
      simp only [zzK, Nat.reduceLT, Nat.reduceLeDiff, Nat.reduceBEq, Nat.reduceSub, Qi, zz5, and_imp, imp_and, imp_self, and_self, QZ, Qb, zz12, F_sl26, Option.isSome_some, zz21, gr_v, zz34, Qc, zz13, pickK_l, pickK_r, QY, legs, len_map, hv0, List.length_nil, zz6, Nat.reduceEqDiff, ↓reduceIte]
      refine call_go F_go9 (fun hG => wakes21_) (by simp [QL, QK]) (by simp) ?_
      simp only [zzK, Nat.reduceLT, Nat.reduceLeDiff, Nat.reduceBEq, Nat.reduceSub, Qi, zz5, and_imp, imp_and, imp_self, and_self, QZ, Qb, zz12, F_sl26, Option.isSome_some, zz21, gr_v, zz34, Qc, zz13, pickK_l, pickK_r, QY, legs, len_map, hv0, zz6, Nat.reduceEqDiff, ↓reduceIte, atsL, oksG, freeN, AV.ren, AV.renL, addRows, ORow.row, Nat.reduceMul, Nat.reduceAdd, zz9, QB, QA, zzC, yyF, zzD, zz2]
      refine hK2 _ ?_; try clear hK2 K2
      refine kpA [8] ?_
      refine awp_ret ?_
      simp only [zz6, Nat.reduceEqDiff, ↓reduceIte]
      refine dnA ?_
      simp only [QD, List.map_nil, resA, Qi, Nat.reduceLT, Nat.reduceLeDiff, Qa, Nat.reduceBEq, cond_true, cond_false, resAll]
      try rfl
     ·intro hb
      have ha : amt ≠ 0 := by simpa using hb
      clear hb
      have h0 : 0 ≤ nx := (lv_facts he).good.last
      have hid : ¬ (IntKind.wrap .i64 (nx + 1)) ≤ nx ∨ idBad (IntKind.wrap .i64 (nx + 1)) = true := by
       rcases Decidable.em (nx = 9223372036854775807) with h | h
       ·right; rw [h]; decide
       ·left; rw [wrapI (by omega) (by omega)]; omega
      have hp := lv_post he ha (IntKind.wrap .i64 (nx + 1)) hid
      have hpb : (postE ⟨nx, l⟩ (IntKind.wrap .i64 (nx + 1)) (lvV ⟨nx, l⟩ c amt ws) == 0 || postE ⟨nx, l⟩ (IntKind.wrap .i64 (nx + 1)) (lvV ⟨nx, l⟩ c amt ws) == 1 || postE ⟨nx, l⟩ (IntKind.wrap .i64 (nx + 1)) (lvV ⟨nx, l⟩ c amt ws) == 3) = true := by
       rcases hp with h | h | h
       ·rw [h]; rfl
       ·rw [h]; rfl
       ·rw [h.1]; rfl
      clear hp hid
      refine awp_skip ?_
      simp only [zz6, Nat.reduceEqDiff, ↓reduceIte]
      refine hK0 _ ?_; try clear hK0 K0
      refine kpA [4, 9] ?_
      refine QX fun K0 hK0 => ?_
      refine QW F_mixed [some 129, some 130, some 131, some 132, some 133, some 134, some 128, some 135, some 136, some 10] rfl ?_
      simp only [zzK, Nat.reduceLT, Nat.reduceLeDiff, Nat.reduceBEq, F_ok24, F_ag24, F_sz24, zz8, zz23, zzD, Nat.reduceAdd, QH, zzH, zzC, QA, yyE, reduceCtorEq, zz19, F_off24_0, F_ok3, F_ag3, F_sz3, zz21, gr_v, zz26, QZ, Qb, Qc, zz14, QY, ledC, legs, ledC, legs, QJ, zz6, Nat.reduceEqDiff, ↓reduceIte]
      refine call_go F_go11 (fun hG => rPostF nx (IntKind.wrap .i64 (nx + 1)) l (lvV ⟨nx, l⟩ c amt ws) (by omega) (by omega)) (by simp [QL, QK]) (by simp) ?_
      simp only [zzK, Nat.reduceLT, Nat.reduceLeDiff, Nat.reduceBEq, F_ok24, F_ag24, F_sz24, zz8, zz23, zzD, Nat.reduceAdd, QH, zzH, zzC, QA, yyE, reduceCtorEq, zz19, F_off24_0, F_ok3, F_ag3, F_sz3, zz21, gr_v, zz26, QZ, Qb, Qc, zz14, QY, ledC, legs, ledC, legs, QJ, zz6, Nat.reduceEqDiff, ↓reduceIte, atsL, oksG, freeN, AV.ren, AV.renL, addRows, ORow.row, Nat.reduceMul, Nat.reduceAdd, zz9, QB, QA, S_mem, yyF, QF, zz2]
      refine hK0 _ ?_; try clear hK0 K0
      refine kpA [10] ?_
      refine QX fun K0 hK0 => ?_
      refine QW F_mixed [some 137, some 138, some 139, some 140, some 141, some 142, some 143, some 144, some 145, some 146, some 147, some 148, some 149, some 8] rfl ?_
      simp only [zzK, Nat.reduceLT, Nat.reduceLeDiff, Nat.reduceBEq, Nat.reduceSub, Qi, zz5, and_imp, imp_and, imp_self, and_self, QZ, zz21, gr_v, zz34, zz13, pickK_l, pickK_r, Qb, Qc, QY, hpb, zz6, Nat.reduceEqDiff, ↓reduceIte]
      refine call_go F_go9 (fun hG => wakes21_) (by simp [QL, QK]) (by simp) ?_
      simp only [zzK, Nat.reduceLT, Nat.reduceLeDiff, Nat.reduceBEq, Nat.reduceSub, Qi, zz5, and_imp, imp_and, imp_self, and_self, QZ, zz21, gr_v, zz34, zz13, pickK_l, pickK_r, Qb, Qc, QY, hpb, zz6, Nat.reduceEqDiff, ↓reduceIte, atsL, oksG, freeN, AV.ren, AV.renL, addRows, ORow.row, Nat.reduceMul, Nat.reduceAdd, zz9, QB, QA, zzC, yyF, zzD, zz2]
      refine hK0 _ ?_; try clear hK0 K0
      refine kpA [8] ?_
      refine awp_ret ?_
      simp only [zz6, Nat.reduceEqDiff, ↓reduceIte]
      refine dnA ?_
      simp only [QD, List.map_nil, resA, Qi, Nat.reduceLT, Nat.reduceLeDiff, Qa, Nat.reduceBEq, cond_true, cond_false, resAll]
      try simp [hpb]
end Go.Proofs.Ytjkfadaedgidpaa
