import Derived.Test.YtjkfadaedgidpaaGreatWpR
import Derived.Test.YtjkfadaedgidpaaGreatWpQ
namespace Go.Proofs.YtjkfadaedgidpaaGreat
open Go.RowKit
set_option linter.unusedVariables false
set_option linter.unusedSimpArgs false
open Option renaming map_some → QA, bind_some → QB
open List renaming length_append → QC, map_cons → QD, map_nil → QE, length_cons → QF, append_nil → QG
open Nat renaming zero_add → QN, reduceEqDiff → QO, reduceLeDiff → QP, reduceBEq → QQ, reduceLT → QR, reduceAdd → QS, reduceMul → QT, reduceSub → QU
open Int renaming toNat_natCast → QV
open D.agg renaming injEq → QW
open AV renaming idsL → QX, ids → QY, ren → QZ, renL → Qa
open _root_ renaming reduceIte → Qb, cond_false → Qc, cond_true → Qd, reduceCtorEq → Qe, of_decide_eq_false → Qf, of_decide_eq_true → Qg
open IntKind renaming wrap → Ql
open ORow renaming row → Qm
open VLe renaming refE → Qr
open RowLe renaming data_ → Qw
open Go.Proofs.YtjkfadaedgidpaaGreat renaming awp_seq → JA, evS_assign → JB, evS_move → JC, look_cons → JD, evS_call → JE, evC_value → JF, awp_block → JH, awp_skip → JI, awp_ret → JJ, awp_exit → JK, awp_loop → JL, gr_v → JM, len_map → JN, addRows → JO, resAll → JP, newRow1 → JS, freeN → JV, evS_indexAddr → JW, S_getD → JZ, flatA → Ja, flatAs → Jb, flatD → Jc
theorem F_go46 : goFn Tryz.prog 46 := ⟨_, Tryz.func46, rfl, rfl⟩
theorem F_ok29 : tyOk Tryz.prog 29 = true := by kernel_rfl
theorem F_ag29 : aggT Tryz.prog 29 = true := by kernel_rfl
theorem F_sz29 : szT Tryz.prog 29 = 3 := by kernel_rfl
theorem F_go83 : goFn Tryz.prog 83 := ⟨_, Tryz.func83, rfl, rfl⟩
theorem F_go31 : goFn Tryz.prog 31 := ⟨_, Tryz.func31, rfl, rfl⟩
theorem F_go32 : goFn Tryz.prog 32 := ⟨_, Tryz.func32, rfl, rfl⟩
theorem F_go34 : goFn Tryz.prog 34 := ⟨_, Tryz.func34, rfl, rfl⟩
theorem F_go37 : goFn Tryz.prog 37 := ⟨_, Tryz.func37, rfl, rfl⟩
theorem F_go38 : goFn Tryz.prog 38 := ⟨_, Tryz.func38, rfl, rfl⟩
theorem F_go85 : goFn Tryz.prog 85 := ⟨_, Tryz.func85, rfl, rfl⟩
theorem F_go86 : goFn Tryz.prog 86 := ⟨_, Tryz.func86, rfl, rfl⟩
theorem F_go48 : goFn Tryz.prog 48 := ⟨_, Tryz.func48, rfl, rfl⟩
theorem F_go9 : goFn Tryz.prog 9 := ⟨_, Tryz.func9, rfl, rfl⟩
theorem F_go40 : goFn Tryz.prog 40 := ⟨_, Tryz.func40, rfl, rfl⟩
theorem F_go11 : goFn Tryz.prog 11 := ⟨_, Tryz.func11, rfl, rfl⟩
theorem rIn19_ (n lo hi : Int) : ACalls Tryz.prog 85 [iv n, iv lo, iv hi] [] (bv (inR n lo hi)) := by
 refine acalls_S (rs := [.tmp 6]) Tryz.func85 rfl rfl 15 [(0, .d (iv n)), (1, .d (iv lo)), (2, .d (iv hi))] rfl (by simp) rfl ?_
 refine pq fun K0 hK0 => ?_
 simp only [zzK, QR, QP, QQ, JB, zz6, QO, ↓Qb]
 refine kK hK0 [0, 1, 2] ?_
 refine JA fun K0 hK0 => ?_
 refine awp_plain F_mixed [some 7, some 8, some 9, some 10, some 11, some 12, some 13, some 14, some 6] rfl ?_
 simp only [zzK, QR, QP, QQ, QU, JZ, zz5, and_imp, imp_and, imp_self, and_self, JC, zz21, JM, zz31, b_leq, pure_leq, zz13, pickK_l, pickK_r, JB, zz6, QO, ↓Qb]
 refine kK hK0 [6] ?_
 refine JJ ?_
 simp only [zz6, QO, ↓Qb]
 refine dnA ?_
 simp only [QD, QE, resA, JZ, QR, QP, JD, QQ, Qd, Qc, JP]
 rfl
theorem named_ (c : Int) (l : List Int) (hl : l.length ≤ 400000) : ACalls Tryz.prog 32 [iv c, ints l] [] (bv (whosOk l && curOk c)) := by
 refine acalls_S (rs := [.tmp 4]) Tryz.func32 rfl rfl 36 [(0, .d (iv c)), (1, .d (ints l))] rfl (by simp) rfl ?_
 refine pq fun K0 hK0 => ?_
 simp only [zzK, QR, QP, QQ, JB, zz6, QO, ↓Qb]
 refine kK hK0 [0, 1] ?_
 refine JA fun K0 hK0 => ?_
 refine pq fun K1 hK1 => ?_
 simp only [zzK, QR, QP, QQ, JB, zz6, QO, ↓Qb]
 refine kK hK1 [0, 1, 5] ?_
 refine JH ?_
 refine JL (fun m s => ∃ (i : Nat), (i ≤ l.length) ∧ (whosTo l i = true) ∧ m = l.length - i ∧ s = S 36 [(0, .d (iv c)), (1, .d (ints l)), (5, .d (iv ((i : Nat) : Int)))] []) (l.length) _ (leK id []) ⟨0, Nat.zero_le _, rfl, rfl, rfl⟩ ?_
 rintro m s ⟨i, hil, hw, rfl, rfl⟩
 refine JA fun K2 hK2 => ?_
 refine pq fun K3 hK3 => ?_
 simp only [zzK, QR, QP, QQ, JC, JE, zz12, F_sl30, Option.isSome_some, zz21, JM, zz22, ints, JN, zz6, QO, ↓Qb]
 refine kK hK3 [0, 1, 5, 9] ?_
 refine cnA ?_ ?_
 ·intro hb
  have hi : i < l.length := by have := Qg hb; omega
  clear hb
  have hwi : Ql .i64 ((i : Int) + 1) = ((i + 1 : Nat) : Int) := wrapI (by omega) (by omega)
  have hwm : Ql .i64 ((i : Int) - 1) = (i : Int) - 1 := wrapI (by omega) (by omega)
  have htn : ((i : Int) - 1).toNat = i - 1 := by omega
  have gi := intsD_get (p := l) hi
  have gj := intsD_get (p := l) (k := i - 1) (by omega)
  have bi := ltI hi
  have cj := eq_true (show i - 1 < l.length by omega)
  have dj := eq_true (show (i : Int) - 1 < (l.length : Int) by omega)
  refine JI ?_
  simp only [zz6, QO, ↓Qb]
  refine kK hK2 [0, 1, 5] ?_
  refine JA fun K2 hK2 => ?_
  refine JH ?_
  refine JA fun K3 hK3 => ?_
  refine awp_draw F_mixed [some 12, some 13, some 14, some 15, some 16, some 17, some 18, some 19, some 20, some 21, some 22, some 23, some 24, some 25, some 26, some 27, some 28, some 29, some 30, some 31, some 32, some 33] rfl (by kernel_rfl) ?_
  simp only [zzK, QR, QP, QQ, QU, JZ, zz5, and_imp, imp_and, imp_self, JC, JW, zz23, zz24, F_sl30, F_sz3, QA, zzC, yyE, Qe, F_ok3, F_ag3, zz8, zzD, QS, QN, zzH, JE, JF, zz29, JM, zz30, zz21, zz25, zz33, zz31, zz13, pickK_l, pickK_r, ints, JN, gi, bi, hwm, htn, gj, cj, dj, ge0, QV, zz6, QO, ↓Qb]
  refine cgA F_go66 (fun hG => rWho_ (l.getD i 0)) ?_
  simp only [zzK, QR, QP, QQ, QU, JZ, zz5, and_imp, imp_and, imp_self, JC, JW, zz23, zz24, F_sl30, F_sz3, QA, zzC, yyE, Qe, F_ok3, F_ag3, zz8, zzD, QS, QN, zzH, JE, JF, zz29, JM, zz30, zz21, zz25, zz33, zz31, zz13, pickK_l, pickK_r, ints, JN, gi, bi, hwm, htn, gj, cj, dj, ge0, QV, zz6, QO, ↓Qb, atsL, oksG, JV, QZ, Qa, JO, Qm, QT, QS, zz9, QB, QA, S_mem, yyF, QF, zz2]
  try refine And.intro (by repeat' (first | apply And.intro | intro _); all_goals (first | assumption | (simp_all; omega))) ?_
  refine kK hK3 [0, 1, 5, 33] ?_
  refine cnA ?_ ?_
  ·intro hb
   have hx : whoBad l i = true := by rw [who_in]; exact hb
   clear hb
   refine pq fun K4 hK4 => ?_
   simp only [zzK, QR, QP, QQ, JB, zz6, QO, ↓Qb]
   refine kK hK4 [4] ?_
   refine JJ ?_
   simp only [zz6, QO, ↓Qb]
   refine dnA ?_
   simp only [QD, QE, resA, JZ, QR, QP, JD, QQ, Qd, Qc, JP]
   rw [whos_no hi hx]; rfl
  ·intro hb
   have hx : whoBad l i = false := by rw [who_in]; exact hb
   clear hb
   refine JI ?_
   simp only [zz6, QO, ↓Qb]
   refine kK hK2 [0, 1, 5] ?_
   refine pz ?_
   simp only [zzK, QR, QP, QQ, JC, zz21, JM, zz26, JB, hwi, zz6, QO, ↓Qb]
   refine ⟨l.length - (i + 1), _, by omega, leK id [], (i + 1), by omega, by rw [whosTo_succ, hw, hx]; rfl, rfl, rfl⟩
 ·intro hb
  obtain rfl : i = l.length := by have := Qf hb; omega
  clear hb
  refine JK ?_
  simp only [zz6, QO, ↓Qb]
  refine kK hK0 [0] ?_
  refine pq fun K0 hK0 => ?_
  simp only [zzK, QR, QP, QQ, JC, JE, JF, JB, zz6, QO, ↓Qb]
  refine cgA F_go42 (fun hG => rCur_ c) ?_
  simp only [zzK, QR, QP, QQ, JC, JE, JF, JB, zz6, QO, ↓Qb, atsL, oksG, JV, QZ, Qa, JO, Qm, QT, QS, zz9, QB, QA, zzC, yyF, zzD, zz2]
  refine kK hK0 [4] ?_
  refine JJ ?_
  simp only [zz6, QO, ↓Qb]
  refine dnA ?_
  simp only [QD, QE, resA, JZ, QR, QP, JD, QQ, Qd, Qc, JP]
  rw [show whosOk l = true from hw, cur_in]; rfl
theorem owned19_ (nx : Int) (l : List LegV) (c : Int) (ws : List Int) (hl : l.length ≤ 400000) (hw : ws.length ≤ 400000) : ACalls Tryz.prog 34 [.agg (ledC ⟨nx, l⟩), iv c, ints ws] [⟨3, 1, (shV c l ws).map fun n => [iv n]⟩] (.ref 0 (shV c l ws).length) := by
 refine acalls_S (rs := [.tmp 6]) Tryz.func34 rfl rfl 27 [(0, .d (.agg (ledC ⟨nx, l⟩))), (1, .d (iv c)), (2, .d (ints ws))] rfl (by simp) rfl ?_
 refine pq fun K0 hK0 => ?_
 simp only [zzK, QR, QP, QQ, zz35, JS, zz1, zzG, zzD, zzC, QA, yyE, Qe, QS, QN, zzH, JB, ledC, legs, zz6, QO, ↓Qb]
 refine kK hK0 [1, 2, 3] ?_
 refine pq fun K0 hK0 => ?_
 simp only [zzK, QR, QP, QQ, JB, zz6, QO, ↓Qb]
 refine kK hK0 [1, 2, 3, 7] ?_
 refine JA fun K0 hK0 => ?_
 refine pq fun K1 hK1 => ?_
 simp only [zzK, QR, QP, QQ, JB, zz6, QO, ↓Qb]
 refine kK hK1 [1, 2, 3, 7, 8] ?_
 refine JH ?_
 refine JL (fun m s => ∃ (pre : List Int) (post : List Int), (ws = pre ++ post) ∧ m = post.length ∧ s = S 27 [(1, .d (iv c)), (2, .d (ints ws)), (3, .ptr 3 0 0), (7, .ref 7 (shV c l pre).length), (8, .d (iv pre.length))] [(3, (⟨True, 24, 2, true, false, 3, [[.d (iv nx), .d (.sl 4 (l.map legC))]]⟩ : ARow)), (7, grow 3 1 7 ((shV c l pre).map fun n => [iv n]))]) (ws.length) _ (leK id [7]) ⟨[], ws, rfl, rfl, rfl⟩ ?_
 rintro m s ⟨pre, post, hsp, rfl, rfl⟩
 have hspl := congrArg List.length hsp
 simp only [QC] at hspl
 have hvl := shV_len c l pre
 refine JA fun K2 hK2 => ?_
 refine pq fun K3 hK3 => ?_
 simp only [zzK, QR, QP, QQ, JC, JE, zz12, F_sl30, Option.isSome_some, zz21, JM, zz22, ints, JN, zz6, QO, ↓Qb]
 refine kK hK3 [1, 2, 3, 7, 8, 12] ?_
 refine cnA ?_ ?_
 ·intro hb
  obtain ⟨x, post2, rfl⟩ : ∃ x t, post = x :: t := by
   cases post with
   | nil => have := Qg hb; simp at hspl; omega
   | cons x t => exact ⟨x, t, rfl⟩
  clear hb
  simp only [QF] at hspl
  have gx : (ws.map (fun n => [iv n])).getD pre.length [] = [iv x] := by
   rw [hsp, List.map_append]; exact gd_mid' (A := pre.map (fun n => [iv n])) _ _ (by simp)
  have bx := ltI (show pre.length < ws.length by omega)
  have hwx : Ql .i64 ((pre.length : Int) + 1) = ((pre ++ [x]).length : Int) := by rw [wrapI (by omega) (by omega)]; simp
  refine JI ?_
  simp only [zz6, QO, ↓Qb]
  refine kK hK2 [1, 2, 3, 7, 8] ?_
  refine JA fun K2 hK2 => ?_
  refine JH ?_
  refine awp_draw F_mixed [some 15, some 16, some 17, some 18, some 19, some 20, some 21, some 22, some 23, some 24, some 25, some 7] rfl (by kernel_rfl) ?_
  simp only [zzK, QR, QP, QQ, JC, F_ok24, F_ag24, F_sz24, zz8, zz23, zzD, QS, QN, zzH, zzC, QA, yyE, Qe, JW, zz24, F_sl30, F_sz3, F_ok3, F_ag3, F_zero73, F_bld73, zz7, splice, Option.getD_some, QG, zz1, zzG, zz10, F_fld73_0, F_fld73_1, F_fld73_2, JE, JF, F_zero3, zz3, JS, maxLen_le, QT, F_by3, zz4, zz9, QB, JB, ints, ledC, legs, acC, fAc, grow, unDs_map, gx, bx, hwx, JN, ge0, QV, QW, zz6, QO, ↓Qb]
  refine cgA F_go46 (fun hG => rOf_ nx l (fAc 3 x c) (by omega)) ?_
  simp only [zzK, QR, QP, QQ, JC, F_ok24, F_ag24, F_sz24, zz8, zz23, zzD, QS, QN, zzH, zzC, QA, yyE, Qe, JW, zz24, F_sl30, F_sz3, F_ok3, F_ag3, F_zero73, F_bld73, zz7, splice, Option.getD_some, QG, zz1, zzG, zz10, F_fld73_0, F_fld73_1, F_fld73_2, JE, JF, F_zero3, zz3, JS, maxLen_le, QT, F_by3, zz4, zz9, QB, JB, ints, ledC, legs, acC, fAc, grow, unDs_map, gx, bx, hwx, JN, ge0, QV, QW, zz6, QO, ↓Qb, atsL, oksG, JV, QZ, Qa, JO, Qm, QT, QS, unDs_cons, QB, QA, S_mem, yyF, QF, zz2]
  have hm : (shV c l pre).length + 1 ≤ 1000000 := by first | omega | (simp; omega)
  first | refine ⟨le_maxLen hm, by omega, ?_⟩ | refine ⟨by simp, le_maxLen hm, by omega, ?_⟩
  clear hm
  refine kK hK2 [1, 2, 3, 7, 8] ?_
  refine pz ?_
  simp only [zzK, QR, QP, QQ, JC, zz21, JM, zz26, JB, hwx, zz6, QO, ↓Qb]
  refine ⟨post2.length, _, by simp, leK (fun r => bif r == 7 then 25 else r) [] (hl := by simp only [leV, JD, QQ, Qd, Qc, hwx]; exact ⟨vA, vA, vA, (Qr (by simp) (by rfl) (by rw [shV_snoc]; simp)), vA, trivial⟩) (hr := by exact ⟨fun _ => ⟨_, rfl, rA⟩, (by simp), fun _ => ⟨_, rfl, Qw (by rw [shV_snoc]; simp [fAc])⟩, (by simp), trivial⟩), (pre ++ [x]), post2, by simp [hsp], rfl, rfl⟩
 ·intro hb
  obtain rfl : post = [] := by
   cases post with
   | nil => rfl
   | cons x t => have := Qf hb; simp at hspl; omega
  clear hb
  simp only [QG] at hsp
  subst hsp
  refine JK ?_
  simp only [zz6, QO, ↓Qb]
  refine kK hK0 [7] ?_
  refine pq fun K0 hK0 => ?_
  simp only [zzK, QR, QP, QQ, JC, JB, grow, zz6, QO, ↓Qb]
  refine kK hK0 [6] ?_
  refine JJ ?_
  simp only [zz6, QO, ↓Qb]
  refine done1 7 (by simp only [resCs, resC]; trivial) ?_ (by simp [Ja, Jb, Jc]) (by simp [QY, QX]) (by rfl) trivial rfl rfl ?_ (by simp [flatDs, Jc])
  ·simp only [QD, QE, resA, JZ, QR, QP, JD, QQ, Qd, Qc, JP]; rfl
  ·rfl
theorem ownedF (nx : Int) (l : List LegV) (c : Int) (ws : List Int) (hl : l.length ≤ 400000) (hw : ws.length ≤ 400000) : ACalls Tryz.prog 34 [.agg (ledC ⟨nx, l⟩), iv c, ints ws] [] (.d (ints (shV c l ws))) := (owned19_ nx l c ws hl hw).freeze (by simp [frzOk])
theorem rnd_ (r : RollV) (ws : List Int) (hm : r.mems.length ≤ 400000) (hw : ws.length ≤ 400000) : ACalls Tryz.prog 38 [.agg (rollC r), ints ws] [⟨3, 1, (ndV r ws).map fun n => [iv n]⟩] (.ref 0 (ndV r ws).length) := by
 refine acalls_S (rs := [.tmp 4]) Tryz.func38 rfl rfl 30 [(0, .d (.agg (rollC r))), (1, .d (ints ws))] rfl (by simp) rfl ?_
 refine pq fun K0 hK0 => ?_
 simp only [zzK, QR, QP, QQ, zz35, JS, zz1, zzG, zzD, zzC, QA, yyE, Qe, QS, QN, zzH, JB, rollC, memsD, instsD, assetsD, zz6, QO, ↓Qb]
 refine kK hK0 [1, 2] ?_
 refine pq fun K0 hK0 => ?_
 simp only [zzK, QR, QP, QQ, JB, zz6, QO, ↓Qb]
 refine kK hK0 [1, 2, 5] ?_
 refine JA fun K0 hK0 => ?_
 refine pq fun K1 hK1 => ?_
 simp only [zzK, QR, QP, QQ, JB, zz6, QO, ↓Qb]
 refine kK hK1 [1, 2, 5, 6] ?_
 refine JH ?_
 refine JL (fun m s => ∃ (pre : List Int) (post : List Int), (ws = pre ++ post) ∧ m = post.length ∧ s = S 30 [(1, .d (ints ws)), (2, .ptr 2 0 0), (5, .ref 5 (ndV r pre).length), (6, .d (iv pre.length))] [(2, (⟨True, 29, 3, true, false, 2, [[.d (.sl 3 (r.mems.map memC)), .d (.sl 12 (r.insts.map instC)), .d (.sl 4 (r.assets.map assetC))]]⟩ : ARow)), (5, grow 3 1 5 ((ndV r pre).map fun n => [iv n]))]) (ws.length) _ (leK id [5]) ⟨[], ws, rfl, rfl, rfl⟩ ?_
 rintro m s ⟨pre, post, hsp, rfl, rfl⟩
 have hspl := congrArg List.length hsp
 simp only [QC] at hspl
 have hvl := ndV_len r pre
 refine JA fun K2 hK2 => ?_
 refine pq fun K3 hK3 => ?_
 simp only [zzK, QR, QP, QQ, JC, JE, zz12, F_sl30, Option.isSome_some, zz21, JM, zz22, ints, JN, zz6, QO, ↓Qb]
 refine kK hK3 [1, 2, 5, 6, 12] ?_
 refine cnA ?_ ?_
 ·intro hb
  obtain ⟨x, post2, rfl⟩ : ∃ x t, post = x :: t := by
   cases post with
   | nil => have := Qg hb; simp at hspl; omega
   | cons x t => exact ⟨x, t, rfl⟩
  clear hb
  simp only [QF] at hspl
  have gx : (ws.map (fun n => [iv n])).getD pre.length [] = [iv x] := by
   rw [hsp, List.map_append]; exact gd_mid' (A := pre.map (fun n => [iv n])) _ _ (by simp)
  have bx := ltI (show pre.length < ws.length by omega)
  have hwx : Ql .i64 ((pre.length : Int) + 1) = ((pre ++ [x]).length : Int) := by rw [wrapI (by omega) (by omega)]; simp
  refine JI ?_
  simp only [zz6, QO, ↓Qb]
  refine kK hK2 [1, 2, 5, 6] ?_
  refine JA fun K2 hK2 => ?_
  refine JH ?_
  refine JA fun K3 hK3 => ?_
  refine awp_draw F_mixed [some 16, some 17, some 18, some 19, some 20, some 21, some 15, some 22, some 23, some 7, none, some 8] rfl (by kernel_rfl) ?_
  simp only [zzK, QR, QP, QQ, F_ok29, F_ag29, F_sz29, zz8, zz23, zzD, QS, QN, zzH, zzC, QA, yyE, Qe, JC, JW, zz24, F_sl30, F_sz3, F_ok3, F_ag3, JE, JF, zz14, zz32, JS, F_zero77, zz10, zz18, F_ok77, F_sz77, splice, QG, zz1, zzG, JB, ints, memsD, instsD, assetsD, rollC, QW, memA, memC, instA, instC, QD, gx, bx, hwx, JN, ge0, QV, QW, zz6, QO, ↓Qb]
  refine call_go F_go83 (fun hG => rMember_ r.mems r.insts r.assets x (by omega)) (by simp [QY, QX, memA, memC, instA, instC]) (by simp) ?_
  simp only [zzK, QR, QP, QQ, F_ok29, F_ag29, F_sz29, zz8, zz23, zzD, QS, QN, zzH, zzC, QA, yyE, Qe, JC, JW, zz24, F_sl30, F_sz3, F_ok3, F_ag3, JE, JF, zz14, zz32, JS, F_zero77, zz10, zz18, F_ok77, F_sz77, splice, QG, zz1, zzG, JB, ints, memsD, instsD, assetsD, rollC, QW, memA, memC, instA, instC, QD, gx, bx, hwx, JN, ge0, QV, QW, zz6, QO, ↓Qb, atsL, oksG, JV, QZ, Qa, JO, Qm, QT, QS, zz9, QB, QA, S_mem, yyF, QF, zz2]
  refine kK hK3 [1, 2, 5, 6, 7] ?_
  refine pz ?_
  simp only [zzK, QR, QP, QQ, JC, zz19, zz23, F_off77_2, zzH, QN, QS, F_ok3, F_ag3, F_sz3, zz8, zzD, zzC, QA, yyE, Qe, F_sl30, F_zero3, zz3, JS, zz1, zzG, maxLen_le, QT, JE, F_by3, zz4, zz9, QB, JB, memsD, instsD, assetsD, rollC, QW, memA, memC, instA, instC, QD, grow, unDs_map, zz6, QO, ↓Qb]
  have hm : (ndV r pre).length + 1 ≤ 1000000 := by first | omega | (simp; omega)
  first | refine ⟨le_maxLen hm, by omega, ?_⟩ | refine ⟨by simp, le_maxLen hm, by omega, ?_⟩
  clear hm
  refine kK hK2 [1, 2, 5, 6] ?_
  refine pz ?_
  simp only [zzK, QR, QP, QQ, JC, zz21, JM, zz26, JB, hwx, zz6, QO, ↓Qb]
  refine ⟨post2.length, _, by simp, leK (fun r => bif r == 5 then 28 else r) [] (hl := by simp only [leV, JD, QQ, Qd, Qc, hwx]; exact ⟨vA, vA, (Qr (by simp) (by rfl) (by rw [ndV_snoc]; simp)), vA, trivial⟩) (hr := by exact ⟨fun _ => ⟨_, rfl, rA⟩, (by simp), fun _ => ⟨_, rfl, Qw (by rw [ndV_snoc]; simp)⟩, (by simp), trivial⟩), (pre ++ [x]), post2, by simp [hsp], rfl, rfl⟩
 ·intro hb
  obtain rfl : post = [] := by
   cases post with
   | nil => rfl
   | cons x t => have := Qf hb; simp at hspl; omega
  clear hb
  simp only [QG] at hsp
  subst hsp
  refine JK ?_
  simp only [zz6, QO, ↓Qb]
  refine kK hK0 [5] ?_
  refine pq fun K0 hK0 => ?_
  simp only [zzK, QR, QP, QQ, JC, JB, grow, zz6, QO, ↓Qb]
  refine kK hK0 [4] ?_
  refine JJ ?_
  simp only [zz6, QO, ↓Qb]
  refine done1 5 (by simp only [resCs, resC]; trivial) ?_ (by simp [Ja, Jb, Jc]) (by simp [QY, QX]) (by rfl) trivial rfl rfl ?_ (by simp [flatDs, Jc])
  ·simp only [QD, QE, resA, JZ, QR, QP, JD, QQ, Qd, Qc, JP]; rfl
  ·rfl
theorem rndF (r : RollV) (ws : List Int) (hm : r.mems.length ≤ 400000) (hw : ws.length ≤ 400000) : ACalls Tryz.prog 38 [.agg (rollC r), ints ws] [] (.d (ints (ndV r ws))) := (rnd_ r ws hm hw).freeze (by simp [frzOk])
theorem rShares_ (nx : Int) (l : List LegV) (c : Int) (ws : List Int) (hl : l.length ≤ 400000) (hw : ws.length ≤ 400000) : ACalls Tryz.prog 9 [.agg (ledC ⟨nx, l⟩), iv c, ints ws] [] (.tp [.d (iv (shN ⟨nx, l⟩ c ws)), .d (iv (shE ⟨nx, l⟩ c ws))]) := by
 refine acalls_S (rs := [.tmp 6, .tmp 7]) Tryz.func9 rfl rfl 28 [(0, .d (.agg (ledC ⟨nx, l⟩))), (1, .d (iv c)), (2, .d (ints ws))] rfl (by simp) rfl ?_
 refine pq fun K0 hK0 => ?_
 simp only [zzK, QR, QP, QQ, zz35, JS, zz1, zzG, zzD, zzC, QA, yyE, Qe, QS, QN, zzH, JB, ledC, legs, zz6, QO, ↓Qb]
 refine kK hK0 [1, 2, 3] ?_
 refine JA fun K0 hK0 => ?_
 refine pq fun K1 hK1 => ?_
 simp only [zzK, QR, QP, QQ, F_ok24, F_ag24, F_sz24, zz8, zz23, zzD, QS, QN, zzH, zzC, QA, yyE, Qe, JE, JF, zz29, JM, zz30, ledC, legs, QW, zz6, QO, ↓Qb]
 refine cgA F_go31 (fun hG => rLed0_ nx l (by omega)) ?_
 simp only [zzK, QR, QP, QQ, F_ok24, F_ag24, F_sz24, zz8, zz23, zzD, QS, QN, zzH, zzC, QA, yyE, Qe, JE, JF, zz29, JM, zz30, ledC, legs, QW, zz6, QO, ↓Qb, atsL, oksG, JV, QZ, Qa, JO, Qm, QT, QS, zz9, QB, QA, S_mem, yyF, QF, zz2]
 refine kK hK1 [1, 2, 3, 12] ?_
 refine cnA ?_ ?_
 ·intro hb
  have ho : ledOk ⟨nx, l⟩ = false := by simpa using hb
  clear hb
  obtain ⟨o1, o2⟩ := led_bad ho
  refine pq fun K2 hK2 => ?_
  simp only [zzK, QR, QP, QQ, JB, zz6, QO, ↓Qb]
  refine kK hK2 [6, 7] ?_
  refine JJ ?_
  simp only [zz6, QO, ↓Qb]
  refine dnA ?_
  simp only [QD, QE, resA, JZ, QR, QP, JD, QQ, Qd, Qc, JP]
  rw [show shN ⟨nx, l⟩ c ws = 0 by simp [shN, o2], show shE ⟨nx, l⟩ c ws = 14 by simp [shE, o2]]
 ·intro hb
  have ho : ledOk ⟨nx, l⟩ = true := by simpa using hb
  clear hb
  obtain ⟨o1, o2⟩ := led_ok ho
  refine JI ?_
  simp only [zz6, QO, ↓Qb]
  refine kK hK0 [1, 2, 3] ?_
  refine JA fun K0 hK0 => ?_
  refine pq fun K1 hK1 => ?_
  simp only [zzK, QR, QP, QQ, JC, JE, JF, zz29, JM, zz30, ints, zz6, QO, ↓Qb]
  refine cgA F_go32 (fun hG => named_ c ws (by omega)) ?_
  simp only [zzK, QR, QP, QQ, JC, JE, JF, zz29, JM, zz30, ints, zz6, QO, ↓Qb, atsL, oksG, JV, QZ, Qa, JO, Qm, QT, QS, zz9, QB, QA, zzC, yyF, zzD, zz2]
  refine kK hK1 [1, 2, 3, 16] ?_
  refine cnA ?_ ?_
  ·intro hb
   have hs : shBad c ws = true := by rw [sh_bad]; exact hb
   clear hb
   refine pq fun K2 hK2 => ?_
   simp only [zzK, QR, QP, QQ, JB, zz6, QO, ↓Qb]
   refine kK hK2 [6, 7] ?_
   refine JJ ?_
   simp only [zz6, QO, ↓Qb]
   refine dnA ?_
   simp only [QD, QE, resA, JZ, QR, QP, JD, QQ, Qd, Qc, JP]
   rw [show shN ⟨nx, l⟩ c ws = 0 by simp only [shN, o1, hs, Qd, Qc], show shE ⟨nx, l⟩ c ws = 3 by simp only [shE, o1, hs, Qd, Qc]]
  ·intro hb
   have hs : shBad c ws = false := by rw [sh_bad]; exact hb
   clear hb
   have hcw : curOk c = true ∧ whosOk ws = true := by simpa [shBad] using hs
   have hW := sh_w ho hcw.2 hcw.1
   obtain ⟨s1, s2, s3⟩ := sum_all hW
   simp only at hW s1 s2 s3
   refine JI ?_
   simp only [zz6, QO, ↓Qb]
   refine kK hK0 [1, 2, 3] ?_
   refine pq fun K0 hK0 => ?_
   simp only [zzK, QR, QP, QQ, F_ok24, F_ag24, F_sz24, zz8, zz23, zzD, QS, QN, zzH, zzC, QA, yyE, Qe, JC, JE, JF, zz14, JB, ledC, legs, ints, QW, zz6, QO, ↓Qb]
   refine cgA F_go34 (fun hG => ownedF nx l c ws hl hw) ?_
   simp only [zzK, QR, QP, QQ, F_ok24, F_ag24, F_sz24, zz8, zz23, zzD, QS, QN, zzH, zzC, QA, yyE, Qe, JC, JE, JF, zz14, JB, ledC, legs, ints, QW, zz6, QO, ↓Qb, atsL, oksG, JV, QZ, Qa, JO, Qm, QT, QS, zz9, QB, QA, S_mem, yyF, QF, zz2]
   refine cgA F_go33 (fun hG => Add_ (shV c l ws) (by rw [shV_len]; omega) (fun x hx => by have := hW x hx; omega)) ?_
   simp only [zzK, QR, QP, QQ, F_ok24, F_ag24, F_sz24, zz8, zz23, zzD, QS, QN, zzH, zzC, QA, yyE, Qe, JC, JE, JF, zz14, JB, ledC, legs, ints, QW, zz6, QO, ↓Qb, atsL, oksG, JV, QZ, Qa, JO, Qm, QT, QS, zz9, QB, QA, S_mem, yyF, QF, zz2]
   refine kK hK0 [8, 9] ?_
   refine JA fun K0 hK0 => ?_
   refine pq fun K1 hK1 => ?_
   simp only [zzK, QR, QP, QQ, JC, zz29, JM, zz30, zz6, QO, ↓Qb]
   refine kK hK1 [8, 26] ?_
   refine cnA ?_ ?_
   ·intro hb
    have hr : rightN (shV c l ws).sum = false := by simpa using hb
    clear hb
    have e1 : shN ⟨nx, l⟩ c ws = 0 := by simp only [shN, o1, hs, Qc, s1, hr]
    have e2 : shE ⟨nx, l⟩ c ws = 1 := by simp only [shE, o1, hs, Qc, s2 hr]
    refine pq fun K2 hK2 => ?_
    simp only [zzK, QR, QP, QQ, JB, zz6, QO, ↓Qb]
    refine kK hK2 [6, 7] ?_
    refine JJ ?_
    simp only [zz6, QO, ↓Qb]
    refine dnA ?_
    simp only [QD, QE, resA, JZ, QR, QP, JD, QQ, Qd, Qc, JP]
    rw [e1, e2]
   ·intro hb
    have hr : rightN (shV c l ws).sum = true := by simpa using hb
    clear hb
    have e1 : shN ⟨nx, l⟩ c ws = (shV c l ws).sum := by simp only [shN, o1, hs, Qc, s1, hr, Qd]
    have e2 : shE ⟨nx, l⟩ c ws = 0 := by simp only [shE, o1, hs, Qc, s3 hr]
    refine JI ?_
    simp only [zz6, QO, ↓Qb]
    refine kK hK0 [8] ?_
    refine pq fun K0 hK0 => ?_
    simp only [zzK, QR, QP, QQ, JC, JB, zz6, QO, ↓Qb]
    refine kK hK0 [6, 7] ?_
    refine JJ ?_
    simp only [zz6, QO, ↓Qb]
    refine dnA ?_
    simp only [QD, QE, resA, JZ, QR, QP, JD, QQ, Qd, Qc, JP]
    rw [e1, e2, hr]; rfl
theorem rNeeds_ (r : RollV) (ws : List Int) (h : r.Small) (hm : r.mems.length ≤ 400000) (hw : ws.length ≤ 400000) : ACalls Tryz.prog 11 [.agg (rollC r), ints ws] [] (.tp [.d (iv (nsN r ws)), .d (iv (nsE r ws))]) := by
 refine acalls_S (rs := [.tmp 4, .tmp 5]) Tryz.func11 rfl rfl 24 [(0, .d (.agg (rollC r))), (1, .d (ints ws))] rfl (by simp) rfl ?_
 refine pq fun K0 hK0 => ?_
 simp only [zzK, QR, QP, QQ, zz35, JS, zz1, zzG, zzD, zzC, QA, yyE, Qe, QS, QN, zzH, JB, rollC, memsD, instsD, assetsD, zz6, QO, ↓Qb]
 refine kK hK0 [1, 2] ?_
 refine JA fun K0 hK0 => ?_
 refine pq fun K1 hK1 => ?_
 simp only [zzK, QR, QP, QQ, F_ok29, F_ag29, F_sz29, zz8, zz23, zzD, QS, QN, zzH, zzC, QA, yyE, Qe, JE, JF, zz29, JM, zz30, rollC, memsD, instsD, assetsD, QW, zz6, QO, ↓Qb]
 refine cgA F_go37 (fun hG => rRoll_ r h) ?_
 simp only [zzK, QR, QP, QQ, F_ok29, F_ag29, F_sz29, zz8, zz23, zzD, QS, QN, zzH, zzC, QA, yyE, Qe, JE, JF, zz29, JM, zz30, rollC, memsD, instsD, assetsD, QW, zz6, QO, ↓Qb, atsL, oksG, JV, QZ, Qa, JO, Qm, QT, QS, zz9, QB, QA, S_mem, yyF, QF, zz2]
 refine kK hK1 [1, 2, 10] ?_
 refine cnA ?_ ?_
 ·intro hb
  have ho : rollOk r = false := by simpa using hb
  clear hb
  obtain ⟨o1, o2⟩ := roll_bad ho
  refine pq fun K2 hK2 => ?_
  simp only [zzK, QR, QP, QQ, JB, zz6, QO, ↓Qb]
  refine kK hK2 [4, 5] ?_
  refine JJ ?_
  simp only [zz6, QO, ↓Qb]
  refine dnA ?_
  simp only [QD, QE, resA, JZ, QR, QP, JD, QQ, Qd, Qc, JP]
  rw [show nsN r ws = 0 by simp [nsN, o2], show nsE r ws = 14 by simp [nsE, o2]]
 ·intro hb
  have ho : rollOk r = true := by simpa using hb
  clear hb
  obtain ⟨o1, o2⟩ := roll_ok ho
  refine JI ?_
  simp only [zz6, QO, ↓Qb]
  refine kK hK0 [1, 2] ?_
  refine JA fun K0 hK0 => ?_
  refine pq fun K1 hK1 => ?_
  simp only [zzK, QR, QP, QQ, JC, JE, JF, zz29, JM, zz30, ints, zz6, QO, ↓Qb]
  refine cgA F_go32 (fun hG => named_ 0 ws (by omega)) ?_
  simp only [zzK, QR, QP, QQ, JC, JE, JF, zz29, JM, zz30, ints, zz6, QO, ↓Qb, atsL, oksG, JV, QZ, Qa, JO, Qm, QT, QS, zz9, QB, QA, zzC, yyF, zzD, zz2]
  refine kK hK1 [1, 2, 13] ?_
  refine cnA ?_ ?_
  ·intro hb
   have hs : whosOk ws = false := by simpa [curOk] using hb
   clear hb
   refine pq fun K2 hK2 => ?_
   simp only [zzK, QR, QP, QQ, JB, zz6, QO, ↓Qb]
   refine kK hK2 [4, 5] ?_
   refine JJ ?_
   simp only [zz6, QO, ↓Qb]
   refine dnA ?_
   simp only [QD, QE, resA, JZ, QR, QP, JD, QQ, Qd, Qc, JP]
   rw [show nsN r ws = 0 by simp only [nsN, o1, hs, Qd, Qc, Bool.not_true, Bool.not_false], show nsE r ws = 3 by simp only [nsE, o1, hs, Qd, Qc, Bool.not_true, Bool.not_false]]
  ·intro hb
   have hs : whosOk ws = true := by simpa [curOk] using hb
   clear hb
   have hW := nd_w (ws := ws) ho
   obtain ⟨s1, s2, s3⟩ := sum_all hW
   refine JI ?_
   simp only [zz6, QO, ↓Qb]
   refine kK hK0 [1, 2] ?_
   refine pq fun K0 hK0 => ?_
   simp only [zzK, QR, QP, QQ, F_ok29, F_ag29, F_sz29, zz8, zz23, zzD, QS, QN, zzH, zzC, QA, yyE, Qe, JC, JE, JF, zz14, JB, rollC, memsD, instsD, assetsD, QW, ints, zz6, QO, ↓Qb]
   refine cgA F_go38 (fun hG => rndF r ws hm hw) ?_
   simp only [zzK, QR, QP, QQ, F_ok29, F_ag29, F_sz29, zz8, zz23, zzD, QS, QN, zzH, zzC, QA, yyE, Qe, JC, JE, JF, zz14, JB, rollC, memsD, instsD, assetsD, QW, ints, zz6, QO, ↓Qb, atsL, oksG, JV, QZ, Qa, JO, Qm, QT, QS, zz9, QB, QA, S_mem, yyF, QF, zz2]
   refine cgA F_go33 (fun hG => Add_ (ndV r ws) (by rw [ndV_len]; omega) (fun x hx => by have := hW x hx; omega)) ?_
   simp only [zzK, QR, QP, QQ, F_ok29, F_ag29, F_sz29, zz8, zz23, zzD, QS, QN, zzH, zzC, QA, yyE, Qe, JC, JE, JF, zz14, JB, rollC, memsD, instsD, assetsD, QW, ints, zz6, QO, ↓Qb, atsL, oksG, JV, QZ, Qa, JO, Qm, QT, QS, zz9, QB, QA, S_mem, yyF, QF, zz2]
   refine kK hK0 [6, 7] ?_
   refine JA fun K0 hK0 => ?_
   refine pq fun K1 hK1 => ?_
   simp only [zzK, QR, QP, QQ, JC, zz29, JM, zz30, zz6, QO, ↓Qb]
   refine kK hK1 [6, 22] ?_
   refine cnA ?_ ?_
   ·intro hb
    have hr : rightN (ndV r ws).sum = false := by simpa using hb
    clear hb
    have e1 : nsN r ws = 0 := by simp only [nsN, o1, hs, Qc, s1, hr, Bool.not_true]
    have e2 : nsE r ws = 1 := by simp only [nsE, o1, hs, Qc, s2 hr, Bool.not_true]
    refine pq fun K2 hK2 => ?_
    simp only [zzK, QR, QP, QQ, JB, zz6, QO, ↓Qb]
    refine kK hK2 [4, 5] ?_
    refine JJ ?_
    simp only [zz6, QO, ↓Qb]
    refine dnA ?_
    simp only [QD, QE, resA, JZ, QR, QP, JD, QQ, Qd, Qc, JP]
    rw [e1, e2]
   ·intro hb
    have hr : rightN (ndV r ws).sum = true := by simpa using hb
    clear hb
    have e1 : nsN r ws = (ndV r ws).sum := by simp only [nsN, o1, hs, Qc, s1, hr, Qd, Bool.not_true]
    have e2 : nsE r ws = 0 := by simp only [nsE, o1, hs, Qc, s3 hr, Bool.not_true]
    refine JI ?_
    simp only [zz6, QO, ↓Qb]
    refine kK hK0 [6] ?_
    refine pq fun K0 hK0 => ?_
    simp only [zzK, QR, QP, QQ, JC, JB, zz6, QO, ↓Qb]
    refine kK hK0 [4, 5] ?_
    refine JJ ?_
    simp only [zz6, QO, ↓Qb]
    refine dnA ?_
    simp only [QD, QE, resA, JZ, QR, QP, JD, QQ, Qd, Qc, JP]
    rw [e1, e2, hr]; rfl
set_option maxRecDepth 100000 in
set_option maxHeartbeats 4000000 in
theorem rborne_ (k c amt most : Int) (ws wg : List Int) (hw : ws.length ≤ 400000) (hg : wg.length = ws.length) (hS : amtBad amt = false → decide (amt > most) = false → splitE amt wg = 0) : ACalls Tryz.prog 40 [iv k, iv c, iv amt, iv most, ints ws, ints wg] [⟨75, 4, (boV k c amt most ws wg).map legC⟩] (.tp [.ref 0 (boV k c amt most ws wg).length, .d (iv (boE k c amt most ws wg))]) := by
 refine acalls_S (rs := [.tmp 12, .tmp 13]) Tryz.func40 rfl rfl 61 [(0, .d (iv k)), (1, .d (iv c)), (2, .d (iv amt)), (3, .d (iv most)), (4, .d (ints ws)), (5, .d (ints wg))] rfl (by simp) rfl ?_
 refine pq fun K0 hK0 => ?_
 simp only [zzK, QR, QP, QQ, JB, zz6, QO, ↓Qb]
 refine kK hK0 [0, 1, 2, 3, 4, 5] ?_
 refine JA fun K0 hK0 => ?_
 refine pq fun K1 hK1 => ?_
 simp only [zzK, QR, QP, QQ, JC, JE, JF, zz29, JM, zz30, zz6, QO, ↓Qb]
 refine cgA F_go85 (fun hG => rIn19_ amt 0 4611686018427387904) ?_
 simp only [zzK, QR, QP, QQ, JC, JE, JF, zz29, JM, zz30, zz6, QO, ↓Qb, atsL, oksG, JV, QZ, Qa, JO, Qm, QT, QS, zz9, QB, QA, zzC, yyF, zzD, zz2]
 refine kK hK1 [0, 1, 2, 3, 4, 5, 20] ?_
 refine cnA ?_ ?_
 ·intro hb
  have ha : amtBad amt = true := by rw [amt_in] at hb; simpa using hb
  clear hb
  refine pq fun K2 hK2 => ?_
  simp only [zzK, QR, QP, QQ, JB, zz6, QO, ↓Qb]
  refine kK hK2 [12, 13] ?_
  refine awp_le (leK id [0] (l' := [(12, .ref 0 0), (13, .d (iv 3))]) (m' := [(0, (⟨True, 75, 4, true, true, 0, []⟩ : ARow))])) ?_
  refine JJ ?_
  simp only [zz6, QO, ↓Qb]
  rw [show boV k c amt most ws wg = [] by simp only [boV, ha, Qd, Qc], show boE k c amt most ws wg = 3 by simp only [boE, ha, Qd, Qc]]
  refine done1 0 (by simp only [resCs, resC]; trivial) ?_ (by simp [Ja, Jb, Jc, legC]) (by simp [QY, QX, legC]) (by rfl) trivial rfl rfl ?_ (by simp [flatDs, Jc, legC])
  ·simp only [QD, QE, resA, JZ, QR, QP, JD, QQ, Qd, Qc, JP]; rfl
  ·rfl
 ·intro hb
  have ha : amtBad amt = false := by rw [amt_in] at hb; simpa using hb
  clear hb
  refine JI ?_
  simp only [zz6, QO, ↓Qb]
  refine kK hK0 [0, 1, 2, 3, 4, 5] ?_
  refine JA fun K0 hK0 => ?_
  refine pq fun K1 hK1 => ?_
  simp only [zzK, QR, QP, QQ, JC, zz21, JM, zz25, zz6, QO, ↓Qb]
  refine kK hK1 [0, 1, 2, 4, 5, 23] ?_
  refine cnA ?_ ?_
  ·intro hb
   have hm : decide (amt > most) = true := hb
   clear hb
   refine pq fun K2 hK2 => ?_
   simp only [zzK, QR, QP, QQ, JB, zz6, QO, ↓Qb]
   refine kK hK2 [12, 13] ?_
   refine awp_le (leK id [0] (l' := [(12, .ref 0 0), (13, .d (iv 13))]) (m' := [(0, (⟨True, 75, 4, true, true, 0, []⟩ : ARow))])) ?_
   refine JJ ?_
   simp only [zz6, QO, ↓Qb]
   rw [show boV k c amt most ws wg = [] by simp only [boV, ha, hm, Qd, Qc], show boE k c amt most ws wg = 13 by simp only [boE, ha, hm, Qd, Qc]]
   refine done1 0 (by simp only [resCs, resC]; trivial) ?_ (by simp [Ja, Jb, Jc, legC]) (by simp [QY, QX, legC]) (by rfl) trivial rfl rfl ?_ (by simp [flatDs, Jc, legC])
   ·simp only [QD, QE, resA, JZ, QR, QP, JD, QQ, Qd, Qc, JP]; rfl
   ·rfl
  ·intro hb
   have hm : decide (amt > most) = false := hb
   clear hb
   have hs2 := hS ha hm
   have hs : (splitE amt wg != 0) = false := by simp [hs2]
   refine JI ?_
   simp only [zz6, QO, ↓Qb]
   refine kK hK0 [0, 1, 2, 4, 5] ?_
   refine pq fun K0 hK0 => ?_
   simp only [zzK, QR, QP, QQ, JC, JE, JF, zz14, zzD, QS, QN, zzF, JB, ints, zz6, QO, ↓Qb]
   refine cgA F_go86 (fun hG => rSplitF amt wg (by omega)) ?_
   simp only [zzK, QR, QP, QQ, JC, JE, JF, zz14, zzD, QS, QN, zzF, JB, ints, zz6, QO, ↓Qb, atsL, oksG, JV, QZ, Qa, JO, Qm, QT, QS, zz9, QB, QA, zzC, yyF, QF, zz2]
   refine kK hK0 [0, 1, 2, 4, 14] ?_
   refine pq fun K0 hK0 => ?_
   simp only [zzK, QR, QP, QQ, JC, F_zero73, F_bld73, zz7, splice, Option.getD_some, QG, zz1, zzG, zzD, zzC, QA, yyE, Qe, QS, QN, zzH, zz10, F_fld73_0, F_fld73_2, F_zero75, F_bld75, F_fld75_0, F_fld75_1, F_sl41, F_sz75, zz3, JS, maxLen_le, QT, JB, grow, zz6, QO, ↓Qb]
   refine kK hK0 [0, 1, 4, 14, 16] ?_
   refine JA fun K0 hK0 => ?_
   refine pq fun K1 hK1 => ?_
   simp only [zzK, QR, QP, QQ, JB, zz6, QO, ↓Qb]
   refine kK hK1 [0, 1, 4, 14, 16, 17] ?_
   refine JH ?_
   refine JL (fun m s => ∃ (i : Nat), (i ≤ (splitV amt wg).length) ∧ m = (splitV amt wg).length - i ∧ s = S 61 [(0, .d (iv k)), (1, .d (iv c)), (4, .d (ints ws)), (14, .d (ints (splitV amt wg))), (16, .ref 16 (bAll k c amt ws (splitV amt wg) i).length), (17, .d (iv ((i : Nat) : Int)))] [(16, grow 75 4 16 ((bAll k c amt ws (splitV amt wg) i).map legC))]) ((splitV amt wg).length) _ (leK (fun r => bif r == 16 then 34 else r) [] (hl := by simp only [leV, JD, QQ, Qd, Qc]; exact ⟨vA, vA, vA, vA, (Qr (by simp) (by rfl) (by rfl)), (VLe.dE rfl), trivial⟩) (hr := by exact ⟨fun _ => ⟨_, rfl, (by exact RowLe.uq2 (by simp [bAll, bTl, lossL, fAc, legC]) (by simp) (by simp [QX, QY]))⟩, (by simp), trivial⟩)) ⟨0, Nat.zero_le _, rfl, rfl⟩ ?_
   rintro m s ⟨i, hil, rfl, rfl⟩
   have hbl := bAll_len k c amt ws (splitV amt wg) i
   have hsv := splitV_any amt wg
   refine JA fun K2 hK2 => ?_
   refine pq fun K3 hK3 => ?_
   simp only [zzK, QR, QP, QQ, JC, JE, zz12, F_sl30, Option.isSome_some, zz21, JM, zz22, ints, JN, zz6, QO, ↓Qb]
   refine kK hK3 [0, 1, 4, 14, 16, 17, 38] ?_
   refine cnA ?_ ?_
   ·intro hb
    have hi : i < (splitV amt wg).length := by have := Qg hb; omega
    clear hb
    have hwi : Ql .i64 ((i : Int) + 1) = ((i + 1 : Nat) : Int) := wrapI (by omega) (by omega)
    have hiw : i < ws.length := by omega
    have gi := intsD_get (p := splitV amt wg) hi
    have gw := intsD_get (p := ws) hiw
    have bi := ltI hi
    have bw := ltI hiw
    refine JI ?_
    simp only [zz6, QO, ↓Qb]
    refine kK hK2 [0, 1, 4, 14, 16, 17] ?_
    refine JA fun K2 hK2 => ?_
    refine JH ?_
    refine awp_draw F_mixed [some 41, some 42, some 43, some 44, some 45, some 46, some 47, some 48, some 49, some 50, some 51, some 52, some 53, some 54, some 55, some 56, some 16] rfl (by kernel_rfl) ?_
    simp only [zzK, QR, QP, QQ, JC, JW, zz23, zz24, F_sl30, F_sz3, QA, zzC, yyE, Qe, F_ok3, F_ag3, zz8, zzD, QS, QN, zzH, F_zero73, F_bld73, zz7, splice, Option.getD_some, QG, zz1, zzG, zz10, F_fld73_0, F_fld73_1, F_fld73_2, zz29, JM, zz37, F_zero75, F_bld75, F_fld75_0, F_fld75_1, F_sl41, F_sz75, zz3, JS, maxLen_le, QT, JE, F_by75, zz4, zz9, QB, JB, ints, JN, gi, bi, gw, bw, ge0, QV, grow, unDs_map, QW, zz6, QO, ↓Qb]
    have hm : (bAll k c amt ws (splitV amt wg) i).length + 1 ≤ 1000000 := by first | omega | (simp; omega)
    first | refine ⟨le_maxLen hm, by omega, ?_⟩ | refine ⟨by simp, le_maxLen hm, by omega, ?_⟩
    clear hm
    refine kK hK2 [0, 1, 4, 14, 16, 17] ?_
    refine pz ?_
    simp only [zzK, QR, QP, QQ, JC, zz21, JM, zz26, JB, hwi, zz6, QO, ↓Qb]
    refine ⟨(splitV amt wg).length - (i + 1), _, by omega, leK (fun r => bif r == 16 then 56 else r) [] (hl := by simp only [leV, JD, QQ, Qd, Qc, hwi]; exact ⟨vA, vA, vA, vA, (Qr (by simp) (by rfl) (by rw [bAll_succ]; simp)), vA, trivial⟩) (hr := by exact ⟨fun _ => ⟨_, rfl, Qw (by rw [bAll_succ]; simp [bLeg, fAc, legC, ngW])⟩, (by simp), trivial⟩), (i + 1), by omega, rfl, rfl⟩
   ·intro hb
    obtain rfl : i = (splitV amt wg).length := by have := Qf hb; omega
    clear hb
    have e1 : boV k c amt most ws wg = joinV (boL k c amt ws (splitV amt wg)) := by simp only [boV, ha, hm, hs, Qc]
    have e2 : boE k c amt most ws wg = joinR (boL k c amt ws (splitV amt wg)) := by simp only [boE, ha, hm, hs, Qc]
    refine JK ?_
    simp only [zz6, QO, ↓Qb]
    refine kK hK0 [16] ?_
    refine pq fun K0 hK0 => ?_
    simp only [zzK, QR, QP, QQ, JC, JE, JF, zz14, zzD, QS, QN, zzF, JB, legs, grow, boL, JN, zz6, QO, ↓Qb]
    refine cgA F_go48 (fun hG => rJoin_ (boL k c amt ws (splitV amt wg)) (by rw [boL, hbl]; omega)) ?_
    simp only [zzK, QR, QP, QQ, JC, JE, JF, zz14, zzD, QS, QN, zzF, JB, legs, grow, boL, JN, zz6, QO, ↓Qb, atsL, oksG, JV, QZ, Qa, JO, Qm, QT, QS, zz9, QB, QA, zzC, yyF, QF, zz2]
    refine kK hK0 [12, 13] ?_
    refine JJ ?_
    simp only [zz6, QO, ↓Qb]
    rw [e1, e2]
    refine done1 59000 (by simp only [resCs, resC]; trivial) ?_ (by simp [Ja, Jb, Jc, legC]) (by simp [QY, QX, legC]) (by rfl) trivial rfl rfl ?_ (by simp [flatDs, Jc, legC])
    ·simp only [QD, QE, resA, JZ, QR, QP, JD, QQ, Qd, Qc, JP]; rfl
    ·rfl
theorem rLevy_ (nx : Int) (l : List LegV) (c amt : Int) (ws : List Int) (hl : l.length ≤ 400000) (hw : ws.length ≤ 400000) : ACalls Tryz.prog 13 [.agg (ledC ⟨nx, l⟩), iv c, iv amt, ints ws] [⟨75, 4, (lvV ⟨nx, l⟩ c amt ws).map legC⟩] (.tp [.ref 0 (lvV ⟨nx, l⟩ c amt ws).length, .d (iv (lvE ⟨nx, l⟩ c amt ws))]) := by
 refine acalls_S (rs := [.tmp 8, .tmp 9]) Tryz.func13 rfl rfl 33 [(0, .d (.agg (ledC ⟨nx, l⟩))), (1, .d (iv c)), (2, .d (iv amt)), (3, .d (ints ws))] rfl (by simp) rfl ?_
 refine pq fun K0 hK0 => ?_
 simp only [zzK, QR, QP, QQ, zz35, JS, zz1, zzG, zzD, zzC, QA, yyE, Qe, QS, QN, zzH, JB, ledC, legs, zz6, QO, ↓Qb]
 refine kK hK0 [1, 2, 3, 4] ?_
 refine pq fun K0 hK0 => ?_
 simp only [zzK, QR, QP, QQ, F_ok24, F_ag24, F_sz24, zz8, zz23, zzD, QS, QN, zzH, zzC, QA, yyE, Qe, JC, JE, JF, zz14, JB, ledC, legs, ints, QW, zz6, QO, ↓Qb]
 refine cgA F_go9 (fun hG => rShares_ nx l c ws hl hw) ?_
 simp only [zzK, QR, QP, QQ, F_ok24, F_ag24, F_sz24, zz8, zz23, zzD, QS, QN, zzH, zzC, QA, yyE, Qe, JC, JE, JF, zz14, JB, ledC, legs, ints, QW, zz6, QO, ↓Qb, atsL, oksG, JV, QZ, Qa, JO, Qm, QT, QS, zz9, QB, QA, S_mem, yyF, QF, zz2]
 refine kK hK0 [1, 2, 3, 4, 10, 11] ?_
 refine JA fun K0 hK0 => ?_
 refine pq fun K1 hK1 => ?_
 simp only [zzK, QR, QP, QQ, JC, zz21, JM, zz28, zz6, QO, ↓Qb]
 refine kK hK1 [1, 2, 3, 4, 10, 11, 20] ?_
 refine cnA ?_ ?_
 ·intro hb
  have he : (shE ⟨nx, l⟩ c ws != 0) = true := hb
  clear hb
  refine pq fun K2 hK2 => ?_
  simp only [zzK, QR, QP, QQ, JC, JB, zz6, QO, ↓Qb]
  refine kK hK2 [8, 9] ?_
  refine awp_le (leK id [0] (l' := [(8, .ref 0 0), (9, .d (iv (shE ⟨nx, l⟩ c ws)))]) (m' := [(0, (⟨True, 75, 4, true, true, 0, []⟩ : ARow))])) ?_
  refine JJ ?_
  simp only [zz6, QO, ↓Qb]
  rw [show lvV ⟨nx, l⟩ c amt ws = [] by simp only [lvV, he, Qd], show lvE ⟨nx, l⟩ c amt ws = shE ⟨nx, l⟩ c ws by simp only [lvE, he, Qd]]
  refine done1 0 (by simp only [resCs, resC]; trivial) ?_ (by simp [Ja, Jb, Jc, legC]) (by simp [QY, QX, legC]) (by rfl) trivial rfl rfl ?_ (by simp [flatDs, Jc, legC])
  ·simp only [QD, QE, resA, JZ, QR, QP, JD, QQ, Qd, Qc, JP]; rfl
  ·rfl
 ·intro hb
  have he : (shE ⟨nx, l⟩ c ws != 0) = false := hb
  clear hb
  have e1 : lvV ⟨nx, l⟩ c amt ws = boV 3 c amt (shN ⟨nx, l⟩ c ws) ws (shV c l ws) := by simp only [lvV, he, Qc]
  have e2 : lvE ⟨nx, l⟩ c amt ws = boE 3 c amt (shN ⟨nx, l⟩ c ws) ws (shV c l ws) := by simp only [lvE, he, Qc]
  have hsp2 := fun ha hm => lv_spl (s := ⟨nx, l⟩) (amt := amt) he ha hm
  simp only at hsp2
  refine JI ?_
  simp only [zz6, QO, ↓Qb]
  refine kK hK0 [1, 2, 3, 4, 10] ?_
  refine pq fun K0 hK0 => ?_
  simp only [zzK, QR, QP, QQ, JC, F_ok24, F_ag24, F_sz24, zz8, zz23, zzD, QS, QN, zzH, zzC, QA, yyE, Qe, JE, JF, zz14, JB, ledC, legs, ints, QW, zz6, QO, ↓Qb]
  refine cgA F_go34 (fun hG => ownedF nx l c ws hl hw) ?_
  simp only [zzK, QR, QP, QQ, JC, F_ok24, F_ag24, F_sz24, zz8, zz23, zzD, QS, QN, zzH, zzC, QA, yyE, Qe, JE, JF, zz14, JB, ledC, legs, ints, QW, zz6, QO, ↓Qb, atsL, oksG, JV, QZ, Qa, JO, Qm, QT, QS, zz9, QB, QA, S_mem, yyF, QF, zz2]
  refine cgA F_go40 (fun hG => rborne_ 3 c amt (shN ⟨nx, l⟩ c ws) ws (shV c l ws) hw (by rw [shV_len]) hsp2) ?_
  simp only [zzK, QR, QP, QQ, JC, F_ok24, F_ag24, F_sz24, zz8, zz23, zzD, QS, QN, zzH, zzC, QA, yyE, Qe, JE, JF, zz14, JB, ledC, legs, ints, QW, zz6, QO, ↓Qb, atsL, oksG, JV, QZ, Qa, JO, Qm, QT, QS, zz9, QB, QA, S_mem, yyF, QF, zz2]
  refine kK hK0 [8, 9] ?_
  refine JJ ?_
  simp only [zz6, QO, ↓Qb]
  rw [e1, e2]
  refine done1 31000 (by simp only [resCs, resC]; trivial) ?_ (by simp [Ja, Jb, Jc, legC]) (by simp [QY, QX, legC]) (by rfl) trivial rfl rfl ?_ (by simp [flatDs, Jc, legC])
  ·simp only [QD, QE, resA, JZ, QR, QP, JD, QQ, Qd, Qc, JP]; rfl
  ·rfl
theorem rLevyF (nx : Int) (l : List LegV) (c amt : Int) (ws : List Int) (hl : l.length ≤ 400000) (hw : ws.length ≤ 400000) : ACalls Tryz.prog 13 [.agg (ledC ⟨nx, l⟩), iv c, iv amt, ints ws] [] (.tp [.d (legs (lvV ⟨nx, l⟩ c amt ws)), .d (iv (lvE ⟨nx, l⟩ c amt ws))]) :=
 (rLevy_ nx l c amt ws hl hw).freezeT (by simp [frzOk, frzOkL])
theorem rAssess_ (r : RollV) (c amt : Int) (ws : List Int) (h : r.Small) (hm : r.mems.length ≤ 400000) (hw : ws.length ≤ 400000) : ACalls Tryz.prog 17 [.agg (rollC r), iv c, iv amt, ints ws] [⟨75, 4, (aqV r c amt ws).map legC⟩] (.tp [.ref 0 (aqV r c amt ws).length, .d (iv (aqE r c amt ws))]) := by
 refine acalls_S (rs := [.tmp 8, .tmp 9]) Tryz.func17 rfl rfl 34 [(0, .d (.agg (rollC r))), (1, .d (iv c)), (2, .d (iv amt)), (3, .d (ints ws))] rfl (by simp) rfl ?_
 refine pq fun K0 hK0 => ?_
 simp only [zzK, QR, QP, QQ, zz35, JS, zz1, zzG, zzD, zzC, QA, yyE, Qe, QS, QN, zzH, JB, rollC, memsD, instsD, assetsD, zz6, QO, ↓Qb]
 refine kK hK0 [1, 2, 3, 4] ?_
 refine pq fun K0 hK0 => ?_
 simp only [zzK, QR, QP, QQ, F_ok29, F_ag29, F_sz29, zz8, zz23, zzD, QS, QN, zzH, zzC, QA, yyE, Qe, JC, JE, JF, zz14, JB, rollC, memsD, instsD, assetsD, QW, ints, zz6, QO, ↓Qb]
 refine cgA F_go11 (fun hG => rNeeds_ r ws h hm hw) ?_
 simp only [zzK, QR, QP, QQ, F_ok29, F_ag29, F_sz29, zz8, zz23, zzD, QS, QN, zzH, zzC, QA, yyE, Qe, JC, JE, JF, zz14, JB, rollC, memsD, instsD, assetsD, QW, ints, zz6, QO, ↓Qb, atsL, oksG, JV, QZ, Qa, JO, Qm, QT, QS, zz9, QB, QA, S_mem, yyF, QF, zz2]
 refine kK hK0 [1, 2, 3, 4, 10, 11] ?_
 refine JA fun K0 hK0 => ?_
 refine pq fun K1 hK1 => ?_
 simp only [zzK, QR, QP, QQ, JC, zz21, JM, zz28, zz6, QO, ↓Qb]
 refine kK hK1 [1, 2, 3, 4, 10, 11, 19] ?_
 refine cnA ?_ ?_
 ·intro hb
  have he : (nsE r ws != 0) = true := hb
  clear hb
  refine pq fun K2 hK2 => ?_
  simp only [zzK, QR, QP, QQ, JC, JB, zz6, QO, ↓Qb]
  refine kK hK2 [8, 9] ?_
  refine awp_le (leK id [0] (l' := [(8, .ref 0 0), (9, .d (iv (nsE r ws)))]) (m' := [(0, (⟨True, 75, 4, true, true, 0, []⟩ : ARow))])) ?_
  refine JJ ?_
  simp only [zz6, QO, ↓Qb]
  rw [show aqV r c amt ws = [] by simp only [aqV, he, Qd], show aqE r c amt ws = nsE r ws by simp only [aqE, he, Qd]]
  refine done1 0 (by simp only [resCs, resC]; trivial) ?_ (by simp [Ja, Jb, Jc, legC]) (by simp [QY, QX, legC]) (by rfl) trivial rfl rfl ?_ (by simp [flatDs, Jc, legC])
  ·simp only [QD, QE, resA, JZ, QR, QP, JD, QQ, Qd, Qc, JP]; rfl
  ·rfl
 ·intro hb
  have he : (nsE r ws != 0) = false := hb
  clear hb
  refine JI ?_
  simp only [zz6, QO, ↓Qb]
  refine kK hK0 [1, 2, 3, 4, 10] ?_
  refine JA fun K0 hK0 => ?_
  refine pq fun K1 hK1 => ?_
  simp only [zzK, QR, QP, QQ, JC, JE, JF, zz29, JM, zz30, zz6, QO, ↓Qb]
  refine cgA F_go42 (fun hG => rCur_ c) ?_
  simp only [zzK, QR, QP, QQ, JC, JE, JF, zz29, JM, zz30, zz6, QO, ↓Qb, atsL, oksG, JV, QZ, Qa, JO, Qm, QT, QS, zz9, QB, QA, zzC, yyF, zzD, zz2]
  refine kK hK1 [1, 2, 3, 4, 10, 23] ?_
  refine cnA ?_ ?_
  ·intro hb
   have hc : curOk c = false := by rw [cur_in] at hb; simpa using hb
   clear hb
   refine pq fun K2 hK2 => ?_
   simp only [zzK, QR, QP, QQ, JB, zz6, QO, ↓Qb]
   refine kK hK2 [8, 9] ?_
   refine awp_le (leK id [0] (l' := [(8, .ref 0 0), (9, .d (iv 3))]) (m' := [(0, (⟨True, 75, 4, true, true, 0, []⟩ : ARow))])) ?_
   refine JJ ?_
   simp only [zz6, QO, ↓Qb]
   rw [show aqV r c amt ws = [] by simp only [aqV, he, hc, Qd, Qc, Bool.not_false], show aqE r c amt ws = 3 by simp only [aqE, he, hc, Qd, Qc, Bool.not_false]]
   refine done1 0 (by simp only [resCs, resC]; trivial) ?_ (by simp [Ja, Jb, Jc, legC]) (by simp [QY, QX, legC]) (by rfl) trivial rfl rfl ?_ (by simp [flatDs, Jc, legC])
   ·simp only [QD, QE, resA, JZ, QR, QP, JD, QQ, Qd, Qc, JP]; rfl
   ·rfl
  ·intro hb
   have hc : curOk c = true := by rw [cur_in] at hb; simpa using hb
   clear hb
   have e1 : aqV r c amt ws = boV 2 c amt (nsN r ws) ws (ndV r ws) := by simp only [aqV, he, hc, Qc, Bool.not_true]
   have e2 : aqE r c amt ws = boE 2 c amt (nsN r ws) ws (ndV r ws) := by simp only [aqE, he, hc, Qc, Bool.not_true]
   have hsp2 := fun ha hm2 => as_spl (amt := amt) he hc ha hm2
   refine JI ?_
   simp only [zz6, QO, ↓Qb]
   refine kK hK0 [1, 2, 3, 4, 10] ?_
   refine pq fun K0 hK0 => ?_
   simp only [zzK, QR, QP, QQ, JC, F_ok29, F_ag29, F_sz29, zz8, zz23, zzD, QS, QN, zzH, zzC, QA, yyE, Qe, JE, JF, zz14, JB, rollC, memsD, instsD, assetsD, QW, ints, zz6, QO, ↓Qb]
   refine cgA F_go38 (fun hG => rndF r ws hm hw) ?_
   simp only [zzK, QR, QP, QQ, JC, F_ok29, F_ag29, F_sz29, zz8, zz23, zzD, QS, QN, zzH, zzC, QA, yyE, Qe, JE, JF, zz14, JB, rollC, memsD, instsD, assetsD, QW, ints, zz6, QO, ↓Qb, atsL, oksG, JV, QZ, Qa, JO, Qm, QT, QS, zz9, QB, QA, S_mem, yyF, QF, zz2]
   refine cgA F_go40 (fun hG => rborne_ 2 c amt (nsN r ws) ws (ndV r ws) hw (by rw [ndV_len]) hsp2) ?_
   simp only [zzK, QR, QP, QQ, JC, F_ok29, F_ag29, F_sz29, zz8, zz23, zzD, QS, QN, zzH, zzC, QA, yyE, Qe, JE, JF, zz14, JB, rollC, memsD, instsD, assetsD, QW, ints, zz6, QO, ↓Qb, atsL, oksG, JV, QZ, Qa, JO, Qm, QT, QS, zz9, QB, QA, S_mem, yyF, QF, zz2]
   refine kK hK0 [8, 9] ?_
   refine JJ ?_
   simp only [zz6, QO, ↓Qb]
   rw [e1, e2]
   refine done1 32000 (by simp only [resCs, resC]; trivial) ?_ (by simp [Ja, Jb, Jc, legC]) (by simp [QY, QX, legC]) (by rfl) trivial rfl rfl ?_ (by simp [flatDs, Jc, legC])
   ·simp only [QD, QE, resA, JZ, QR, QP, JD, QQ, Qd, Qc, JP]; rfl
   ·rfl
theorem rAssessF (r : RollV) (c amt : Int) (ws : List Int) (h : r.Small) (hm : r.mems.length ≤ 400000) (hw : ws.length ≤ 400000) : ACalls Tryz.prog 17 [.agg (rollC r), iv c, iv amt, ints ws] [] (.tp [.d (legs (aqV r c amt ws)), .d (iv (aqE r c amt ws))]) :=
 (rAssess_ r c amt ws h hm hw).freezeT (by simp [frzOk, frzOkL])
end Go.Proofs.YtjkfadaedgidpaaGreat
