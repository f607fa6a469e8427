import Derived.Test.YtopifbpibkpmmaaWpF
namespace Go.Proofs.Ytopifbpibkpmmaa
open Go.RowKit
set_option linter.unusedVariables false
set_option linter.unusedSimpArgs false
open Option renaming map_some → QA, bind_some → QB
open List renaming length_append → QC, map_cons → QD, map_nil → QE, length_cons → QF, append_nil → QG, drop_zero → QH, getD_cons_zero → QI, getD_cons_succ → QJ, take_succ_cons → QK, drop_succ_cons → QL
open Nat renaming zero_add → QN, reduceEqDiff → QO, reduceLeDiff → QP, reduceBEq → QQ, reduceLT → QR, reduceAdd → QS, reduceMul → QT, reduceSub → QU
open Int renaming toNat_natCast → QV
open D.agg renaming injEq → QW
open AV renaming idsL → QX, ids → QY, ren → QZ, renL → Qa
open _root_ renaming reduceIte → Qb, cond_false → Qc, cond_true → Qd, reduceCtorEq → Qe, of_decide_eq_false → Qf, of_decide_eq_true → Qg, imp_self → Qh, imp_and → Qi, and_imp → Qj
open IntKind renaming wrap → Ql
open ORow renaming row → Qm
open VLe renaming refl → Qn, still → Qo, nild_ → Qp, nil_ → Qq, refE → Qr, ptrE → Qs, dE → Qt
open RowLe renaming same → Qu, still → Qv, data_ → Qw, uq2 → Qx
open Go.Proofs.Ytopifbpibkpmmaa renaming awp_plain → Qz, awp_seq → JA, evS_assign → JB, evS_move → JC, look_cons → JD, evS_call → JE, evC_value → JF, awp_block → JH, awp_skip → JI, awp_ret → JJ, awp_exit → JK, awp_loop → JL, gr_v → JM, len_map → JN, addRows → JO, resAll → JP, pickK_l → JQ, pickK_r → JR, newRow1 → JS, call_go → JT, freeN → JV, evS_indexAddr → JW, S_getD → JZ, flatA → Ja, flatAs → Jb, flatD → Jc
theorem F_go39 : goFn Try.prog 39 := ⟨_, Try.func39, rfl, rfl⟩
theorem F_go83 : goFn Try.prog 83 := ⟨_, Try.func83, rfl, rfl⟩
theorem F_go92 : goFn Try.prog 92 := ⟨_, Try.func92, rfl, rfl⟩
theorem F_off86_6 : offT Try.prog 86 6 = some 6 := by kernel_rfl
theorem F_ok4 : tyOk Try.prog 4 = true := by kernel_rfl
theorem F_ag4 : aggT Try.prog 4 = false := by kernel_rfl
theorem F_sz4 : szT Try.prog 4 = 1 := by kernel_rfl
theorem F_go80 : goFn Try.prog 80 := ⟨_, Try.func80, rfl, rfl⟩
theorem F_by86 : byT Try.prog 86 = 56 := by kernel_rfl
theorem F_go78 : goFn Try.prog 78 := ⟨_, Try.func78, rfl, rfl⟩
theorem F_go81 : goFn Try.prog 81 := ⟨_, Try.func81, rfl, rfl⟩
theorem F_go55 : goFn Try.prog 55 := ⟨_, Try.func55, rfl, rfl⟩
theorem F_go58 : goFn Try.prog 58 := ⟨_, Try.func58, rfl, rfl⟩
set_option maxRecDepth 100000 in
set_option maxHeartbeats 4000000 in
theorem add_ (nx : Int) (ts : List TradeV) (ps g : List PosV) (ht : ts.length ≤ 200000) (hp : ps.length ≤ 200000) (hg : g.length ≤ 200000) : ACalls Try.prog 80 [.agg (bookC ⟨nx, ts, ps⟩), poss g] [⟨86, 7, (addV ⟨nx, ts, ps⟩ g).trades.map tradeC⟩, ⟨46, 4, (addV ⟨nx, ts, ps⟩ g).poss.map posC⟩] (.tp [.ag [.d (iv (addV ⟨nx, ts, ps⟩ g).next), .ref 0 (addV ⟨nx, ts, ps⟩ g).trades.length, .ref 1 (addV ⟨nx, ts, ps⟩ g).poss.length], .d (iv (addE ⟨nx, ts, ps⟩ g))]) := by
 refine acalls_S (rs := [.cell 4 58, .tmp 5]) Try.func80 rfl rfl 86 [(0, .d (.agg (bookC ⟨nx, ts, ps⟩))), (1, .d (poss g))] rfl (by simp) rfl ?_
 refine JA fun K0 hK0 => ?_
 refine Qz F_mixed [some 2, some 4, some 5] rfl ?_
 simp only [zzK, QR, QP, QQ, zz35, JS, zz1, zzG, zzD, zzC, QA, yyE, Qe, QS, QN, zzH, zz32, F_zero58, zz10, JB, bookC, tradesB, poss, zz6, QO, ↓Qb]
 refine hK0 _ ?_; try clear hK0 K0
 refine kpA [1, 2, 4] ?_
 refine JA fun K0 hK0 => ?_
 refine Qz F_mixed [some 14, some 15, some 6] rfl ?_
 simp only [zzK, QR, QP, QQ, F_ok58, F_ag58, F_sz58, zz8, zz23, zzD, QS, QN, zzH, zzC, QA, yyE, Qe, JE, JF, JB, bookC, tradesB, poss, QW, zz6, QO, ↓Qb]
 refine JT F_go39 (fun hG => bCheck_ nx ts ps (by omega) (by omega)) (by simp [QY, QX]) (by simp) ?_
 simp only [zzK, QR, QP, QQ, F_ok58, F_ag58, F_sz58, zz8, zz23, zzD, QS, QN, zzH, zzC, QA, yyE, Qe, JE, JF, JB, bookC, tradesB, poss, QW, zz6, QO, ↓Qb, atsL, oksG, JV, QZ, Qa, JO, Qm, QT, QS, zz9, QB, QA, S_mem, yyF, QF, zz2]
 refine hK0 _ ?_; try clear hK0 K0
 refine kpA [1, 2, 4, 6] ?_
 refine JA fun K0 hK0 => ?_
 refine JA fun K1 hK1 => ?_
 refine Qz F_mixed [some 16, some 17] rfl ?_
 simp only [zzK, QR, QP, QQ, JC, zz21, JM, zz28, zz6, QO, ↓Qb]
 refine hK1 _ ?_; try clear hK1 K1
 refine kpA [1, 2, 4, 6, 17] ?_
 refine cnA ?_ ?_
 ·intro hb
  have hn : bookE ⟨nx, ts, ps⟩ ≠ 0 := by simpa using hb
  clear hb
  obtain ⟨ho, hE⟩ := bookE_bad hn
  simp only [hE]
  refine JA fun K2 hK2 => ?_
  refine Qz F_mixed [some 18, some 19, none, some 5] rfl ?_
  simp only [zzK, QR, QP, QQ, F_zero58, F_bld58, zz7, splice, Option.getD_some, QG, zz1, zzG, zzD, zzC, QA, yyE, Qe, QS, QN, zzH, zz10, JC, zz18, F_ok58, F_sz58, JB, zz6, QO, ↓Qb]
  refine hK2 _ ?_; try clear hK2 K2
  refine kpA [4, 5] ?_
  have e : addE ⟨nx, ts, ps⟩ g = 14 := by rw [addE_def, ho]; try rfl
  have ev : addV ⟨nx, ts, ps⟩ g = ⟨0, [], []⟩ := add_no (by rw [e]; decide)
  refine awp_le (le_SK id [0, 1] rfl (l' := [(4, .ptr 4 0 0), (5, .d (iv 14))]) (m' := [(4, (⟨True, 58, 3, true, false, 4, [[.d (.v (.int .i64 0)), .ref 0 0, .ref 1 0]]⟩ : ARow)), (0, (⟨True, 86, 7, true, true, 0, []⟩ : ARow)), (1, (⟨True, 46, 4, true, true, 1, []⟩ : ARow))]) ?_ ?_ ?_ ?_) ?_
  ·simp only [leV, JD, QQ, Qd, Qc]; exact ⟨VLe.ptr_ (f := id) (by decide), Qo rfl, trivial⟩
  ·exact ⟨fun _ => ⟨_, rfl, RowLe.cells (VLess.one_ (VLes.cons_ (Qo rfl) (VLes.cons_ (Qq (by decide)) (VLes.cons_ (Qq (by decide)) VLes.nil_))))⟩, fun h => by simp at h, fun h => by simp at h, fun _ => rfl, fun h => by simp at h, fun _ => rfl, trivial⟩
  ·simp [wfV, QY, lookR]
  ·simp [wfR, QX, QY, lookR]
  refine JJ ?_
  simp only [zz6, QO, ↓Qb]
  rw [ev, e]
  refine doneN [0, 1] (by simp [resCs, resC, S, List.getD, JD, lookR, F_ag58, F_sz58, F_ok58]) ?_ (by simp [Ja, Jb, Jc, ]) (by simp [QY, QX, ]) (by decide) ?_
  ·simp only [QD, QE, resA, JZ, S_mem, lookR_cons, lookR_nil, QR, QP, JD, QQ, Qd, Qc, JP, QI, QJ, QH, QL, QK, List.take_zero, F_ag58, F_sz58, F_ok58]; rfl
  ·exact ⟨⟨_, rfl, trivial, rfl, rfl, rfl, rfl⟩, by simp [flatDs, Jc, tradeC], ⟨_, rfl, trivial, rfl, rfl, rfl, rfl⟩, by simp [flatDs, Jc, posC], trivial⟩
 ·intro hb
  have ho : bookOk ⟨nx, ts, ps⟩ = true := bookE_ok (by simpa using hb)
  clear hb
  refine JI ?_
  simp only [zz6, QO, ↓Qb]
  refine hK0 _ ?_; try clear hK0 K0
  refine kpA [1, 2, 4] ?_
  refine JA fun K0 hK0 => ?_
  refine JA fun K1 hK1 => ?_
  refine Qz F_mixed [some 20, some 21, some 22] rfl ?_
  simp only [zzK, QR, QP, QQ, JC, JE, zz12, F_sl42, Option.isSome_some, poss, JN, zz6, QO, ↓Qb]
  refine hK1 _ ?_; try clear hK1 K1
  refine kpA [1, 2, 4, 20, 21, 22] ?_
  refine JH ?_
  refine JL (fun m s => ∃ (pre : List PosV) (post : List PosV), (g = pre ++ post) ∧ (pre.any badLeg = false) ∧ m = post.length ∧ s = S 86 [(1, .d (poss g)), (2, .ptr 2 0 0), (4, .ptr 4 0 0), (20, .d (poss g)), (21, .d (iv g.length)), (22, .d (iv pre.length))] [(2, (⟨True, 58, 3, true, false, 2, [[.d (iv nx), .d (.sl 7 (ts.map tradeC)), .d (.sl 4 (ps.map posC))]]⟩ : ARow)), (4, (⟨True, 58, 3, true, false, 4, [[.d (.v (.int .i64 0)), .d (.v (.slice none 0 0)), .d (.v (.slice none 0 0))]]⟩ : ARow))]) (g.length) _ (le_SK id [] rfl (l' := [(1, .d (poss g)), (2, .ptr 2 0 0), (4, .ptr 4 0 0), (20, .d (poss g)), (21, .d (iv g.length)), (22, .d (iv [].length))]) (m' := [(2, (⟨True, 58, 3, true, false, 2, [[.d (iv nx), .d (.sl 7 (ts.map tradeC)), .d (.sl 4 (ps.map posC))]]⟩ : ARow)), (4, (⟨True, 58, 3, true, false, 4, [[.d (.v (.int .i64 0)), .d (.v (.slice none 0 0)), .d (.v (.slice none 0 0))]]⟩ : ARow))]) ?_ ?_ ?_ ?_) ⟨[], g, rfl, rfl, rfl, rfl⟩ ?_
  ·simp only [leV, JD, QQ, Qd, Qc]; exact ⟨(by first | exact Qo rfl | exact Qq (by decide) | exact Qp | exact Qn _ | exact Qs (by simp) (by rfl) | exact Qr (by simp) (by rfl) (by first | rfl | (simp; done) | (simp; omega)) | exact Qt (by first | rfl | simp)), (by first | exact Qo rfl | exact Qq (by decide) | exact Qp | exact Qn _ | exact Qs (by simp) (by rfl) | exact Qr (by simp) (by rfl) (by first | rfl | (simp; done) | (simp; omega)) | exact Qt (by first | rfl | simp)), (by first | exact Qo rfl | exact Qq (by decide) | exact Qp | exact Qn _ | exact Qs (by simp) (by rfl) | exact Qr (by simp) (by rfl) (by first | rfl | (simp; done) | (simp; omega)) | exact Qt (by first | rfl | simp)), (by first | exact Qo rfl | exact Qq (by decide) | exact Qp | exact Qn _ | exact Qs (by simp) (by rfl) | exact Qr (by simp) (by rfl) (by first | rfl | (simp; done) | (simp; omega)) | exact Qt (by first | rfl | simp)), (by first | exact Qo rfl | exact Qq (by decide) | exact Qp | exact Qn _ | exact Qs (by simp) (by rfl) | exact Qr (by simp) (by rfl) (by first | rfl | (simp; done) | (simp; omega)) | exact Qt (by first | rfl | simp)), (by first | exact Qo rfl | exact Qq (by decide) | exact Qp | exact Qn _ | exact Qs (by simp) (by rfl) | exact Qr (by simp) (by rfl) (by first | rfl | (simp; done) | (simp; omega)) | exact Qt (by first | rfl | simp)), trivial⟩
  ·exact ⟨fun _ => ⟨_, rfl, (by first | exact Qw (by first | rfl | simp) | exact Qx (by first | rfl | simp) (by simp) ids_data | exact Qv (by simp [QX, QY]) | exact Qu (by simp) (by simp [QX, QY]))⟩, fun h => by simp at h, fun _ => ⟨_, rfl, (by first | exact Qw (by first | rfl | simp) | exact Qx (by first | rfl | simp) (by simp) ids_data | exact Qv (by simp [QX, QY]) | exact Qu (by simp) (by simp [QX, QY]))⟩, fun h => by simp at h, trivial⟩
  ·simp [wfV, QY, QX, lookR, grow]
  ·exact ⟨by simp [QX, QY, lookR], by simp [QX, QY, lookR], trivial⟩
  rintro m s ⟨pre, post, hsp, hany, rfl, rfl⟩
  have hspl := congrArg List.length hsp
  simp only [QC] at hspl
  refine JA fun K2 hK2 => ?_
  refine Qz F_mixed [some 23] rfl ?_
  simp only [zzK, QR, QP, QQ, zz21, JM, zz22, zz6, QO, ↓Qb]
  refine hK2 _ ?_; try clear hK2 K2
  refine kpA [1, 2, 4, 20, 21, 22, 23] ?_
  refine JA fun K2 hK2 => ?_
  refine cnA ?_ ?_
  ·intro hb
   obtain ⟨x, post2, rfl⟩ : ∃ x t, post = x :: t := by
    cases post with
    | nil => have := Qg hb; simp at hspl; omega
    | cons x t => exact ⟨x, t, rfl⟩
   clear hb
   simp only [QF] at hspl
   have gx : (g.map posC).getD pre.length [] = [iv x.who, iv x.inst, iv x.qty, iv x.cost] := by
    rw [hsp, List.map_append]; exact gd_mid' (A := pre.map posC) _ _ (by simp)
   have bx := ltI (show pre.length < g.length by omega)
   have hwx : Ql .i64 ((pre.length : Int) + 1) = ((pre ++ [x]).length : Int) := by rw [wrapI (by omega) (by omega)]; simp
   refine JI ?_
   simp only [zz6, QO, ↓Qb]
   refine hK2 _ ?_; try clear hK2 K2
   refine kpA [1, 2, 4, 20, 21, 22] ?_
   refine JA fun K2 hK2 => ?_
   refine JH ?_
   refine JA fun K3 hK3 => ?_
   refine Qz F_mixed [some 24, some 25, some 8, none] rfl ?_
   simp only [zzK, QR, QP, QQ, JW, zz23, zz24, F_sl42, F_sz46, QA, zzC, yyE, Qe, F_ok46, F_ag46, zz8, zzD, QS, QN, zzH, zz32, JS, F_zero46, zz10, zz18, splice, QG, zz1, zzG, poss, posC, gx, bx, hwx, JN, ge0, QV, QW, zz6, QO, ↓Qb]
   refine hK3 _ ?_; try clear hK3 K3
   refine kpA [1, 2, 4, 8, 20, 21, 22] ?_
   refine JA fun K3 hK3 => ?_
   refine Qz F_mixed [some 26, some 27, some 28, some 29, some 30, some 31, some 32, some 33, some 34, some 35, some 36, some 37, some 38] rfl ?_
   simp only [zzK, QR, QP, QQ, QU, JZ, zz5, Qj, Qi, Qh, zz19, zz23, F_off46_0, zzH, QN, QS, F_ok29, F_ag29, F_sz29, zz8, zzD, zzC, QA, yyE, Qe, JE, JF, zz29, JM, zz30, JC, F_off46_1, F_ok3, F_ag3, F_sz3, F_off46_2, F_sl90, F_zero3, zz3, JS, zz1, zzG, maxLen_le, QT, zz13, JQ, JR, posC, QW, ints, QD, D.sl.injEq, zz6, QO, ↓Qb]
   refine JT F_go59 (fun hG => keyOk_ x.who x.inst) (by simp [QY, QX]) (by simp) ?_
   simp only [zzK, QR, QP, QQ, QU, JZ, zz5, Qj, Qi, Qh, zz19, zz23, F_off46_0, zzH, QN, QS, F_ok29, F_ag29, F_sz29, zz8, zzD, zzC, QA, yyE, Qe, JE, JF, zz29, JM, zz30, JC, F_off46_1, F_ok3, F_ag3, F_sz3, F_off46_2, F_sl90, F_zero3, zz3, JS, zz1, zzG, maxLen_le, QT, zz13, JQ, JR, posC, QW, ints, QD, zz6, QO, ↓Qb, atsL, oksG, JV, QZ, Qa, JO, Qm, QT, QS, zz9, QB, QA, S_mem, yyF, QF, zz2]
   refine JT F_go51 (fun hG => Right_ [x.qty, x.cost] (by simp)) (by simp [QY, QX]) (by simp) ?_
   simp only [zzK, QR, QP, QQ, QU, JZ, zz5, Qj, Qi, Qh, zz19, zz23, F_off46_0, zzH, QN, QS, F_ok29, F_ag29, F_sz29, zz8, zzD, zzC, QA, yyE, Qe, JE, JF, zz29, JM, zz30, JC, F_off46_1, F_ok3, F_ag3, F_sz3, F_off46_2, F_sl90, F_zero3, zz3, JS, zz1, zzG, maxLen_le, QT, zz13, JQ, JR, posC, QW, ints, QD, zz6, QO, ↓Qb, atsL, oksG, JV, QZ, Qa, JO, Qm, QT, QS, zz9, QB, QA, S_mem, yyF, QF, zz2]
   refine hK3 _ ?_; try clear hK3 K3
   refine kpA [1, 2, 4, 20, 21, 22, 38] ?_
   refine cnA ?_ ?_
   ·intro hb
    have hx : badLeg x = true := hb
    clear hb
    have hal : g.any badLeg = true := by rw [hsp]; simp only [List.any_append, List.any_cons, hx, Bool.true_or, Bool.or_true]
    refine JA fun K4 hK4 => ?_
    refine Qz F_mixed [some 39, none, some 5] rfl ?_
    simp only [zzK, QR, QP, QQ, F_zero58, F_bld58, zz7, splice, Option.getD_some, QG, zz1, zzG, zzD, zzC, QA, yyE, Qe, QS, QN, zzH, zz10, zz18, F_ok58, F_sz58, JB, zz6, QO, ↓Qb]
    refine hK4 _ ?_; try clear hK4 K4
    refine kpA [4, 5] ?_
    have e : addE ⟨nx, ts, ps⟩ g = 3 := by rw [addE_def, ho, hal]; try rfl
    have ev : addV ⟨nx, ts, ps⟩ g = ⟨0, [], []⟩ := add_no (by rw [e]; decide)
    refine awp_le (le_SK id [0, 1] rfl (l' := [(4, .ptr 4 0 0), (5, .d (iv 3))]) (m' := [(4, (⟨True, 58, 3, true, false, 4, [[.d (.v (.int .i64 0)), .ref 0 0, .ref 1 0]]⟩ : ARow)), (0, (⟨True, 86, 7, true, true, 0, []⟩ : ARow)), (1, (⟨True, 46, 4, true, true, 1, []⟩ : ARow))]) ?_ ?_ ?_ ?_) ?_
    ·simp only [leV, JD, QQ, Qd, Qc]; exact ⟨VLe.ptr_ (f := id) (by decide), Qo rfl, trivial⟩
    ·exact ⟨fun _ => ⟨_, rfl, RowLe.cells (VLess.one_ (VLes.cons_ (Qo rfl) (VLes.cons_ (Qq (by decide)) (VLes.cons_ (Qq (by decide)) VLes.nil_))))⟩, fun h => by simp at h, fun h => by simp at h, fun _ => rfl, fun h => by simp at h, fun _ => rfl, trivial⟩
    ·simp [wfV, QY, lookR]
    ·simp [wfR, QX, QY, lookR]
    refine JJ ?_
    simp only [zz6, QO, ↓Qb]
    rw [ev, e]
    refine doneN [0, 1] (by simp [resCs, resC, S, List.getD, JD, lookR, F_ag58, F_sz58, F_ok58]) ?_ (by simp [Ja, Jb, Jc, ]) (by simp [QY, QX, ]) (by decide) ?_
    ·simp only [QD, QE, resA, JZ, S_mem, lookR_cons, lookR_nil, QR, QP, JD, QQ, Qd, Qc, JP, QI, QJ, QH, QL, QK, List.take_zero, F_ag58, F_sz58, F_ok58]; rfl
    ·exact ⟨⟨_, rfl, trivial, rfl, rfl, rfl, rfl⟩, by simp [flatDs, Jc, tradeC], ⟨_, rfl, trivial, rfl, rfl, rfl, rfl⟩, by simp [flatDs, Jc, posC], trivial⟩
   ·intro hb
    have hx : badLeg x = false := hb
    clear hb
    refine JI ?_
    simp only [zz6, QO, ↓Qb]
    refine hK2 _ ?_; try clear hK2 K2
    refine kpA [1, 2, 4, 20, 21, 22] ?_
    refine Qz F_mixed [some 40, some 22] rfl ?_
    simp only [zzK, QR, QP, QQ, zz21, JM, zz26, JC, hwx, zz6, QO, ↓Qb]
    refine ⟨post2.length, _, by simp, le_SK id [] rfl (l' := [(1, .d (poss g)), (2, .ptr 2 0 0), (4, .ptr 4 0 0), (20, .d (poss g)), (21, .d (iv g.length)), (22, .d (iv (pre ++ [x]).length))]) (m' := [(2, (⟨True, 58, 3, true, false, 2, [[.d (iv nx), .d (.sl 7 (ts.map tradeC)), .d (.sl 4 (ps.map posC))]]⟩ : ARow)), (4, (⟨True, 58, 3, true, false, 4, [[.d (.v (.int .i64 0)), .d (.v (.slice none 0 0)), .d (.v (.slice none 0 0))]]⟩ : ARow))]) ?_ ?_ ?_ ?_, (pre ++ [x]), post2, by simp [hsp], by simp only [List.any_append, hany, List.any_cons, hx, List.any_nil, Bool.or_false], rfl, rfl⟩
    ·simp only [leV, JD, QQ, Qd, Qc, hwx]; exact ⟨(by first | exact Qo rfl | exact Qq (by decide) | exact Qp | exact Qn _ | exact Qs (by simp) (by rfl) | exact Qr (by simp) (by rfl) (by first | rfl | (simp; done) | (simp; omega)) | exact Qt (by first | rfl | simp)), (by first | exact Qo rfl | exact Qq (by decide) | exact Qp | exact Qn _ | exact Qs (by simp) (by rfl) | exact Qr (by simp) (by rfl) (by first | rfl | (simp; done) | (simp; omega)) | exact Qt (by first | rfl | simp)), (by first | exact Qo rfl | exact Qq (by decide) | exact Qp | exact Qn _ | exact Qs (by simp) (by rfl) | exact Qr (by simp) (by rfl) (by first | rfl | (simp; done) | (simp; omega)) | exact Qt (by first | rfl | simp)), (by first | exact Qo rfl | exact Qq (by decide) | exact Qp | exact Qn _ | exact Qs (by simp) (by rfl) | exact Qr (by simp) (by rfl) (by first | rfl | (simp; done) | (simp; omega)) | exact Qt (by first | rfl | simp)), (by first | exact Qo rfl | exact Qq (by decide) | exact Qp | exact Qn _ | exact Qs (by simp) (by rfl) | exact Qr (by simp) (by rfl) (by first | rfl | (simp; done) | (simp; omega)) | exact Qt (by first | rfl | simp)), (by first | exact Qo rfl | exact Qq (by decide) | exact Qp | exact Qn _ | exact Qs (by simp) (by rfl) | exact Qr (by simp) (by rfl) (by first | rfl | (simp; done) | (simp; omega)) | exact Qt (by first | rfl | simp)), trivial⟩
    ·exact ⟨fun _ => ⟨_, rfl, (by first | exact Qw (by first | rfl | simp) | exact Qx (by first | rfl | simp) (by simp) ids_data | exact Qv (by simp [QX, QY]) | exact Qu (by simp) (by simp [QX, QY]))⟩, fun h => by simp at h, fun _ => ⟨_, rfl, (by first | exact Qw (by first | rfl | simp) | exact Qx (by first | rfl | simp) (by simp) ids_data | exact Qv (by simp [QX, QY]) | exact Qu (by simp) (by simp [QX, QY]))⟩, fun h => by simp at h, trivial⟩
    ·simp [wfV, QY, QX, lookR, grow]
    ·exact ⟨by simp [QX, QY, lookR], by simp [QX, QY, lookR], trivial⟩
  ·intro hb
   obtain rfl : post = [] := by
    cases post with
    | nil => rfl
    | cons x t => have := Qf hb; simp at hspl; omega
   clear hb
   simp only [QG] at hsp
   subst hsp
   refine JK ?_
   simp only [zz6, QO, ↓Qb]
   refine hK0 _ ?_; try clear hK0 K0
   refine kpA [1, 2, 4] ?_
   refine JA fun K0 hK0 => ?_
   refine JA fun K1 hK1 => ?_
   refine Qz F_mixed [some 41, some 42, some 43] rfl ?_
   simp only [zzK, QR, QP, QQ, JC, JE, JF, zz29, JM, zz30, poss, zz6, QO, ↓Qb]
   refine JT F_go62 (fun hG => level_ g (by omega)) (by simp [QY, QX]) (by simp) ?_
   simp only [zzK, QR, QP, QQ, JC, JE, JF, zz29, JM, zz30, poss, zz6, QO, ↓Qb, atsL, oksG, JV, QZ, Qa, JO, Qm, QT, QS, zz9, QB, QA, zzC, yyF, zzD, zz2]
   refine hK1 _ ?_; try clear hK1 K1
   refine kpA [1, 2, 4, 43] ?_
   refine cnA ?_ ?_
   ·intro hb
    have hlv : levelOk g = false := by simpa using hb
    clear hb
    refine JA fun K2 hK2 => ?_
    refine Qz F_mixed [some 44, none, some 5] rfl ?_
    simp only [zzK, QR, QP, QQ, F_zero58, F_bld58, zz7, splice, Option.getD_some, QG, zz1, zzG, zzD, zzC, QA, yyE, Qe, QS, QN, zzH, zz10, zz18, F_ok58, F_sz58, JB, zz6, QO, ↓Qb]
    refine hK2 _ ?_; try clear hK2 K2
    refine kpA [4, 5] ?_
    have e : addE ⟨nx, ts, ps⟩ g = 12 := by rw [addE_def, ho, hany, hlv]; try rfl
    have ev : addV ⟨nx, ts, ps⟩ g = ⟨0, [], []⟩ := add_no (by rw [e]; decide)
    refine awp_le (le_SK id [0, 1] rfl (l' := [(4, .ptr 4 0 0), (5, .d (iv 12))]) (m' := [(4, (⟨True, 58, 3, true, false, 4, [[.d (.v (.int .i64 0)), .ref 0 0, .ref 1 0]]⟩ : ARow)), (0, (⟨True, 86, 7, true, true, 0, []⟩ : ARow)), (1, (⟨True, 46, 4, true, true, 1, []⟩ : ARow))]) ?_ ?_ ?_ ?_) ?_
    ·simp only [leV, JD, QQ, Qd, Qc]; exact ⟨VLe.ptr_ (f := id) (by decide), Qo rfl, trivial⟩
    ·exact ⟨fun _ => ⟨_, rfl, RowLe.cells (VLess.one_ (VLes.cons_ (Qo rfl) (VLes.cons_ (Qq (by decide)) (VLes.cons_ (Qq (by decide)) VLes.nil_))))⟩, fun h => by simp at h, fun h => by simp at h, fun _ => rfl, fun h => by simp at h, fun _ => rfl, trivial⟩
    ·simp [wfV, QY, lookR]
    ·simp [wfR, QX, QY, lookR]
    refine JJ ?_
    simp only [zz6, QO, ↓Qb]
    rw [ev, e]
    refine doneN [0, 1] (by simp [resCs, resC, S, List.getD, JD, lookR, F_ag58, F_sz58, F_ok58]) ?_ (by simp [Ja, Jb, Jc, ]) (by simp [QY, QX, ]) (by decide) ?_
    ·simp only [QD, QE, resA, JZ, S_mem, lookR_cons, lookR_nil, QR, QP, JD, QQ, Qd, Qc, JP, QI, QJ, QH, QL, QK, List.take_zero, F_ag58, F_sz58, F_ok58]; rfl
    ·exact ⟨⟨_, rfl, trivial, rfl, rfl, rfl, rfl⟩, by simp [flatDs, Jc, tradeC], ⟨_, rfl, trivial, rfl, rfl, rfl, rfl⟩, by simp [flatDs, Jc, posC], trivial⟩
   ·intro hb
    have hlv : levelOk g = true := by simpa using hb
    clear hb
    refine JI ?_
    simp only [zz6, QO, ↓Qb]
    refine hK0 _ ?_; try clear hK0 K0
    refine kpA [1, 2, 4] ?_
    refine JA fun K0 hK0 => ?_
    refine Qz F_mixed [some 45, some 46, none] rfl ?_
    simp only [zzK, QR, QP, QQ, F_ok58, F_ag58, F_sz58, zz8, zz23, zzD, QS, QN, zzH, zzC, QA, yyE, Qe, JE, JF, zz18, splice, QG, zz1, zzG, bookC, tradesB, poss, QW, zz6, QO, ↓Qb]
    refine JT F_go83 (fun hG => twinB_ nx ts ps (by omega) (by omega)) (by simp [QY, QX]) (by simp) ?_
    simp only [zzK, QR, QP, QQ, F_ok58, F_ag58, F_sz58, zz8, zz23, zzD, QS, QN, zzH, zzC, QA, yyE, Qe, JE, JF, zz18, splice, QG, zz1, zzG, bookC, tradesB, poss, QW, zz6, QO, ↓Qb, atsL, oksG, JV, QZ, Qa, JO, Qm, QT, QS, zz9, QB, QA, S_mem, yyF, QF, zz2]
    refine hK0 _ ?_; try clear hK0 K0
    refine kpA [1, 2, 4] ?_
    refine JA fun K0 hK0 => ?_
    refine Qz F_mixed [some 47, some 48, some 9] rfl ?_
    simp only [zzK, QR, QP, QQ, zz19, zz23, F_off58_2, zzH, QN, QS, F_ok42, F_ag42, F_sz42, zz8, zzD, zzC, QA, yyE, Qe, JB, zz6, QO, ↓Qb]
    refine hK0 _ ?_; try clear hK0 K0
    refine kpA [1, 2, 4, 9] ?_
    refine JA fun K0 hK0 => ?_
    refine Qz F_mixed [some 49, none] rfl ?_
    simp only [zzK, QR, QP, QQ, zz19, zz23, F_off58_2, zzH, QN, QS, zz18, F_ok42, F_sz42, splice, QG, zzD, zzC, QA, yyE, Qe, zz1, zzG, zz6, QO, ↓Qb]
    refine hK0 _ ?_; try clear hK0 K0
    refine kpA [1, 2, 4, 9] ?_
    refine JA fun K0 hK0 => ?_
    refine JA fun K1 hK1 => ?_
    refine Qz F_mixed [some 10] rfl ?_
    simp only [zzK, QR, QP, QQ, JB, zz6, QO, ↓Qb]
    refine hK1 _ ?_; try clear hK1 K1
    refine kpA [1, 2, 4, 9, 10] ?_
    refine JH ?_
    refine JL (fun m s => ∃ (w : Nat), (w ≤ 16) ∧ ((kW w).any (jBad (ps ++ g)) = false) ∧ m = 16 - w ∧ s = S 86 [(1, .d (poss g)), (2, .ptr 2 0 0), (4, .ptr 4 0 0), (9, .ref 47001 ps.length), (10, .d (iv ((w : Nat) + 1 : Int)))] [(2, (⟨True, 58, 3, true, false, 2, [[.d (iv nx), .ref 47000 ts.length, .ref 500 (jOut (ps ++ g) (kW w)).length]]⟩ : ARow)), (4, (⟨True, 58, 3, true, false, 4, [[.d (.v (.int .i64 0)), .d (.v (.slice none 0 0)), .d (.v (.slice none 0 0))]]⟩ : ARow)), (47000, (⟨True, 86, 7, true, true, 47000, (ts.map tradeC).map (·.map .d)⟩ : ARow)), (47001, (⟨True, 46, 4, true, true, 47001, (ps.map posC).map (·.map .d)⟩ : ARow)), (500, grow 46 4 500 ((jOut (ps ++ g) (kW w)).map posC))]) (16) _ (le_SK id [500] rfl (l' := [(1, .d (poss g)), (2, .ptr 2 0 0), (4, .ptr 4 0 0), (9, .ref 47001 ps.length), (10, .d (iv ((0 : Nat) + 1 : Int)))]) (m' := [(2, (⟨True, 58, 3, true, false, 2, [[.d (iv nx), .ref 47000 ts.length, .ref 500 (jOut (ps ++ g) (kW 0)).length]]⟩ : ARow)), (4, (⟨True, 58, 3, true, false, 4, [[.d (.v (.int .i64 0)), .d (.v (.slice none 0 0)), .d (.v (.slice none 0 0))]]⟩ : ARow)), (47000, (⟨True, 86, 7, true, true, 47000, (ts.map tradeC).map (·.map .d)⟩ : ARow)), (47001, (⟨True, 46, 4, true, true, 47001, (ps.map posC).map (·.map .d)⟩ : ARow)), (500, grow 46 4 500 ((jOut (ps ++ g) (kW 0)).map posC))]) ?_ ?_ ?_ ?_) ⟨0, by omega, rfl, rfl, rfl⟩ ?_
    ·simp only [leV, JD, QQ, Qd, Qc]; exact ⟨(by first | exact Qo rfl | exact Qq (by decide) | exact Qp | exact Qn _ | exact Qs (by simp) (by rfl) | exact Qr (by simp) (by rfl) (by first | rfl | (simp; done) | (simp; omega)) | exact Qt (by first | rfl | simp)), (by first | exact Qo rfl | exact Qq (by decide) | exact Qp | exact Qn _ | exact Qs (by simp) (by rfl) | exact Qr (by simp) (by rfl) (by first | rfl | (simp; done) | (simp; omega)) | exact Qt (by first | rfl | simp)), (by first | exact Qo rfl | exact Qq (by decide) | exact Qp | exact Qn _ | exact Qs (by simp) (by rfl) | exact Qr (by simp) (by rfl) (by first | rfl | (simp; done) | (simp; omega)) | exact Qt (by first | rfl | simp)), (by first | exact Qo rfl | exact Qq (by decide) | exact Qp | exact Qn _ | exact Qs (by simp) (by rfl) | exact Qr (by simp) (by rfl) (by first | rfl | (simp; done) | (simp; omega)) | exact Qt (by first | rfl | simp)), Qt rfl, trivial⟩
    ·exact ⟨fun _ => ⟨_, rfl, RowLe.cells (VLess.one_ (VLes.cons_ (Qt rfl) (VLes.cons_ (Qr (by simp) rfl (by simp)) (VLes.cons_ (Qq (by decide)) (VLes.nil_)))))⟩, fun h => by simp at h, fun _ => ⟨_, rfl, (by first | exact Qw (by first | rfl | simp) | exact Qx (by first | rfl | simp) (by simp) ids_data | exact Qv (by simp [QX, QY]) | exact Qu (by simp) (by simp [QX, QY]))⟩, fun h => by simp at h, fun _ => ⟨_, rfl, (by first | exact Qw (by first | rfl | simp) | exact Qx (by first | rfl | simp) (by simp) ids_data | exact Qv (by simp [QX, QY]) | exact Qu (by simp) (by simp [QX, QY]))⟩, fun h => by simp at h, fun _ => ⟨_, rfl, (by first | exact Qw (by first | rfl | simp) | exact Qx (by first | rfl | simp) (by simp) ids_data | exact Qv (by simp [QX, QY]) | exact Qu (by simp) (by simp [QX, QY]))⟩, fun h => by simp at h, fun h => by simp at h, fun _ => rfl, trivial⟩
    ·simp [wfV, QY, QX, lookR, grow]
    ·exact ⟨by simp [QX, QY, lookR], by simp [QX, QY, lookR], wf_data _ _, wf_data _ _, wf_data _ _, trivial⟩
    rintro m s ⟨w, hw16, hbw, rfl, rfl⟩
    refine JA fun K2 hK2 => ?_
    refine JA fun K3 hK3 => ?_
    refine Qz F_mixed [some 50, some 51] rfl ?_
    simp only [zzK, QR, QP, QQ, JC, zz21, JM, b_leq, pure_leq, zz6, QO, ↓Qb]
    refine hK3 _ ?_; try clear hK3 K3
    refine kpA [1, 2, 4, 9, 10, 51] ?_
    refine cnA ?_ ?_
    ·intro hb
     have hw : w < 16 := by have := Qg hb; omega
     clear hb
     have hww : Ql .i64 ((w : Int) + 1 + 1) = (((w + 1 : Nat) : Int) + 1) := by rw [wrapI (by omega) (by omega)]; omega
     refine JI ?_
     simp only [zz6, QO, ↓Qb]
     refine hK2 _ ?_; try clear hK2 K2
     refine kpA [1, 2, 4, 9, 10] ?_
     refine JA fun K2 hK2 => ?_
     refine JH ?_
     refine JA fun K3 hK3 => ?_
     refine Qz F_mixed [some 11] rfl ?_
     simp only [zzK, QR, QP, QQ, JB, zz6, QO, ↓Qb]
     refine hK3 _ ?_; try clear hK3 K3
     refine kpA [1, 2, 4, 9, 10, 11] ?_
     refine JH ?_
     refine JL (fun m s => ∃ (n : Nat), (n ≤ 8) ∧ ((kW w ++ kN ((w : Int) + 1) n).any (jBad (ps ++ g)) = false) ∧ m = 8 - n ∧ s = S 86 [(1, .d (poss g)), (2, .ptr 2 0 0), (4, .ptr 4 0 0), (9, .ref 47001 ps.length), (10, .d (iv ((w : Nat) + 1 : Int))), (11, .d (iv ((n : Nat) + 1 : Int)))] [(2, (⟨True, 58, 3, true, false, 2, [[.d (iv nx), .ref 47000 ts.length, .ref 500 (jOut (ps ++ g) (kW w ++ kN ((w : Int) + 1) n)).length]]⟩ : ARow)), (4, (⟨True, 58, 3, true, false, 4, [[.d (.v (.int .i64 0)), .d (.v (.slice none 0 0)), .d (.v (.slice none 0 0))]]⟩ : ARow)), (47000, (⟨True, 86, 7, true, true, 47000, (ts.map tradeC).map (·.map .d)⟩ : ARow)), (47001, (⟨True, 46, 4, true, true, 47001, (ps.map posC).map (·.map .d)⟩ : ARow)), (500, grow 46 4 500 ((jOut (ps ++ g) (kW w ++ kN ((w : Int) + 1) n)).map posC))]) (8) _ (le_SK id [] rfl (l' := [(1, .d (poss g)), (2, .ptr 2 0 0), (4, .ptr 4 0 0), (9, .ref 47001 ps.length), (10, .d (iv ((w : Nat) + 1 : Int))), (11, .d (iv ((0 : Nat) + 1 : Int)))]) (m' := [(2, (⟨True, 58, 3, true, false, 2, [[.d (iv nx), .ref 47000 ts.length, .ref 500 (jOut (ps ++ g) (kW w ++ kN ((w : Int) + 1) 0)).length]]⟩ : ARow)), (4, (⟨True, 58, 3, true, false, 4, [[.d (.v (.int .i64 0)), .d (.v (.slice none 0 0)), .d (.v (.slice none 0 0))]]⟩ : ARow)), (47000, (⟨True, 86, 7, true, true, 47000, (ts.map tradeC).map (·.map .d)⟩ : ARow)), (47001, (⟨True, 46, 4, true, true, 47001, (ps.map posC).map (·.map .d)⟩ : ARow)), (500, grow 46 4 500 ((jOut (ps ++ g) (kW w ++ kN ((w : Int) + 1) 0)).map posC))]) ?_ ?_ ?_ ?_) ⟨0, by omega, by simpa [kN] using hbw, rfl, rfl⟩ ?_
     ·simp only [leV, JD, QQ, Qd, Qc]; exact ⟨(by first | exact Qo rfl | exact Qq (by decide) | exact Qp | exact Qn _ | exact Qs (by simp) (by rfl) | exact Qr (by simp) (by rfl) (by first | rfl | (simp; done) | (simp; omega)) | exact Qt (by first | rfl | simp)), (by first | exact Qo rfl | exact Qq (by decide) | exact Qp | exact Qn _ | exact Qs (by simp) (by rfl) | exact Qr (by simp) (by rfl) (by first | rfl | (simp; done) | (simp; omega)) | exact Qt (by first | rfl | simp)), (by first | exact Qo rfl | exact Qq (by decide) | exact Qp | exact Qn _ | exact Qs (by simp) (by rfl) | exact Qr (by simp) (by rfl) (by first | rfl | (simp; done) | (simp; omega)) | exact Qt (by first | rfl | simp)), (by first | exact Qo rfl | exact Qq (by decide) | exact Qp | exact Qn _ | exact Qs (by simp) (by rfl) | exact Qr (by simp) (by rfl) (by first | rfl | (simp; done) | (simp; omega)) | exact Qt (by first | rfl | simp)), (by first | exact Qo rfl | exact Qq (by decide) | exact Qp | exact Qn _ | exact Qs (by simp) (by rfl) | exact Qr (by simp) (by rfl) (by first | rfl | (simp; done) | (simp; omega)) | exact Qt (by first | rfl | simp)), Qt rfl, trivial⟩
     ·exact ⟨fun _ => ⟨_, rfl, RowLe.cells (VLess.one_ (VLes.cons_ (Qt rfl) (VLes.cons_ (Qr (by simp) rfl (by simp)) (VLes.cons_ (Qr (by simp) rfl (by simp [kN])) (VLes.nil_)))))⟩, fun h => by simp at h, fun _ => ⟨_, rfl, (by first | exact Qw (by first | rfl | simp) | exact Qx (by first | rfl | simp) (by simp) ids_data | exact Qv (by simp [QX, QY]) | exact Qu (by simp) (by simp [QX, QY]))⟩, fun h => by simp at h, fun _ => ⟨_, rfl, (by first | exact Qw (by first | rfl | simp) | exact Qx (by first | rfl | simp) (by simp) ids_data | exact Qv (by simp [QX, QY]) | exact Qu (by simp) (by simp [QX, QY]))⟩, fun h => by simp at h, fun _ => ⟨_, rfl, (by first | exact Qw (by first | rfl | simp) | exact Qx (by first | rfl | simp) (by simp) ids_data | exact Qv (by simp [QX, QY]) | exact Qu (by simp) (by simp [QX, QY]))⟩, fun h => by simp at h, fun _ => ⟨_, rfl, Qw (by simp [kN])⟩, fun h => by simp at h, trivial⟩
     ·simp [wfV, QY, QX, lookR, grow]
     ·exact ⟨by simp [QX, QY, lookR], by simp [QX, QY, lookR], wf_data _ _, wf_data _ _, wf_data _ _, trivial⟩
     rintro m s ⟨n, hn8, hbn, rfl, rfl⟩
     have hjl := jOut_len (ps ++ g) (kW w ++ kN ((w : Int) + 1) n)
     rw [QC, kW_len, kN_len] at hjl
     refine JA fun K4 hK4 => ?_
     refine JA fun K5 hK5 => ?_
     refine Qz F_mixed [some 54, some 55] rfl ?_
     simp only [zzK, QR, QP, QQ, JC, zz21, JM, b_leq, pure_leq, zz6, QO, ↓Qb]
     refine hK5 _ ?_; try clear hK5 K5
     refine kpA [1, 2, 4, 9, 10, 11, 55] ?_
     refine cnA ?_ ?_
     ·intro hb
      have hn : n < 8 := by have := Qg hb; omega
      clear hb
      have hwn : Ql .i64 ((n : Int) + 1 + 1) = (((n + 1 : Nat) : Int) + 1) := by rw [wrapI (by omega) (by omega)]; omega
      refine JI ?_
      simp only [zz6, QO, ↓Qb]
      refine hK4 _ ?_; try clear hK4 K4
      refine kpA [1, 2, 4, 9, 10, 11] ?_
      refine JA fun K4 hK4 => ?_
      refine JH ?_
      refine JA fun K5 hK5 => ?_
      refine Qz F_mixed [some 59, some 60, some 61, some 62, some 63, some 64, some 58, some 65, some 66, some 12, none, some 13] rfl ?_
      simp only [zzK, QR, QP, QQ, JC, F_zero29, F_bld29, zz7, splice, Option.getD_some, QG, zz1, zzG, zzD, zzC, QA, yyE, Qe, QS, QN, zzH, zz10, F_fld29_0, F_fld29_1, JE, JF, zz14, zz32, JS, F_zero46, zz18, F_ok46, F_sz46, JB, poss, QW, D.sl.injEq, JN, posA, zz6, QO, ↓Qb]
      refine JT F_go92 (fun hG => joined_ ((w : Int) + 1) ((n : Int) + 1) ps g (by omega) (by omega)) (by simp [QY, QX, posA]) (by simp) ?_
      simp only [zzK, QR, QP, QQ, JC, F_zero29, F_bld29, zz7, splice, Option.getD_some, QG, zz1, zzG, zzD, zzC, QA, yyE, Qe, QS, QN, zzH, zz10, F_fld29_0, F_fld29_1, JE, JF, zz14, zz32, JS, F_zero46, zz18, F_ok46, F_sz46, JB, poss, QW, JN, posA, zz6, QO, ↓Qb, atsL, oksG, JV, QZ, Qa, JO, Qm, QT, QS, zz9, QB, QA, S_mem, yyF, QF, zz2]
      first | refine ⟨by simp, ?_⟩ | skip
      refine hK5 _ ?_; try clear hK5 K5
      refine kpA [1, 2, 4, 9, 10, 11, 12, 13] ?_
      refine JA fun K5 hK5 => ?_
      refine JA fun K6 hK6 => ?_
      refine Qz F_mixed [some 67, some 68] rfl ?_
      simp only [zzK, QR, QP, QQ, JC, zz21, JM, zz28, zz6, QO, ↓Qb]
      refine hK6 _ ?_; try clear hK6 K6
      refine kpA [1, 2, 4, 9, 10, 11, 12, 13, 68] ?_
      refine cnA ?_ ?_
      ·intro hb
       have hjb : jBad (ps ++ g) ((w : Int) + 1, (n : Int) + 1) = true := by
        cases hc : jBad (ps ++ g) ((w : Int) + 1, (n : Int) + 1) with
        | true => rfl
        | false => simp only [jErr, hc] at hb; cases hb
       clear hb
       have hal : allK.any (jBad (ps ++ g)) = true := List.any_eq_true.2 ⟨((w : Int) + 1, (n : Int) + 1), allK_mem.2 (keyOk_iff.2 (by simp only; omega)), hjb⟩
       refine JA fun K7 hK7 => ?_
       refine Qz F_mixed [some 69, some 70, none, some 5] rfl ?_
       simp only [zzK, QR, QP, QQ, F_zero58, F_bld58, zz7, splice, Option.getD_some, QG, zz1, zzG, zzD, zzC, QA, yyE, Qe, QS, QN, zzH, zz10, JC, zz18, F_ok58, F_sz58, JB, zz6, QO, ↓Qb]
       refine hK7 _ ?_; try clear hK7 K7
       refine kpA [4, 5] ?_
       have e : addE ⟨nx, ts, ps⟩ g = 1 := by rw [addE_def, ho, hany, hlv, hal]; try rfl
       have ev : addV ⟨nx, ts, ps⟩ g = ⟨0, [], []⟩ := add_no (by rw [e]; decide)
       have hje : jErr (ps ++ g) ((w : Int) + 1, (n : Int) + 1) = 1 := by simp only [jErr, hjb]; rfl
       simp only [hje]
       refine awp_le (le_SK id [0, 1] rfl (l' := [(4, .ptr 4 0 0), (5, .d (iv 1))]) (m' := [(4, (⟨True, 58, 3, true, false, 4, [[.d (.v (.int .i64 0)), .ref 0 0, .ref 1 0]]⟩ : ARow)), (0, (⟨True, 86, 7, true, true, 0, []⟩ : ARow)), (1, (⟨True, 46, 4, true, true, 1, []⟩ : ARow))]) ?_ ?_ ?_ ?_) ?_
       ·simp only [leV, JD, QQ, Qd, Qc]; exact ⟨VLe.ptr_ (f := id) (by decide), Qo rfl, trivial⟩
       ·exact ⟨fun _ => ⟨_, rfl, RowLe.cells (VLess.one_ (VLes.cons_ (Qo rfl) (VLes.cons_ (Qq (by decide)) (VLes.cons_ (Qq (by decide)) VLes.nil_))))⟩, fun h => by simp at h, fun h => by simp at h, fun _ => rfl, fun h => by simp at h, fun _ => rfl, trivial⟩
       ·simp [wfV, QY, lookR]
       ·simp [wfR, QX, QY, lookR]
       refine JJ ?_
       simp only [zz6, QO, ↓Qb]
       rw [ev, e]
       refine doneN [0, 1] (by simp [resCs, resC, S, List.getD, JD, lookR, F_ag58, F_sz58, F_ok58]) ?_ (by simp [Ja, Jb, Jc, ]) (by simp [QY, QX, ]) (by decide) ?_
       ·simp only [QD, QE, resA, JZ, S_mem, lookR_cons, lookR_nil, QR, QP, JD, QQ, Qd, Qc, JP, QI, QJ, QH, QL, QK, List.take_zero, F_ag58, F_sz58, F_ok58]; rfl
       ·exact ⟨⟨_, rfl, trivial, rfl, rfl, rfl, rfl⟩, by simp [flatDs, Jc, tradeC], ⟨_, rfl, trivial, rfl, rfl, rfl, rfl⟩, by simp [flatDs, Jc, posC], trivial⟩
      ·intro hb
       have hjb : jBad (ps ++ g) ((w : Int) + 1, (n : Int) + 1) = false := by
        cases hc : jBad (ps ++ g) ((w : Int) + 1, (n : Int) + 1) with
        | false => rfl
        | true => simp only [jErr, hc] at hb; cases hb
       clear hb
       have hjp : jPos (ps ++ g) ((w : Int) + 1, (n : Int) + 1) = ⟨(w : Int) + 1, (n : Int) + 1, tsQ (kF ((w : Int) + 1) ((n : Int) + 1) (ps ++ g)), tsC (kF ((w : Int) + 1) ((n : Int) + 1) (ps ++ g))⟩ := by simp only [jPos, hjb, Qc]
       simp only [hjp]
       have hbn2 : (kW w ++ kN ((w : Int) + 1) (n + 1)).any (jBad (ps ++ g)) = false := by rw [kN_succ, ← List.append_assoc, List.any_append, hbn]; simp [hjb]
       refine JI ?_
       simp only [zz6, QO, ↓Qb]
       refine hK5 _ ?_; try clear hK5 K5
       refine kpA [1, 2, 4, 9, 10, 11, 12] ?_
       refine JA fun K5 hK5 => ?_
       refine Qz F_mixed [some 71, some 72, some 73, some 74, some 75, some 76, some 77, some 78] rfl ?_
       simp only [zzK, QR, QP, QQ, QU, JZ, zz5, Qj, Qi, Qh, zz19, zz23, F_off46_1, zzH, QN, QS, F_ok3, F_ag3, F_sz3, zz8, zzD, zzC, QA, yyE, Qe, zz21, JM, zz28, JC, F_off46_2, zz13, JQ, JR, zz6, QO, ↓Qb]
       refine hK5 _ ?_; try clear hK5 K5
       refine kpA [1, 2, 4, 9, 10, 11, 12, 78] ?_
       refine cnA ?_ ?_
       ·intro hb
        have hjo : jOut (ps ++ g) (kW w ++ kN ((w : Int) + 1) (n + 1)) = jOut (ps ++ g) (kW w ++ kN ((w : Int) + 1) n) ++ [⟨(w : Int) + 1, (n : Int) + 1, tsQ (kF ((w : Int) + 1) ((n : Int) + 1) (ps ++ g)), tsC (kF ((w : Int) + 1) ((n : Int) + 1) (ps ++ g))⟩] := by
         rw [kN_succ, ← List.append_assoc, jOut_app]
         congr 1
         simp only [jOut, List.flatMap_cons, List.flatMap_nil, QG, jOne]
         rw [hb]; rfl
        clear hb
        refine Qz F_mixed [some 79, some 80, some 81, some 82, some 83, some 84, none] rfl ?_
        simp only [zzK, QR, QP, QQ, zz19, zz23, F_off58_2, zzH, QN, QS, F_ok42, F_ag42, F_sz42, zz8, zzD, zzC, QA, yyE, Qe, F_ok46, F_ag46, F_sz46, F_sl42, F_zero46, zz3, JS, zz1, zzG, maxLen_le, QT, JE, F_by46, zz4, zz9, QB, zz18, splice, QG, posC, grow, unDs_map, QW, zz6, QO, ↓Qb]
        have hm : (jOut (ps ++ g) (kW w ++ kN ((w : Int) + 1) n)).length + 1 ≤ 1000000 := by first | omega | (simp; omega)
        first | refine ⟨le_maxLen hm, by omega, ?_⟩ | refine ⟨by simp, le_maxLen hm, by omega, ?_⟩
        clear hm
        refine hK4 _ ?_; try clear hK4 K4
        refine kpA [1, 2, 4, 9, 10, 11] ?_
        refine Qz F_mixed [some 56, some 57, some 11] rfl ?_
        simp only [zzK, QR, QP, QQ, JC, zz21, JM, zz26, JB, hwn, zz6, QO, ↓Qb]
        refine ⟨8 - (n + 1), _, by omega, le_SK (fun r => bif r == 500 then 83 else r) [] rfl (l' := [(1, .d (poss g)), (2, .ptr 2 0 0), (4, .ptr 4 0 0), (9, .ref 47001 ps.length), (10, .d (iv ((w : Nat) + 1 : Int))), (11, .d (iv (((n + 1) : Nat) + 1 : Int)))]) (m' := [(2, (⟨True, 58, 3, true, false, 2, [[.d (iv nx), .ref 47000 ts.length, .ref 500 (jOut (ps ++ g) (kW w ++ kN ((w : Int) + 1) (n + 1))).length]]⟩ : ARow)), (4, (⟨True, 58, 3, true, false, 4, [[.d (.v (.int .i64 0)), .d (.v (.slice none 0 0)), .d (.v (.slice none 0 0))]]⟩ : ARow)), (47000, (⟨True, 86, 7, true, true, 47000, (ts.map tradeC).map (·.map .d)⟩ : ARow)), (47001, (⟨True, 46, 4, true, true, 47001, (ps.map posC).map (·.map .d)⟩ : ARow)), (500, grow 46 4 500 ((jOut (ps ++ g) (kW w ++ kN ((w : Int) + 1) (n + 1))).map posC))]) ?_ ?_ ?_ ?_, (n + 1), by omega, hbn2, rfl, rfl⟩
        ·simp only [leV, JD, QQ, Qd, Qc, hwn]; exact ⟨(by first | exact Qo rfl | exact Qq (by decide) | exact Qp | exact Qn _ | exact Qs (by simp) (by rfl) | exact Qr (by simp) (by rfl) (by first | rfl | (simp; done) | (simp; omega)) | exact Qt (by first | rfl | simp)), (by first | exact Qo rfl | exact Qq (by decide) | exact Qp | exact Qn _ | exact Qs (by simp) (by rfl) | exact Qr (by simp) (by rfl) (by first | rfl | (simp; done) | (simp; omega)) | exact Qt (by first | rfl | simp)), (by first | exact Qo rfl | exact Qq (by decide) | exact Qp | exact Qn _ | exact Qs (by simp) (by rfl) | exact Qr (by simp) (by rfl) (by first | rfl | (simp; done) | (simp; omega)) | exact Qt (by first | rfl | simp)), (by first | exact Qo rfl | exact Qq (by decide) | exact Qp | exact Qn _ | exact Qs (by simp) (by rfl) | exact Qr (by simp) (by rfl) (by first | rfl | (simp; done) | (simp; omega)) | exact Qt (by first | rfl | simp)), (by first | exact Qo rfl | exact Qq (by decide) | exact Qp | exact Qn _ | exact Qs (by simp) (by rfl) | exact Qr (by simp) (by rfl) (by first | rfl | (simp; done) | (simp; omega)) | exact Qt (by first | rfl | simp)), (by first | exact Qo rfl | exact Qq (by decide) | exact Qp | exact Qn _ | exact Qs (by simp) (by rfl) | exact Qr (by simp) (by rfl) (by first | rfl | (simp; done) | (simp; omega)) | exact Qt (by first | rfl | simp)), trivial⟩
        ·exact ⟨fun _ => ⟨_, rfl, RowLe.cells (VLess.one_ (VLes.cons_ (Qt rfl) (VLes.cons_ (Qr (by simp) rfl (by simp)) (VLes.cons_ (Qr (by simp) rfl (by rw [hjo]; simp)) (VLes.nil_)))))⟩, fun h => by simp at h, fun _ => ⟨_, rfl, (by first | exact Qw (by first | rfl | simp) | exact Qx (by first | rfl | simp) (by simp) ids_data | exact Qv (by simp [QX, QY]) | exact Qu (by simp) (by simp [QX, QY]))⟩, fun h => by simp at h, fun _ => ⟨_, rfl, (by first | exact Qw (by first | rfl | simp) | exact Qx (by first | rfl | simp) (by simp) ids_data | exact Qv (by simp [QX, QY]) | exact Qu (by simp) (by simp [QX, QY]))⟩, fun h => by simp at h, fun _ => ⟨_, rfl, (by first | exact Qw (by first | rfl | simp) | exact Qx (by first | rfl | simp) (by simp) ids_data | exact Qv (by simp [QX, QY]) | exact Qu (by simp) (by simp [QX, QY]))⟩, fun h => by simp at h, fun _ => ⟨_, rfl, Qw (by rw [hjo]; simp [posC])⟩, fun h => by simp at h, trivial⟩
        ·simp [wfV, QY, QX, lookR, grow]
        ·exact ⟨by simp [QX, QY, lookR], by simp [QX, QY, lookR], wf_data _ _, wf_data _ _, wf_data _ _, trivial⟩
       ·intro hb
        have hjo : jOut (ps ++ g) (kW w ++ kN ((w : Int) + 1) (n + 1)) = jOut (ps ++ g) (kW w ++ kN ((w : Int) + 1) n) := by
         rw [kN_succ, ← List.append_assoc, jOut_app]
         simp only [jOut, List.flatMap_cons, List.flatMap_nil, QG, jOne]
         rw [hb]; simp
        clear hb
        refine JI ?_
        simp only [zz6, QO, ↓Qb]
        refine hK4 _ ?_; try clear hK4 K4
        refine kpA [1, 2, 4, 9, 10, 11] ?_
        refine Qz F_mixed [some 56, some 57, some 11] rfl ?_
        simp only [zzK, QR, QP, QQ, JC, zz21, JM, zz26, JB, hwn, zz6, QO, ↓Qb]
        refine ⟨8 - (n + 1), _, by omega, le_SK id [] rfl (l' := [(1, .d (poss g)), (2, .ptr 2 0 0), (4, .ptr 4 0 0), (9, .ref 47001 ps.length), (10, .d (iv ((w : Nat) + 1 : Int))), (11, .d (iv (((n + 1) : Nat) + 1 : Int)))]) (m' := [(2, (⟨True, 58, 3, true, false, 2, [[.d (iv nx), .ref 47000 ts.length, .ref 500 (jOut (ps ++ g) (kW w ++ kN ((w : Int) + 1) (n + 1))).length]]⟩ : ARow)), (4, (⟨True, 58, 3, true, false, 4, [[.d (.v (.int .i64 0)), .d (.v (.slice none 0 0)), .d (.v (.slice none 0 0))]]⟩ : ARow)), (47000, (⟨True, 86, 7, true, true, 47000, (ts.map tradeC).map (·.map .d)⟩ : ARow)), (47001, (⟨True, 46, 4, true, true, 47001, (ps.map posC).map (·.map .d)⟩ : ARow)), (500, grow 46 4 500 ((jOut (ps ++ g) (kW w ++ kN ((w : Int) + 1) (n + 1))).map posC))]) ?_ ?_ ?_ ?_, (n + 1), by omega, hbn2, rfl, rfl⟩
        ·simp only [leV, JD, QQ, Qd, Qc, hwn]; exact ⟨(by first | exact Qo rfl | exact Qq (by decide) | exact Qp | exact Qn _ | exact Qs (by simp) (by rfl) | exact Qr (by simp) (by rfl) (by first | rfl | (simp; done) | (simp; omega)) | exact Qt (by first | rfl | simp)), (by first | exact Qo rfl | exact Qq (by decide) | exact Qp | exact Qn _ | exact Qs (by simp) (by rfl) | exact Qr (by simp) (by rfl) (by first | rfl | (simp; done) | (simp; omega)) | exact Qt (by first | rfl | simp)), (by first | exact Qo rfl | exact Qq (by decide) | exact Qp | exact Qn _ | exact Qs (by simp) (by rfl) | exact Qr (by simp) (by rfl) (by first | rfl | (simp; done) | (simp; omega)) | exact Qt (by first | rfl | simp)), (by first | exact Qo rfl | exact Qq (by decide) | exact Qp | exact Qn _ | exact Qs (by simp) (by rfl) | exact Qr (by simp) (by rfl) (by first | rfl | (simp; done) | (simp; omega)) | exact Qt (by first | rfl | simp)), (by first | exact Qo rfl | exact Qq (by decide) | exact Qp | exact Qn _ | exact Qs (by simp) (by rfl) | exact Qr (by simp) (by rfl) (by first | rfl | (simp; done) | (simp; omega)) | exact Qt (by first | rfl | simp)), (by first | exact Qo rfl | exact Qq (by decide) | exact Qp | exact Qn _ | exact Qs (by simp) (by rfl) | exact Qr (by simp) (by rfl) (by first | rfl | (simp; done) | (simp; omega)) | exact Qt (by first | rfl | simp)), trivial⟩
        ·exact ⟨fun _ => ⟨_, rfl, RowLe.cells (VLess.one_ (VLes.cons_ (Qt rfl) (VLes.cons_ (Qr (by simp) rfl (by simp)) (VLes.cons_ (Qr (by simp) rfl (by rw [hjo])) (VLes.nil_)))))⟩, fun h => by simp at h, fun _ => ⟨_, rfl, (by first | exact Qw (by first | rfl | simp) | exact Qx (by first | rfl | simp) (by simp) ids_data | exact Qv (by simp [QX, QY]) | exact Qu (by simp) (by simp [QX, QY]))⟩, fun h => by simp at h, fun _ => ⟨_, rfl, (by first | exact Qw (by first | rfl | simp) | exact Qx (by first | rfl | simp) (by simp) ids_data | exact Qv (by simp [QX, QY]) | exact Qu (by simp) (by simp [QX, QY]))⟩, fun h => by simp at h, fun _ => ⟨_, rfl, (by first | exact Qw (by first | rfl | simp) | exact Qx (by first | rfl | simp) (by simp) ids_data | exact Qv (by simp [QX, QY]) | exact Qu (by simp) (by simp [QX, QY]))⟩, fun h => by simp at h, fun _ => ⟨_, rfl, Qw (by rw [hjo])⟩, fun h => by simp at h, trivial⟩
        ·simp [wfV, QY, QX, lookR, grow]
        ·exact ⟨by simp [QX, QY, lookR], by simp [QX, QY, lookR], wf_data _ _, wf_data _ _, wf_data _ _, trivial⟩
     ·intro hb
      obtain rfl : n = 8 := by have := Qf hb; omega
      clear hb
      refine JK ?_
      simp only [zz6, QO, ↓Qb]
      refine hK2 _ ?_; try clear hK2 K2
      refine kpA [1, 2, 4, 9, 10] ?_
      refine Qz F_mixed [some 52, some 53, some 10] rfl ?_
      simp only [zzK, QR, QP, QQ, JC, zz21, JM, zz26, JB, hww, zz6, QO, ↓Qb]
      refine ⟨16 - (w + 1), _, by omega, le_SK id [] rfl (l' := [(1, .d (poss g)), (2, .ptr 2 0 0), (4, .ptr 4 0 0), (9, .ref 47001 ps.length), (10, .d (iv (((w + 1) : Nat) + 1 : Int)))]) (m' := [(2, (⟨True, 58, 3, true, false, 2, [[.d (iv nx), .ref 47000 ts.length, .ref 500 (jOut (ps ++ g) (kW (w + 1))).length]]⟩ : ARow)), (4, (⟨True, 58, 3, true, false, 4, [[.d (.v (.int .i64 0)), .d (.v (.slice none 0 0)), .d (.v (.slice none 0 0))]]⟩ : ARow)), (47000, (⟨True, 86, 7, true, true, 47000, (ts.map tradeC).map (·.map .d)⟩ : ARow)), (47001, (⟨True, 46, 4, true, true, 47001, (ps.map posC).map (·.map .d)⟩ : ARow)), (500, grow 46 4 500 ((jOut (ps ++ g) (kW (w + 1))).map posC))]) ?_ ?_ ?_ ?_, (w + 1), by omega, by rw [kW_succ]; exact hbn, rfl, rfl⟩
      ·simp only [leV, JD, QQ, Qd, Qc, hww]; exact ⟨(by first | exact Qo rfl | exact Qq (by decide) | exact Qp | exact Qn _ | exact Qs (by simp) (by rfl) | exact Qr (by simp) (by rfl) (by first | rfl | (simp; done) | (simp; omega)) | exact Qt (by first | rfl | simp)), (by first | exact Qo rfl | exact Qq (by decide) | exact Qp | exact Qn _ | exact Qs (by simp) (by rfl) | exact Qr (by simp) (by rfl) (by first | rfl | (simp; done) | (simp; omega)) | exact Qt (by first | rfl | simp)), (by first | exact Qo rfl | exact Qq (by decide) | exact Qp | exact Qn _ | exact Qs (by simp) (by rfl) | exact Qr (by simp) (by rfl) (by first | rfl | (simp; done) | (simp; omega)) | exact Qt (by first | rfl | simp)), (by first | exact Qo rfl | exact Qq (by decide) | exact Qp | exact Qn _ | exact Qs (by simp) (by rfl) | exact Qr (by simp) (by rfl) (by first | rfl | (simp; done) | (simp; omega)) | exact Qt (by first | rfl | simp)), (by first | exact Qo rfl | exact Qq (by decide) | exact Qp | exact Qn _ | exact Qs (by simp) (by rfl) | exact Qr (by simp) (by rfl) (by first | rfl | (simp; done) | (simp; omega)) | exact Qt (by first | rfl | simp)), trivial⟩
      ·exact ⟨fun _ => ⟨_, rfl, RowLe.cells (VLess.one_ (VLes.cons_ (Qt rfl) (VLes.cons_ (Qr (by simp) rfl (by simp)) (VLes.cons_ (Qr (by simp) rfl (by rw [kW_succ])) (VLes.nil_)))))⟩, fun h => by simp at h, fun _ => ⟨_, rfl, (by first | exact Qw (by first | rfl | simp) | exact Qx (by first | rfl | simp) (by simp) ids_data | exact Qv (by simp [QX, QY]) | exact Qu (by simp) (by simp [QX, QY]))⟩, fun h => by simp at h, fun _ => ⟨_, rfl, (by first | exact Qw (by first | rfl | simp) | exact Qx (by first | rfl | simp) (by simp) ids_data | exact Qv (by simp [QX, QY]) | exact Qu (by simp) (by simp [QX, QY]))⟩, fun h => by simp at h, fun _ => ⟨_, rfl, (by first | exact Qw (by first | rfl | simp) | exact Qx (by first | rfl | simp) (by simp) ids_data | exact Qv (by simp [QX, QY]) | exact Qu (by simp) (by simp [QX, QY]))⟩, fun h => by simp at h, fun _ => ⟨_, rfl, Qw (by rw [kW_succ])⟩, fun h => by simp at h, trivial⟩
      ·simp [wfV, QY, QX, lookR, grow]
      ·exact ⟨by simp [QX, QY, lookR], by simp [QX, QY, lookR], wf_data _ _, wf_data _ _, wf_data _ _, trivial⟩
    ·intro hb
     obtain rfl : w = 16 := by have := Qf hb; omega
     clear hb
     refine JK ?_
     simp only [zz6, QO, ↓Qb]
     refine hK0 _ ?_; try clear hK0 K0
     refine kpA [2, 4] ?_
     refine JA fun K0 hK0 => ?_
     refine Qz F_mixed [some 85, none, some 5] rfl ?_
     simp only [zzK, QR, QP, QQ, F_ok58, F_ag58, F_sz58, zz8, zz23, zzD, QS, QN, zzH, zzC, QA, yyE, Qe, zz18, splice, QG, zz1, zzG, JB, zz6, QO, ↓Qb]
     refine hK0 _ ?_; try clear hK0 K0
     refine kpA [4, 5] ?_
     have e : addE ⟨nx, ts, ps⟩ g = 0 := by rw [addE_def, ho, hany, hlv, show allK.any (jBad (ps ++ g)) = false from hbw]; rfl
     have ev : addV ⟨nx, ts, ps⟩ g = ⟨nx, ts, jOut (ps ++ g) (kW 16)⟩ := add_val e
     refine awp_le (le_SK id [] rfl (l' := [(4, .ptr 4 0 0), (5, .d (iv 0))]) (m' := [(4, (⟨True, 58, 3, true, false, 4, [[.d (iv nx), .ref 47000 ts.length, .ref 500 (jOut (ps ++ g) (kW 16)).length]]⟩ : ARow)), (47000, (⟨True, 86, 7, true, true, 47000, (ts.map tradeC).map (·.map .d)⟩ : ARow)), (500, (⟨True, 46, 4, true, true, 500, ((jOut (ps ++ g) (kW 16)).map posC).map (·.map .d)⟩ : ARow))]) ?_ ?_ ?_ ?_) ?_
     ·simp only [leV, JD, QQ, Qd, Qc, JN]; exact ⟨Qn _, Qn _, trivial⟩
     ·exact ⟨fun _ => ⟨_, rfl, ⟨id, rfl, rfl, fun _ => rfl, id, .inl, by first | exact VLess.refl _ | (simp only [JN]; exact VLess.refl _)⟩⟩, fun h => by simp at h, fun _ => ⟨_, rfl, Qx rfl (by simp) ids_data⟩, fun h => by simp at h, fun _ => (by refine ⟨_, rfl, ?_⟩; exact RowLe.uq_ (by rfl) (by simp) ids_data), fun h => by simp at h, trivial⟩
     ·simp [wfV, QY, lookR]
     ·simp [wfR, QX, QY, lookR, tradeC, posC]
     refine JJ ?_
     simp only [zz6, QO, ↓Qb]
     rw [ev, e]
     refine doneN [47000, 500] (by simp [resCs, resC, S, List.getD, JD, lookR, F_ag58, F_sz58, F_ok58]) ?_ (by simp [Ja, Jb, Jc, ]) (by simp [QY, QX, ]) (by decide) ?_
     ·simp only [QD, QE, resA, JZ, S_mem, lookR_cons, lookR_nil, QR, QP, JD, QQ, Qd, Qc, JP, QI, QJ, QH, QL, QK, List.take_zero, F_ag58, F_sz58, F_ok58]; rfl
     ·exact ⟨⟨_, rfl, trivial, rfl, rfl, rfl, rfl⟩, by simp [flatDs, Jc, tradeC], ⟨_, rfl, trivial, rfl, rfl, rfl, rfl⟩, by simp [flatDs, Jc, posC], trivial⟩
theorem hit_ (t : TradeV) (no : Int) : ACalls Try.prog 79 [.agg (tradeC t), .pt [iv no]] [] (bv (hit no t)) := by
 refine acalls_S (rs := [.tmp 3]) Try.func79 rfl rfl 13 [(0, .d (.agg (tradeC t))), (1, .d (.pt [iv no]))] rfl (by simp) rfl ?_
 refine JA fun K0 hK0 => ?_
 refine Qz F_mixed [some 2, some 3] rfl ?_
 simp only [zzK, QR, QP, QQ, zz35, JS, zz1, zzG, zzD, zzC, QA, yyE, Qe, QS, QN, zzH, JB, tradeC, zz6, QO, ↓Qb]
 refine hK0 _ ?_; try clear hK0 K0
 refine kpA [1, 2] ?_
 refine JA fun K0 hK0 => ?_
 refine Qz F_mixed [some 4, some 5, some 6, some 7, some 8, some 9, some 10, some 11, some 12, some 3] rfl ?_
 simp only [zzK, QR, QP, QQ, QU, JZ, zz5, Qj, Qi, Qh, zz19, zz23, F_off86_0, zzH, QN, QS, F_ok3, F_ag3, F_sz3, zz8, zzD, zzC, QA, yyE, Qe, zz21, JM, zz34, JC, F_off86_6, F_ok4, F_ag4, F_sz4, zz29, zz30, zz13, JQ, JR, JB, evLd_pt_one, zz6, QO, ↓Qb]
 refine hK0 _ ?_; try clear hK0 K0
 refine kpA [3] ?_
 refine JJ ?_
 simp only [zz6, QO, ↓Qb]
 refine dnA ?_
 simp only [QD, QE, resA, JZ, QR, QP, JD, QQ, Qd, Qc, JP]
 rfl
theorem noIs_ (t : TradeV) (no : Int) : ACalls Try.prog 82 [.agg (tradeC t), .pt [iv no]] [] (bv (noIs no t)) := by
 refine acalls_S (rs := [.tmp 3]) Try.func82 rfl rfl 8 [(0, .d (.agg (tradeC t))), (1, .d (.pt [iv no]))] rfl (by simp) rfl ?_
 refine JA fun K0 hK0 => ?_
 refine Qz F_mixed [some 2, some 3] rfl ?_
 simp only [zzK, QR, QP, QQ, zz35, JS, zz1, zzG, zzD, zzC, QA, yyE, Qe, QS, QN, zzH, JB, tradeC, zz6, QO, ↓Qb]
 refine hK0 _ ?_; try clear hK0 K0
 refine kpA [1, 2] ?_
 refine JA fun K0 hK0 => ?_
 refine Qz F_mixed [some 4, some 5, some 6, some 7, some 3] rfl ?_
 simp only [zzK, QR, QP, QQ, zz19, zz23, F_off86_0, zzH, QN, QS, F_ok3, F_ag3, F_sz3, zz8, zzD, zzC, QA, yyE, Qe, zz21, JM, zz34, JB, evLd_pt_one, zz6, QO, ↓Qb]
 refine hK0 _ ?_; try clear hK0 K0
 refine kpA [3] ?_
 refine JJ ?_
 simp only [zz6, QO, ↓Qb]
 refine dnA ?_
 simp only [QD, QE, resA, JZ, QR, QP, JD, QQ, Qd, Qc, JP]
 rfl
theorem idxC_ (ts : List TradeV) (no : Int) (hl : ts.length ≤ 1000000) : ACalls Try.prog 78 [tradesB ts, .fn 79 [.pt [iv no]]] [] (.d (iv (idxF (hit no) ts))) := by
 refine acalls_S (rs := [.tmp 4]) Try.func78 rfl rfl 19 [(0, .d (tradesB ts)), (1, .d (.fn 79 [.pt [iv no]]))] rfl (by simp) rfl ?_
 refine JA fun K0 hK0 => ?_
 refine Qz F_mixed [some 4] rfl ?_
 simp only [zzK, QR, QP, QQ, JB, zz6, QO, ↓Qb]
 refine hK0 _ ?_; try clear hK0 K0
 refine kpA [0, 1] ?_
 refine JA fun K0 hK0 => ?_
 refine JA fun K1 hK1 => ?_
 refine Qz F_mixed [some 6, some 7, some 8] rfl ?_
 simp only [zzK, QR, QP, QQ, JC, JE, zz12, F_sl56, Option.isSome_some, tradesB, JN, zz6, QO, ↓Qb]
 refine hK1 _ ?_; try clear hK1 K1
 refine kpA [0, 1, 7, 8] ?_
 refine JH ?_
 refine JL (fun m s => ∃ (pre : List TradeV) (post : List TradeV), (ts = pre ++ post) ∧ (pre.any (hit no) = false) ∧ m = post.length ∧ s = S 19 [(0, .d (tradesB ts)), (1, .d (.fn 79 [.pt [iv no]])), (7, .d (iv ts.length)), (8, .d (iv pre.length))] []) (ts.length) _ (le_SK id [] rfl (l' := [(0, .d (tradesB ts)), (1, .d (.fn 79 [.pt [iv no]])), (7, .d (iv ts.length)), (8, .d (iv [].length))]) (m' := []) ?_ ?_ ?_ ?_) ⟨[], ts, rfl, rfl, rfl, rfl⟩ ?_
 ·simp only [leV, JD, QQ, Qd, Qc]; exact ⟨(by first | exact Qo rfl | exact Qq (by decide) | exact Qp | exact Qn _ | exact Qs (by simp) (by rfl) | exact Qr (by simp) (by rfl) (by first | rfl | (simp; done) | (simp; omega)) | exact Qt (by first | rfl | simp)), (by first | exact Qo rfl | exact Qq (by decide) | exact Qp | exact Qn _ | exact Qs (by simp) (by rfl) | exact Qr (by simp) (by rfl) (by first | rfl | (simp; done) | (simp; omega)) | exact Qt (by first | rfl | simp)), (by first | exact Qo rfl | exact Qq (by decide) | exact Qp | exact Qn _ | exact Qs (by simp) (by rfl) | exact Qr (by simp) (by rfl) (by first | rfl | (simp; done) | (simp; omega)) | exact Qt (by first | rfl | simp)), (by first | exact Qo rfl | exact Qq (by decide) | exact Qp | exact Qn _ | exact Qs (by simp) (by rfl) | exact Qr (by simp) (by rfl) (by first | rfl | (simp; done) | (simp; omega)) | exact Qt (by first | rfl | simp)), trivial⟩
 ·exact trivial
 ·simp [wfV, QY, QX, lookR, grow]
 ·simp [wfR]
 rintro m s ⟨pre, post, hsp, hany, rfl, rfl⟩
 have hspl := congrArg List.length hsp
 simp only [QC] at hspl
 refine JA fun K2 hK2 => ?_
 refine Qz F_mixed [some 9] rfl ?_
 simp only [zzK, QR, QP, QQ, zz21, JM, zz22, zz6, QO, ↓Qb]
 refine hK2 _ ?_; try clear hK2 K2
 refine kpA [0, 1, 7, 8, 9] ?_
 refine JA fun K2 hK2 => ?_
 refine cnA ?_ ?_
 ·intro hb
  obtain ⟨x, post2, rfl⟩ : ∃ x t, post = x :: t := by
   cases post with
   | nil => have := Qg hb; simp at hspl; omega
   | cons x t => exact ⟨x, t, rfl⟩
  clear hb
  simp only [QF] at hspl
  have gx : (ts.map tradeC).getD pre.length [] = [iv x.no, iv x.buyer, iv x.seller, iv x.inst, iv x.qty, iv x.price, .v (.bool x.gone)] := by
   rw [hsp, List.map_append]; exact gd_mid' (A := pre.map tradeC) _ _ (by simp)
  have bx := ltI (show pre.length < ts.length by omega)
  have hwx : Ql .i64 ((pre.length : Int) + 1) = ((pre ++ [x]).length : Int) := by rw [wrapI (by omega) (by omega)]; simp
  refine JI ?_
  simp only [zz6, QO, ↓Qb]
  refine hK2 _ ?_; try clear hK2 K2
  refine kpA [0, 1, 7, 8] ?_
  refine JA fun K2 hK2 => ?_
  refine JH ?_
  refine JA fun K3 hK3 => ?_
  refine Qz F_mixed [some 10, some 5] rfl ?_
  simp only [zzK, QR, QP, QQ, JC, JB, zz6, QO, ↓Qb]
  refine hK3 _ ?_; try clear hK3 K3
  refine kpA [0, 1, 5, 7, 8] ?_
  refine JA fun K3 hK3 => ?_
  refine Qz F_mixed [some 11, some 12, some 13, some 14, some 15, some 16] rfl ?_
  simp only [zzK, QR, QP, QQ, JC, JW, zz23, zz24, F_sl56, F_sz86, QA, zzC, yyE, Qe, F_ok86, F_ag86, zz8, zzD, QS, QN, zzH, JE, JF, tradesB, tradeC, gx, bx, hwx, JN, ge0, QV, QW, zz6, QO, ↓Qb]
  refine call_goC ?_ ?_ ⟨_, Try.func79, rfl, rfl⟩ (fun hG => (show ACalls Try.prog 79 ([.agg (tradeC x)] ++ [.pt [iv no]]) [] (bv (hit no x)) from hit_ x no)) (by simp [QY, QX]) (by simp) ?_
  ·decide
  ·simp only [JD, QQ, Qd, Qc, bare_d, bare_wh]
  simp only [zzK, QR, QP, QQ, JC, JW, zz23, zz24, F_sl56, F_sz86, QA, zzC, yyE, Qe, F_ok86, F_ag86, zz8, zzD, QS, QN, zzH, JE, JF, tradesB, tradeC, gx, bx, hwx, JN, ge0, QV, QW, zz6, QO, ↓Qb, QU, JZ, zz5, Qj, Qi, Qh, asEs_cons, asEs_nil, asE_ag, asE_d, asE_ref, asEc_cons, asEc_nil, asF_d, asF_ref, asF_ag, asGs, oksF, atsL, oksG, JV, QZ, Qa, JO, Qm, QT, QS, zz9, unDs_map, QB, QA, S_mem, yyF, QF, zz2]
  refine hK3 _ ?_; try clear hK3 K3
  refine kpA [0, 1, 5, 7, 8, 16] ?_
  refine cnA ?_ ?_
  ·intro hb
   have hx : hit no x = true := hb
   clear hb
   refine JA fun K4 hK4 => ?_
   refine Qz F_mixed [some 17, some 4] rfl ?_
   simp only [zzK, QR, QP, QQ, JC, JB, zz6, QO, ↓Qb]
   refine hK4 _ ?_; try clear hK4 K4
   refine kpA [4] ?_
   refine JJ ?_
   simp only [zz6, QO, ↓Qb]
   refine dnA ?_
   simp only [QD, QE, resA, JZ, QR, QP, JD, QQ, Qd, Qc, JP]
   rw [hsp, idxF_hit hany hx]
  ·intro hb
   have hx : hit no x = false := hb
   clear hb
   refine JI ?_
   simp only [zz6, QO, ↓Qb]
   refine hK2 _ ?_; try clear hK2 K2
   refine kpA [0, 1, 7, 8] ?_
   refine Qz F_mixed [some 18, some 8] rfl ?_
   simp only [zzK, QR, QP, QQ, zz21, JM, zz26, JC, hwx, zz6, QO, ↓Qb]
   refine ⟨post2.length, _, by simp, le_SK id [] rfl (l' := [(0, .d (tradesB ts)), (1, .d (.fn 79 [.pt [iv no]])), (7, .d (iv ts.length)), (8, .d (iv (pre ++ [x]).length))]) (m' := []) ?_ ?_ ?_ ?_, (pre ++ [x]), post2, by simp [hsp], by simp only [List.any_append, hany, List.any_cons, hx, List.any_nil, Bool.or_false], rfl, rfl⟩
   ·simp only [leV, JD, QQ, Qd, Qc, hwx]; exact ⟨(by first | exact Qo rfl | exact Qq (by decide) | exact Qp | exact Qn _ | exact Qs (by simp) (by rfl) | exact Qr (by simp) (by rfl) (by first | rfl | (simp; done) | (simp; omega)) | exact Qt (by first | rfl | simp)), (by first | exact Qo rfl | exact Qq (by decide) | exact Qp | exact Qn _ | exact Qs (by simp) (by rfl) | exact Qr (by simp) (by rfl) (by first | rfl | (simp; done) | (simp; omega)) | exact Qt (by first | rfl | simp)), (by first | exact Qo rfl | exact Qq (by decide) | exact Qp | exact Qn _ | exact Qs (by simp) (by rfl) | exact Qr (by simp) (by rfl) (by first | rfl | (simp; done) | (simp; omega)) | exact Qt (by first | rfl | simp)), (by first | exact Qo rfl | exact Qq (by decide) | exact Qp | exact Qn _ | exact Qs (by simp) (by rfl) | exact Qr (by simp) (by rfl) (by first | rfl | (simp; done) | (simp; omega)) | exact Qt (by first | rfl | simp)), trivial⟩
   ·exact trivial
   ·simp [wfV, QY, QX, lookR, grow]
   ·simp [wfR]
 ·intro hb
  obtain rfl : post = [] := by
   cases post with
   | nil => rfl
   | cons x t => have := Qf hb; simp at hspl; omega
  clear hb
  simp only [QG] at hsp
  subst hsp
  refine JK ?_
  simp only [zz6, QO, ↓Qb]
  refine hK0 _ ?_; try clear hK0 K0
  refine kpA [] ?_
  refine JA fun K0 hK0 => ?_
  refine Qz F_mixed [some 4] rfl ?_
  simp only [zzK, QR, QP, QQ, JB, zz6, QO, ↓Qb]
  refine hK0 _ ?_; try clear hK0 K0
  refine kpA [4] ?_
  refine JJ ?_
  simp only [zz6, QO, ↓Qb]
  refine dnA ?_
  simp only [QD, QE, resA, JZ, QR, QP, JD, QQ, Qd, Qc, JP]
  rw [idxF_no hany]
theorem idxN_ (ts : List TradeV) (no : Int) (hl : ts.length ≤ 1000000) : ACalls Try.prog 78 [tradesB ts, .fn 82 [.pt [iv no]]] [] (.d (iv (idxF (noIs no) ts))) := by
 refine acalls_S (rs := [.tmp 4]) Try.func78 rfl rfl 19 [(0, .d (tradesB ts)), (1, .d (.fn 82 [.pt [iv no]]))] rfl (by simp) rfl ?_
 refine JA fun K0 hK0 => ?_
 refine Qz F_mixed [some 4] rfl ?_
 simp only [zzK, QR, QP, QQ, JB, zz6, QO, ↓Qb]
 refine hK0 _ ?_; try clear hK0 K0
 refine kpA [0, 1] ?_
 refine JA fun K0 hK0 => ?_
 refine JA fun K1 hK1 => ?_
 refine Qz F_mixed [some 6, some 7, some 8] rfl ?_
 simp only [zzK, QR, QP, QQ, JC, JE, zz12, F_sl56, Option.isSome_some, tradesB, JN, zz6, QO, ↓Qb]
 refine hK1 _ ?_; try clear hK1 K1
 refine kpA [0, 1, 7, 8] ?_
 refine JH ?_
 refine JL (fun m s => ∃ (pre : List TradeV) (post : List TradeV), (ts = pre ++ post) ∧ (pre.any (noIs no) = false) ∧ m = post.length ∧ s = S 19 [(0, .d (tradesB ts)), (1, .d (.fn 82 [.pt [iv no]])), (7, .d (iv ts.length)), (8, .d (iv pre.length))] []) (ts.length) _ (le_SK id [] rfl (l' := [(0, .d (tradesB ts)), (1, .d (.fn 82 [.pt [iv no]])), (7, .d (iv ts.length)), (8, .d (iv [].length))]) (m' := []) ?_ ?_ ?_ ?_) ⟨[], ts, rfl, rfl, rfl, rfl⟩ ?_
 ·simp only [leV, JD, QQ, Qd, Qc]; exact ⟨(by first | exact Qo rfl | exact Qq (by decide) | exact Qp | exact Qn _ | exact Qs (by simp) (by rfl) | exact Qr (by simp) (by rfl) (by first | rfl | (simp; done) | (simp; omega)) | exact Qt (by first | rfl | simp)), (by first | exact Qo rfl | exact Qq (by decide) | exact Qp | exact Qn _ | exact Qs (by simp) (by rfl) | exact Qr (by simp) (by rfl) (by first | rfl | (simp; done) | (simp; omega)) | exact Qt (by first | rfl | simp)), (by first | exact Qo rfl | exact Qq (by decide) | exact Qp | exact Qn _ | exact Qs (by simp) (by rfl) | exact Qr (by simp) (by rfl) (by first | rfl | (simp; done) | (simp; omega)) | exact Qt (by first | rfl | simp)), (by first | exact Qo rfl | exact Qq (by decide) | exact Qp | exact Qn _ | exact Qs (by simp) (by rfl) | exact Qr (by simp) (by rfl) (by first | rfl | (simp; done) | (simp; omega)) | exact Qt (by first | rfl | simp)), trivial⟩
 ·exact trivial
 ·simp [wfV, QY, QX, lookR, grow]
 ·simp [wfR]
 rintro m s ⟨pre, post, hsp, hany, rfl, rfl⟩
 have hspl := congrArg List.length hsp
 simp only [QC] at hspl
 refine JA fun K2 hK2 => ?_
 refine Qz F_mixed [some 9] rfl ?_
 simp only [zzK, QR, QP, QQ, zz21, JM, zz22, zz6, QO, ↓Qb]
 refine hK2 _ ?_; try clear hK2 K2
 refine kpA [0, 1, 7, 8, 9] ?_
 refine JA fun K2 hK2 => ?_
 refine cnA ?_ ?_
 ·intro hb
  obtain ⟨x, post2, rfl⟩ : ∃ x t, post = x :: t := by
   cases post with
   | nil => have := Qg hb; simp at hspl; omega
   | cons x t => exact ⟨x, t, rfl⟩
  clear hb
  simp only [QF] at hspl
  have gx : (ts.map tradeC).getD pre.length [] = [iv x.no, iv x.buyer, iv x.seller, iv x.inst, iv x.qty, iv x.price, .v (.bool x.gone)] := by
   rw [hsp, List.map_append]; exact gd_mid' (A := pre.map tradeC) _ _ (by simp)
  have bx := ltI (show pre.length < ts.length by omega)
  have hwx : Ql .i64 ((pre.length : Int) + 1) = ((pre ++ [x]).length : Int) := by rw [wrapI (by omega) (by omega)]; simp
  refine JI ?_
  simp only [zz6, QO, ↓Qb]
  refine hK2 _ ?_; try clear hK2 K2
  refine kpA [0, 1, 7, 8] ?_
  refine JA fun K2 hK2 => ?_
  refine JH ?_
  refine JA fun K3 hK3 => ?_
  refine Qz F_mixed [some 10, some 5] rfl ?_
  simp only [zzK, QR, QP, QQ, JC, JB, zz6, QO, ↓Qb]
  refine hK3 _ ?_; try clear hK3 K3
  refine kpA [0, 1, 5, 7, 8] ?_
  refine JA fun K3 hK3 => ?_
  refine Qz F_mixed [some 11, some 12, some 13, some 14, some 15, some 16] rfl ?_
  simp only [zzK, QR, QP, QQ, JC, JW, zz23, zz24, F_sl56, F_sz86, QA, zzC, yyE, Qe, F_ok86, F_ag86, zz8, zzD, QS, QN, zzH, JE, JF, tradesB, tradeC, gx, bx, hwx, JN, ge0, QV, QW, zz6, QO, ↓Qb]
  refine call_goC ?_ ?_ ⟨_, Try.func82, rfl, rfl⟩ (fun hG => (show ACalls Try.prog 82 ([.agg (tradeC x)] ++ [.pt [iv no]]) [] (bv (noIs no x)) from noIs_ x no)) (by simp [QY, QX]) (by simp) ?_
  ·decide
  ·simp only [JD, QQ, Qd, Qc, bare_d, bare_wh]
  simp only [zzK, QR, QP, QQ, JC, JW, zz23, zz24, F_sl56, F_sz86, QA, zzC, yyE, Qe, F_ok86, F_ag86, zz8, zzD, QS, QN, zzH, JE, JF, tradesB, tradeC, gx, bx, hwx, JN, ge0, QV, QW, zz6, QO, ↓Qb, QU, JZ, zz5, Qj, Qi, Qh, asEs_cons, asEs_nil, asE_ag, asE_d, asE_ref, asEc_cons, asEc_nil, asF_d, asF_ref, asF_ag, asGs, oksF, atsL, oksG, JV, QZ, Qa, JO, Qm, QT, QS, zz9, unDs_map, QB, QA, S_mem, yyF, QF, zz2]
  refine hK3 _ ?_; try clear hK3 K3
  refine kpA [0, 1, 5, 7, 8, 16] ?_
  refine cnA ?_ ?_
  ·intro hb
   have hx : noIs no x = true := hb
   clear hb
   refine JA fun K4 hK4 => ?_
   refine Qz F_mixed [some 17, some 4] rfl ?_
   simp only [zzK, QR, QP, QQ, JC, JB, zz6, QO, ↓Qb]
   refine hK4 _ ?_; try clear hK4 K4
   refine kpA [4] ?_
   refine JJ ?_
   simp only [zz6, QO, ↓Qb]
   refine dnA ?_
   simp only [QD, QE, resA, JZ, QR, QP, JD, QQ, Qd, Qc, JP]
   rw [hsp, idxF_hit hany hx]
  ·intro hb
   have hx : noIs no x = false := hb
   clear hb
   refine JI ?_
   simp only [zz6, QO, ↓Qb]
   refine hK2 _ ?_; try clear hK2 K2
   refine kpA [0, 1, 7, 8] ?_
   refine Qz F_mixed [some 18, some 8] rfl ?_
   simp only [zzK, QR, QP, QQ, zz21, JM, zz26, JC, hwx, zz6, QO, ↓Qb]
   refine ⟨post2.length, _, by simp, le_SK id [] rfl (l' := [(0, .d (tradesB ts)), (1, .d (.fn 82 [.pt [iv no]])), (7, .d (iv ts.length)), (8, .d (iv (pre ++ [x]).length))]) (m' := []) ?_ ?_ ?_ ?_, (pre ++ [x]), post2, by simp [hsp], by simp only [List.any_append, hany, List.any_cons, hx, List.any_nil, Bool.or_false], rfl, rfl⟩
   ·simp only [leV, JD, QQ, Qd, Qc, hwx]; exact ⟨(by first | exact Qo rfl | exact Qq (by decide) | exact Qp | exact Qn _ | exact Qs (by simp) (by rfl) | exact Qr (by simp) (by rfl) (by first | rfl | (simp; done) | (simp; omega)) | exact Qt (by first | rfl | simp)), (by first | exact Qo rfl | exact Qq (by decide) | exact Qp | exact Qn _ | exact Qs (by simp) (by rfl) | exact Qr (by simp) (by rfl) (by first | rfl | (simp; done) | (simp; omega)) | exact Qt (by first | rfl | simp)), (by first | exact Qo rfl | exact Qq (by decide) | exact Qp | exact Qn _ | exact Qs (by simp) (by rfl) | exact Qr (by simp) (by rfl) (by first | rfl | (simp; done) | (simp; omega)) | exact Qt (by first | rfl | simp)), (by first | exact Qo rfl | exact Qq (by decide) | exact Qp | exact Qn _ | exact Qs (by simp) (by rfl) | exact Qr (by simp) (by rfl) (by first | rfl | (simp; done) | (simp; omega)) | exact Qt (by first | rfl | simp)), trivial⟩
   ·exact trivial
   ·simp [wfV, QY, QX, lookR, grow]
   ·simp [wfR]
 ·intro hb
  obtain rfl : post = [] := by
   cases post with
   | nil => rfl
   | cons x t => have := Qf hb; simp at hspl; omega
  clear hb
  simp only [QG] at hsp
  subst hsp
  refine JK ?_
  simp only [zz6, QO, ↓Qb]
  refine hK0 _ ?_; try clear hK0 K0
  refine kpA [] ?_
  refine JA fun K0 hK0 => ?_
  refine Qz F_mixed [some 4] rfl ?_
  simp only [zzK, QR, QP, QQ, JB, zz6, QO, ↓Qb]
  refine hK0 _ ?_; try clear hK0 K0
  refine kpA [4] ?_
  refine JJ ?_
  simp only [zz6, QO, ↓Qb]
  refine dnA ?_
  simp only [QD, QE, resA, JZ, QR, QP, JD, QQ, Qd, Qc, JP]
  rw [idxF_no hany]
theorem LegsF (t : TradeV) : ACalls Try.prog 84 [.agg (tradeC t)] [] (.d (poss (legs t))) := (Legs_u t).freeze (by simp [frzOk])
theorem UndoF (t : TradeV) : ACalls Try.prog 81 [.agg (tradeC t)] [] (.d (poss (undo t))) := (Undo_u t).freeze (by simp [frzOk, undo])
theorem enter_ (nx : Int) (ts : List TradeV) (ps : List PosV) (t : TradeV) (ht : ts.length ≤ 150000) (hp : ps.length ≤ 150000) : ACalls Try.prog 58 [.agg (bookC ⟨nx, ts, ps⟩), .agg (tradeC t)] [⟨86, 7, (enterV ⟨nx, ts, ps⟩ t).trades.map tradeC⟩, ⟨46, 4, (enterV ⟨nx, ts, ps⟩ t).poss.map posC⟩] (.tp [.ag [.d (iv (enterV ⟨nx, ts, ps⟩ t).next), .ref 0 (enterV ⟨nx, ts, ps⟩ t).trades.length, .ref 1 (enterV ⟨nx, ts, ps⟩ t).poss.length], .d (iv (enterN ⟨nx, ts, ps⟩ t)), .d (iv (enterE ⟨nx, ts, ps⟩ t))]) := by
 refine acalls_S (rs := [.cell 4 58, .tmp 5, .tmp 6]) Try.func58 rfl rfl 59 [(0, .d (.agg (bookC ⟨nx, ts, ps⟩))), (1, .d (.agg (tradeC t)))] rfl (by simp) rfl ?_
 refine JA fun K0 hK0 => ?_
 refine Qz F_mixed [some 2, some 3, some 4, some 5, some 6] rfl ?_
 simp only [zzK, QR, QP, QQ, zz35, JS, zz1, zzG, zzD, zzC, QA, yyE, Qe, QS, QN, zzH, zz32, F_zero58, zz10, JB, bookC, tradesB, poss, tradeC, zz6, QO, ↓Qb]
 refine hK0 _ ?_; try clear hK0 K0
 refine kpA [2, 3, 4] ?_
 refine JA fun K0 hK0 => ?_
 refine Qz F_mixed [some 8, some 9, some 7] rfl ?_
 simp only [zzK, QR, QP, QQ, F_ok58, F_ag58, F_sz58, zz8, zz23, zzD, QS, QN, zzH, zzC, QA, yyE, Qe, JE, JF, JB, bookC, tradesB, poss, QW, zz6, QO, ↓Qb]
 refine JT F_go39 (fun hG => bCheck_ nx ts ps (by omega) (by omega)) (by simp [QY, QX]) (by simp) ?_
 simp only [zzK, QR, QP, QQ, F_ok58, F_ag58, F_sz58, zz8, zz23, zzD, QS, QN, zzH, zzC, QA, yyE, Qe, JE, JF, JB, bookC, tradesB, poss, QW, zz6, QO, ↓Qb, atsL, oksG, JV, QZ, Qa, JO, Qm, QT, QS, zz9, QB, QA, S_mem, yyF, QF, zz2]
 refine hK0 _ ?_; try clear hK0 K0
 refine kpA [2, 3, 4, 7] ?_
 refine JA fun K0 hK0 => ?_
 refine JH ?_
 refine JA fun K1 hK1 => ?_
 refine Qz F_mixed [some 11, some 12, some 10] rfl ?_
 simp only [zzK, QR, QP, QQ, JC, zz21, JM, zz28, JB, zz6, QO, ↓Qb]
 refine hK1 _ ?_; try clear hK1 K1
 refine kpA [2, 3, 4, 7, 10] ?_
 refine cnA ?_ ?_
 ·intro hb
  have hn : bookE ⟨nx, ts, ps⟩ ≠ 0 := by simpa using hb
  clear hb
  obtain ⟨ho, hE⟩ := bookE_bad hn
  simp only [hE]
  refine JA fun K2 hK2 => ?_
  refine Qz F_mixed [some 13, some 14, none, some 5, some 6] rfl ?_
  simp only [zzK, QR, QP, QQ, F_zero58, F_bld58, zz7, splice, Option.getD_some, QG, zz1, zzG, zzD, zzC, QA, yyE, Qe, QS, QN, zzH, zz10, JC, zz18, F_ok58, F_sz58, JB, zz6, QO, ↓Qb]
  refine hK2 _ ?_; try clear hK2 K2
  refine kpA [4, 5, 6] ?_
  have e : enterE ⟨nx, ts, ps⟩ t = 14 := by rw [enterE_def, ho]; try rfl
  obtain ⟨ev, en⟩ := enter_no (b := ⟨nx, ts, ps⟩) (t := t) (by rw [e]; first | decide | assumption)
  refine awp_le (le_SK id [0, 1] rfl (l' := [(4, .ptr 4 0 0), (5, .d (iv 0)), (6, .d (iv 14))]) (m' := [(4, (⟨True, 58, 3, true, false, 4, [[.d (.v (.int .i64 0)), .ref 0 0, .ref 1 0]]⟩ : ARow)), (0, (⟨True, 86, 7, true, true, 0, []⟩ : ARow)), (1, (⟨True, 46, 4, true, true, 1, []⟩ : ARow))]) ?_ ?_ ?_ ?_) ?_
  ·simp only [leV, JD, QQ, Qd, Qc]; exact ⟨VLe.ptr_ (f := id) (by decide), Qo rfl, Qo rfl, trivial⟩
  ·exact ⟨fun _ => ⟨_, rfl, RowLe.cells (VLess.one_ (VLes.cons_ (Qo rfl) (VLes.cons_ (Qq (by decide)) (VLes.cons_ (Qq (by decide)) VLes.nil_))))⟩, fun h => by simp at h, fun h => by simp at h, fun _ => rfl, fun h => by simp at h, fun _ => rfl, trivial⟩
  ·simp [wfV, QY, lookR]
  ·simp [wfR, QX, QY, lookR]
  refine JJ ?_
  simp only [zz6, QO, ↓Qb]
  rw [ev, e, en]
  refine doneN [0, 1] (by simp [resCs, resC, S, List.getD, JD, lookR, F_ag58, F_sz58, F_ok58]) ?_ (by simp [Ja, Jb, Jc, ]) (by simp [QY, QX, ]) (by decide) ?_
  ·simp only [QD, QE, resA, JZ, S_mem, lookR_cons, lookR_nil, QR, QP, JD, QQ, Qd, Qc, JP, QI, QJ, QH, QL, QK, List.take_zero, F_ag58, F_sz58, F_ok58]; rfl
  ·exact ⟨⟨_, rfl, trivial, rfl, rfl, rfl, rfl⟩, by simp [flatDs, Jc, tradeC], ⟨_, rfl, trivial, rfl, rfl, rfl, rfl⟩, by simp [flatDs, Jc, posC], trivial⟩
 ·intro hb
  have ho : bookOk ⟨nx, ts, ps⟩ = true := bookE_ok (by simpa using hb)
  clear hb
  refine JA fun K2 hK2 => ?_
  refine Qz F_mixed [some 16, some 17, some 18, some 15] rfl ?_
  simp only [zzK, QR, QP, QQ, F_ok86, F_ag86, F_sz86, zz8, zz23, zzD, QS, QN, zzH, zzC, QA, yyE, Qe, JE, JF, zz29, JM, zz30, JB, tradeC, QW, zz6, QO, ↓Qb]
  refine JT F_go61 (fun hG => rtOk_ t) (by simp [QY, QX]) (by simp) ?_
  simp only [zzK, QR, QP, QQ, F_ok86, F_ag86, F_sz86, zz8, zz23, zzD, QS, QN, zzH, zzC, QA, yyE, Qe, JE, JF, zz29, JM, zz30, JB, tradeC, QW, zz6, QO, ↓Qb, atsL, oksG, JV, QZ, Qa, JO, Qm, QT, QS, zz9, QB, QA, S_mem, yyF, QF, zz2]
  refine hK2 _ ?_; try clear hK2 K2
  refine kpA [2, 3, 4, 15] ?_
  refine cnA ?_ ?_
  ·intro hb
   have hr : rtOk t = false := by simpa using hb
   clear hb
   refine JA fun K3 hK3 => ?_
   refine Qz F_mixed [some 19, none, some 5, some 6] rfl ?_
   simp only [zzK, QR, QP, QQ, F_zero58, F_bld58, zz7, splice, Option.getD_some, QG, zz1, zzG, zzD, zzC, QA, yyE, Qe, QS, QN, zzH, zz10, zz18, F_ok58, F_sz58, JB, zz6, QO, ↓Qb]
   refine hK3 _ ?_; try clear hK3 K3
   refine kpA [4, 5, 6] ?_
   have e : enterE ⟨nx, ts, ps⟩ t = 3 := by rw [enterE_def, ho, hr]; try rfl
   obtain ⟨ev, en⟩ := enter_no (b := ⟨nx, ts, ps⟩) (t := t) (by rw [e]; first | decide | assumption)
   refine awp_le (le_SK id [0, 1] rfl (l' := [(4, .ptr 4 0 0), (5, .d (iv 0)), (6, .d (iv 3))]) (m' := [(4, (⟨True, 58, 3, true, false, 4, [[.d (.v (.int .i64 0)), .ref 0 0, .ref 1 0]]⟩ : ARow)), (0, (⟨True, 86, 7, true, true, 0, []⟩ : ARow)), (1, (⟨True, 46, 4, true, true, 1, []⟩ : ARow))]) ?_ ?_ ?_ ?_) ?_
   ·simp only [leV, JD, QQ, Qd, Qc]; exact ⟨VLe.ptr_ (f := id) (by decide), Qo rfl, Qo rfl, trivial⟩
   ·exact ⟨fun _ => ⟨_, rfl, RowLe.cells (VLess.one_ (VLes.cons_ (Qo rfl) (VLes.cons_ (Qq (by decide)) (VLes.cons_ (Qq (by decide)) VLes.nil_))))⟩, fun h => by simp at h, fun h => by simp at h, fun _ => rfl, fun h => by simp at h, fun _ => rfl, trivial⟩
   ·simp [wfV, QY, lookR]
   ·simp [wfR, QX, QY, lookR]
   refine JJ ?_
   simp only [zz6, QO, ↓Qb]
   rw [ev, e, en]
   refine doneN [0, 1] (by simp [resCs, resC, S, List.getD, JD, lookR, F_ag58, F_sz58, F_ok58]) ?_ (by simp [Ja, Jb, Jc, ]) (by simp [QY, QX, ]) (by decide) ?_
   ·simp only [QD, QE, resA, JZ, S_mem, lookR_cons, lookR_nil, QR, QP, JD, QQ, Qd, Qc, JP, QI, QJ, QH, QL, QK, List.take_zero, F_ag58, F_sz58, F_ok58]; rfl
   ·exact ⟨⟨_, rfl, trivial, rfl, rfl, rfl, rfl⟩, by simp [flatDs, Jc, tradeC], ⟨_, rfl, trivial, rfl, rfl, rfl, rfl⟩, by simp [flatDs, Jc, posC], trivial⟩
  ·intro hb
   have hr : rtOk t = true := by simpa using hb
   clear hb
   refine JA fun K3 hK3 => ?_
   refine Qz F_mixed [some 21, some 22, some 23, some 24, some 20] rfl ?_
   simp only [zzK, QR, QP, QQ, zz19, zz23, F_off58_1, zzH, QN, QS, F_ok56, F_ag56, F_sz56, zz8, zzD, zzC, QA, yyE, Qe, JE, zz12, F_sl56, Option.isSome_some, zz21, JM, zz31, JB, JN, zz6, QO, ↓Qb]
   refine hK3 _ ?_; try clear hK3 K3
   refine kpA [2, 3, 4, 20] ?_
   refine cnA ?_ ?_
   ·intro hb
    have hf : decide ((ts.length : Int) ≥ 128) = true := hb
    clear hb
    refine JA fun K4 hK4 => ?_
    refine Qz F_mixed [some 25, none, some 5, some 6] rfl ?_
    simp only [zzK, QR, QP, QQ, F_zero58, F_bld58, zz7, splice, Option.getD_some, QG, zz1, zzG, zzD, zzC, QA, yyE, Qe, QS, QN, zzH, zz10, zz18, F_ok58, F_sz58, JB, zz6, QO, ↓Qb]
    refine hK4 _ ?_; try clear hK4 K4
    refine kpA [4, 5, 6] ?_
    have e : enterE ⟨nx, ts, ps⟩ t = 9 := by rw [enterE_def, ho, hr, hf]; try rfl
    obtain ⟨ev, en⟩ := enter_no (b := ⟨nx, ts, ps⟩) (t := t) (by rw [e]; first | decide | assumption)
    refine awp_le (le_SK id [0, 1] rfl (l' := [(4, .ptr 4 0 0), (5, .d (iv 0)), (6, .d (iv 9))]) (m' := [(4, (⟨True, 58, 3, true, false, 4, [[.d (.v (.int .i64 0)), .ref 0 0, .ref 1 0]]⟩ : ARow)), (0, (⟨True, 86, 7, true, true, 0, []⟩ : ARow)), (1, (⟨True, 46, 4, true, true, 1, []⟩ : ARow))]) ?_ ?_ ?_ ?_) ?_
    ·simp only [leV, JD, QQ, Qd, Qc]; exact ⟨VLe.ptr_ (f := id) (by decide), Qo rfl, Qo rfl, trivial⟩
    ·exact ⟨fun _ => ⟨_, rfl, RowLe.cells (VLess.one_ (VLes.cons_ (Qo rfl) (VLes.cons_ (Qq (by decide)) (VLes.cons_ (Qq (by decide)) VLes.nil_))))⟩, fun h => by simp at h, fun h => by simp at h, fun _ => rfl, fun h => by simp at h, fun _ => rfl, trivial⟩
    ·simp [wfV, QY, lookR]
    ·simp [wfR, QX, QY, lookR]
    refine JJ ?_
    simp only [zz6, QO, ↓Qb]
    rw [ev, e, en]
    refine doneN [0, 1] (by simp [resCs, resC, S, List.getD, JD, lookR, F_ag58, F_sz58, F_ok58]) ?_ (by simp [Ja, Jb, Jc, ]) (by simp [QY, QX, ]) (by decide) ?_
    ·simp only [QD, QE, resA, JZ, S_mem, lookR_cons, lookR_nil, QR, QP, JD, QQ, Qd, Qc, JP, QI, QJ, QH, QL, QK, List.take_zero, F_ag58, F_sz58, F_ok58]; rfl
    ·exact ⟨⟨_, rfl, trivial, rfl, rfl, rfl, rfl⟩, by simp [flatDs, Jc, tradeC], ⟨_, rfl, trivial, rfl, rfl, rfl, rfl⟩, by simp [flatDs, Jc, posC], trivial⟩
   ·intro hb
    have hf : decide ((ts.length : Int) ≥ 128) = false := hb
    clear hb
    refine JA fun K4 hK4 => ?_
    refine Qz F_mixed [some 27, some 28, some 29, some 26] rfl ?_
    simp only [zzK, QR, QP, QQ, zz19, zz23, F_off58_0, zzH, QN, QS, F_ok3, F_ag3, F_sz3, zz8, zzD, zzC, QA, yyE, Qe, zz21, JM, zz31, JB, zz6, QO, ↓Qb]
    refine hK4 _ ?_; try clear hK4 K4
    refine kpA [2, 3, 4, 26] ?_
    refine cnA ?_ ?_
    ·intro hb
     have hx : decide (nx ≥ 1099511627776) = true := hb
     clear hb
     refine JA fun K5 hK5 => ?_
     refine Qz F_mixed [some 30, none, some 5, some 6] rfl ?_
     simp only [zzK, QR, QP, QQ, F_zero58, F_bld58, zz7, splice, Option.getD_some, QG, zz1, zzG, zzD, zzC, QA, yyE, Qe, QS, QN, zzH, zz10, zz18, F_ok58, F_sz58, JB, zz6, QO, ↓Qb]
     refine hK5 _ ?_; try clear hK5 K5
     refine kpA [4, 5, 6] ?_
     have e : enterE ⟨nx, ts, ps⟩ t = 1 := by rw [enterE_def, ho, hr, hf, hx]; try rfl
     obtain ⟨ev, en⟩ := enter_no (b := ⟨nx, ts, ps⟩) (t := t) (by rw [e]; first | decide | assumption)
     refine awp_le (le_SK id [0, 1] rfl (l' := [(4, .ptr 4 0 0), (5, .d (iv 0)), (6, .d (iv 1))]) (m' := [(4, (⟨True, 58, 3, true, false, 4, [[.d (.v (.int .i64 0)), .ref 0 0, .ref 1 0]]⟩ : ARow)), (0, (⟨True, 86, 7, true, true, 0, []⟩ : ARow)), (1, (⟨True, 46, 4, true, true, 1, []⟩ : ARow))]) ?_ ?_ ?_ ?_) ?_
     ·simp only [leV, JD, QQ, Qd, Qc]; exact ⟨VLe.ptr_ (f := id) (by decide), Qo rfl, Qo rfl, trivial⟩
     ·exact ⟨fun _ => ⟨_, rfl, RowLe.cells (VLess.one_ (VLes.cons_ (Qo rfl) (VLes.cons_ (Qq (by decide)) (VLes.cons_ (Qq (by decide)) VLes.nil_))))⟩, fun h => by simp at h, fun h => by simp at h, fun _ => rfl, fun h => by simp at h, fun _ => rfl, trivial⟩
     ·simp [wfV, QY, lookR]
     ·simp [wfR, QX, QY, lookR]
     refine JJ ?_
     simp only [zz6, QO, ↓Qb]
     rw [ev, e, en]
     refine doneN [0, 1] (by simp [resCs, resC, S, List.getD, JD, lookR, F_ag58, F_sz58, F_ok58]) ?_ (by simp [Ja, Jb, Jc, ]) (by simp [QY, QX, ]) (by decide) ?_
     ·simp only [QD, QE, resA, JZ, S_mem, lookR_cons, lookR_nil, QR, QP, JD, QQ, Qd, Qc, JP, QI, QJ, QH, QL, QK, List.take_zero, F_ag58, F_sz58, F_ok58]; rfl
     ·exact ⟨⟨_, rfl, trivial, rfl, rfl, rfl, rfl⟩, by simp [flatDs, Jc, tradeC], ⟨_, rfl, trivial, rfl, rfl, rfl, rfl⟩, by simp [flatDs, Jc, posC], trivial⟩
    ·intro hb
     have hx : decide (nx ≥ 1099511627776) = false := hb
     clear hb
     have hll := legs_len2 t
     refine JI ?_
     simp only [zz6, QO, ↓Qb]
     refine hK0 _ ?_; try clear hK0 K0
     refine kpA [2, 3, 4] ?_
     refine JA fun K0 hK0 => ?_
     refine awp_draw F_mixed [some 32, some 33, some 34, some 35, some 31, some 36, some 37, none, some 7] rfl (by kernel_rfl) ?_
     simp only [zzK, QR, QP, QQ, F_ok58, F_ag58, F_sz58, zz8, zz23, zzD, QS, QN, zzH, zzC, QA, yyE, Qe, F_ok86, F_ag86, F_sz86, JE, JF, JC, zz14, zz18, splice, QG, zz1, zzG, JB, bookC, tradesB, poss, tradeC, QW, zz6, QO, ↓Qb]
     refine JT F_go84 (fun hG => LegsF t) (by simp [QY, QX]) (by simp) ?_
     simp only [zzK, QR, QP, QQ, F_ok58, F_ag58, F_sz58, zz8, zz23, zzD, QS, QN, zzH, zzC, QA, yyE, Qe, F_ok86, F_ag86, F_sz86, JE, JF, JC, zz14, zz18, splice, QG, zz1, zzG, JB, bookC, tradesB, poss, tradeC, QW, zz6, QO, ↓Qb, atsL, oksG, JV, QZ, Qa, JO, Qm, QT, QS, zz9, QB, QA, S_mem, yyF, QF, zz2]
     refine JT F_go80 (fun hG => add_ nx ts ps (legs t) (by omega) (by omega) (by omega)) (by simp [QY, QX]) (by simp) ?_
     simp only [zzK, QR, QP, QQ, F_ok58, F_ag58, F_sz58, zz8, zz23, zzD, QS, QN, zzH, zzC, QA, yyE, Qe, F_ok86, F_ag86, F_sz86, JE, JF, JC, zz14, zz18, splice, QG, zz1, zzG, JB, bookC, tradesB, poss, tradeC, QW, zz6, QO, ↓Qb, atsL, oksG, JV, QZ, Qa, JO, Qm, QT, QS, zz9, QB, QA, S_mem, yyF, QF, zz2]
     refine hK0 _ ?_; try clear hK0 K0
     refine kpA [2, 3, 4, 7] ?_
     refine JA fun K0 hK0 => ?_
     refine JA fun K1 hK1 => ?_
     refine Qz F_mixed [some 38, some 39] rfl ?_
     simp only [zzK, QR, QP, QQ, JC, zz21, JM, zz28, zz6, QO, ↓Qb]
     refine hK1 _ ?_; try clear hK1 K1
     refine kpA [2, 3, 4, 7, 39] ?_
     refine cnA ?_ ?_
     ·intro hb
      have he : addE ⟨nx, ts, ps⟩ (legs t) ≠ 0 := by simpa using hb
      clear hb
      refine JA fun K2 hK2 => ?_
      refine Qz F_mixed [some 40, some 41, none, some 5, some 6] rfl ?_
      simp only [zzK, QR, QP, QQ, F_zero58, F_bld58, zz7, splice, Option.getD_some, QG, zz1, zzG, zzD, zzC, QA, yyE, Qe, QS, QN, zzH, zz10, JC, zz18, F_ok58, F_sz58, JB, zz6, QO, ↓Qb]
      refine hK2 _ ?_; try clear hK2 K2
      refine kpA [4, 5, 6] ?_
      have e : enterE ⟨nx, ts, ps⟩ t = addE ⟨nx, ts, ps⟩ (legs t) := by rw [enterE_def, ho, hr, hf, hx]; try rfl
      obtain ⟨ev, en⟩ := enter_no (b := ⟨nx, ts, ps⟩) (t := t) (by rw [e]; first | decide | assumption)
      refine awp_le (le_SK id [0, 1] rfl (l' := [(4, .ptr 4 0 0), (5, .d (iv 0)), (6, .d (iv (addE ⟨nx, ts, ps⟩ (legs t))))]) (m' := [(4, (⟨True, 58, 3, true, false, 4, [[.d (.v (.int .i64 0)), .ref 0 0, .ref 1 0]]⟩ : ARow)), (0, (⟨True, 86, 7, true, true, 0, []⟩ : ARow)), (1, (⟨True, 46, 4, true, true, 1, []⟩ : ARow))]) ?_ ?_ ?_ ?_) ?_
      ·simp only [leV, JD, QQ, Qd, Qc]; exact ⟨VLe.ptr_ (f := id) (by decide), Qo rfl, Qo rfl, trivial⟩
      ·exact ⟨fun _ => ⟨_, rfl, RowLe.cells (VLess.one_ (VLes.cons_ (Qo rfl) (VLes.cons_ (Qq (by decide)) (VLes.cons_ (Qq (by decide)) VLes.nil_))))⟩, fun h => by simp at h, fun h => by simp at h, fun _ => rfl, fun h => by simp at h, fun _ => rfl, trivial⟩
      ·simp [wfV, QY, lookR]
      ·simp [wfR, QX, QY, lookR]
      refine JJ ?_
      simp only [zz6, QO, ↓Qb]
      rw [ev, e, en]
      refine doneN [0, 1] (by simp [resCs, resC, S, List.getD, JD, lookR, F_ag58, F_sz58, F_ok58]) ?_ (by simp [Ja, Jb, Jc, ]) (by simp [QY, QX, ]) (by decide) ?_
      ·simp only [QD, QE, resA, JZ, S_mem, lookR_cons, lookR_nil, QR, QP, JD, QQ, Qd, Qc, JP, QI, QJ, QH, QL, QK, List.take_zero, F_ag58, F_sz58, F_ok58]; rfl
      ·exact ⟨⟨_, rfl, trivial, rfl, rfl, rfl, rfl⟩, by simp [flatDs, Jc, tradeC], ⟨_, rfl, trivial, rfl, rfl, rfl, rfl⟩, by simp [flatDs, Jc, posC], trivial⟩
     ·intro hb
      have he : addE ⟨nx, ts, ps⟩ (legs t) = 0 := by simpa using hb
      clear hb
      have hav := add_val he
      have hav1 : (addV ⟨nx, ts, ps⟩ (legs t)).next = nx := by rw [hav]
      have hav2 : (addV ⟨nx, ts, ps⟩ (legs t)).trades = ts := by rw [hav]
      simp only [hav1, hav2]
      have hG := (bookOk_iff _).1 ho
      have hg0 := hG.nx0
      have hg1 := hG.nx1
      simp only at hg0 hg1
      have hwn : Ql .i64 (nx + 1) = nx + 1 := wrapI (by omega) (by omega)
      have hpl := addV_len ⟨nx, ts, ps⟩ (legs t)
      refine JI ?_
      simp only [zz6, QO, ↓Qb]
      refine hK0 _ ?_; try clear hK0 K0
      refine kpA [2, 3, 4] ?_
      refine JA fun K0 hK0 => ?_
      refine Qz F_mixed [some 42, some 43, some 44, some 45, none] rfl ?_
      simp only [zzK, QR, QP, QQ, zz19, zz23, F_off58_0, zzH, QN, QS, F_ok3, F_ag3, F_sz3, zz8, zzD, zzC, QA, yyE, Qe, zz21, JM, zz26, zz18, splice, QG, zz1, zzG, hwn, zz6, QO, ↓Qb]
      refine hK0 _ ?_; try clear hK0 K0
      refine kpA [2, 3, 4] ?_
      refine JA fun K0 hK0 => ?_
      refine Qz F_mixed [some 46, some 47, some 48, none, some 49, none] rfl ?_
      simp only [zzK, QR, QP, QQ, zz19, zz23, F_off58_0, zzH, QN, QS, F_ok3, F_ag3, F_sz3, zz8, zzD, zzC, QA, yyE, Qe, F_off86_0, zz18, splice, QG, zz1, zzG, F_off86_6, F_ok4, F_sz4, zz6, QO, ↓Qb]
      refine hK0 _ ?_; try clear hK0 K0
      refine kpA [2, 3, 4] ?_
      refine JA fun K0 hK0 => ?_
      refine Qz F_mixed [some 50, some 51, some 52, some 53, some 54, some 55, none] rfl ?_
      simp only [zzK, QR, QP, QQ, zz19, zz23, F_off58_1, zzH, QN, QS, F_ok56, F_ag56, F_sz56, zz8, zzD, zzC, QA, yyE, Qe, F_ok86, F_ag86, F_sz86, F_sl56, F_zero86, zz3, JS, zz1, zzG, maxLen_le, QT, JE, F_by86, zz4, zz9, QB, zz18, splice, QG, tradeC, grow, unDs_map, QW, JN, zz6, QO, ↓Qb]
      have hm : ts.length + 1 ≤ 1000000 := by first | omega | (simp; omega)
      first | refine ⟨le_maxLen hm, by omega, ?_⟩ | refine ⟨by simp, le_maxLen hm, by omega, ?_⟩
      clear hm
      refine hK0 _ ?_; try clear hK0 K0
      refine kpA [2, 3, 4] ?_
      refine JA fun K0 hK0 => ?_
      refine awp_tree F_mixed [some 56, some 57, some 58, none, some 5, some 6] rfl (.one 0 (.one 1 (.two (.one 2 (.one 3 (.one 4 (.one 5 .nil)))) (.one 3 (.one 2 (.one 4 (.one 5 .nil))))))) (by kernel_rfl) ?_
      simp only [zzK, QR, QP, QQ, F_ok58, F_ag58, F_sz58, zz8, zz23, zzD, QS, QN, zzH, zzC, QA, yyE, Qe, zz19, F_off86_0, F_ok3, F_ag3, F_sz3, zz18, splice, QG, zz1, zzG, JB, zz6, QO, ↓Qb, evT, List.getElem?_cons_zero, List.getElem?_cons_succ]
      refine hK0 _ ?_; try clear hK0 K0
      refine kpA [4, 5, 6] ?_
      have e : enterE ⟨nx, ts, ps⟩ t = 0 := by rw [enterE_def, ho, hr, hf, hx, he]; rfl
      obtain ⟨ev, en⟩ := enter_val e
      simp only at ev en
      refine awp_le (le_SK id [] rfl (l' := [(4, .ptr 4 0 0), (5, .d (iv (nx + 1))), (6, .d (iv 0))]) (m' := [(4, (⟨True, 58, 3, true, false, 4, [[.d (iv (nx + 1)), .ref 54 (ts ++ [setNo t (nx + 1)]).length, .ref 36001 (addV ⟨nx, ts, ps⟩ (legs t)).poss.length]]⟩ : ARow)), (54, (⟨True, 86, 7, true, true, 36000, ((ts ++ [setNo t (nx + 1)]).map tradeC).map (·.map .d)⟩ : ARow)), (36001, (⟨True, 46, 4, true, true, 36001, ((addV ⟨nx, ts, ps⟩ (legs t)).poss.map posC).map (·.map .d)⟩ : ARow))]) ?_ ?_ ?_ ?_) ?_
      ·simp only [leV, JD, QQ, Qd, Qc]; exact ⟨(by first | exact Qo rfl | exact Qq (by decide) | exact Qp | exact Qn _ | exact Qs (by simp) (by rfl) | exact Qr (by simp) (by rfl) (by first | rfl | (simp; done) | (simp; omega)) | exact Qt (by first | rfl | simp)), (by first | exact Qo rfl | exact Qq (by decide) | exact Qp | exact Qn _ | exact Qs (by simp) (by rfl) | exact Qr (by simp) (by rfl) (by first | rfl | (simp; done) | (simp; omega)) | exact Qt (by first | rfl | simp)), (by first | exact Qo rfl | exact Qq (by decide) | exact Qp | exact Qn _ | exact Qs (by simp) (by rfl) | exact Qr (by simp) (by rfl) (by first | rfl | (simp; done) | (simp; omega)) | exact Qt (by first | rfl | simp)), trivial⟩
      ·exact ⟨fun _ => ⟨_, rfl, RowLe.cells (VLess.one_ (VLes.cons_ (Qt rfl) (VLes.cons_ (Qr (by simp) rfl (by simp)) (VLes.cons_ (Qr (by simp) rfl (rfl)) (VLes.nil_)))))⟩, fun h => by simp at h, fun _ => ⟨_, rfl, (by exact RowLe.uq_ (by rfl) (by simp [tradeC, posC, setNo]) ids_data)⟩, fun h => by simp at h, fun _ => ⟨_, rfl, (by first | exact Qw (by first | rfl | simp) | exact Qx (by first | rfl | simp) (by simp) ids_data | exact Qv (by simp [QX, QY]) | exact Qu (by simp) (by simp [QX, QY]))⟩, fun h => by simp at h, trivial⟩
      ·simp [wfV, QY, QX, lookR, grow]
      ·exact ⟨by simp [QX, QY, lookR], wf_data _ _, wf_data _ _, trivial⟩
      refine JJ ?_
      simp only [zz6, QO, ↓Qb]
      rw [ev, e, en]
      refine doneN [54, 36001] (by simp [resCs, resC, S, List.getD, JD, lookR, F_ag58, F_sz58, F_ok58]) ?_ (by simp [Ja, Jb, Jc, ]) (by simp [QY, QX, ]) (by decide) ?_
      ·simp only [QD, QE, resA, JZ, S_mem, lookR_cons, lookR_nil, QR, QP, JD, QQ, Qd, Qc, JP, QI, QJ, QH, QL, QK, List.take_zero, F_ag58, F_sz58, F_ok58]; rfl
      ·exact ⟨⟨_, rfl, trivial, rfl, rfl, rfl, rfl⟩, tr_flat _, ⟨_, rfl, trivial, rfl, rfl, rfl, rfl⟩, by simp [flatDs, Jc, posC], trivial⟩
theorem cancel_ (nx : Int) (ts : List TradeV) (ps : List PosV) (no : Int) (ht : ts.length ≤ 150000) (hp : ps.length ≤ 150000) : ACalls Try.prog 55 [.agg (bookC ⟨nx, ts, ps⟩), iv no] [⟨86, 7, (cancelV ⟨nx, ts, ps⟩ no).trades.map tradeC⟩, ⟨46, 4, (cancelV ⟨nx, ts, ps⟩ no).poss.map posC⟩] (.tp [.ag [.d (iv (cancelV ⟨nx, ts, ps⟩ no).next), .ref 0 (cancelV ⟨nx, ts, ps⟩ no).trades.length, .ref 1 (cancelV ⟨nx, ts, ps⟩ no).poss.length], .d (iv (cancelE ⟨nx, ts, ps⟩ no))]) := by
 refine acalls_S (rs := [.cell 4 58, .tmp 5]) Try.func55 rfl rfl 42 [(0, .d (.agg (bookC ⟨nx, ts, ps⟩))), (1, .d (iv no))] rfl (by simp) rfl ?_
 refine JA fun K0 hK0 => ?_
 refine Qz F_mixed [some 2, some 3, some 4, some 5] rfl ?_
 simp only [zzK, QR, QP, QQ, zz35, JS, zz1, zzG, zzD, zzC, QA, yyE, Qe, QS, QN, zzH, zz32, F_zero58, zz10, JB, bookC, tradesB, poss, zz6, QO, ↓Qb]
 refine hK0 _ ?_; try clear hK0 K0
 refine kpA [2, 3, 4] ?_
 refine JA fun K0 hK0 => ?_
 refine Qz F_mixed [some 8, some 9, some 6] rfl ?_
 simp only [zzK, QR, QP, QQ, F_ok58, F_ag58, F_sz58, zz8, zz23, zzD, QS, QN, zzH, zzC, QA, yyE, Qe, JE, JF, JB, bookC, tradesB, poss, QW, zz6, QO, ↓Qb]
 refine JT F_go39 (fun hG => bCheck_ nx ts ps (by omega) (by omega)) (by simp [QY, QX]) (by simp) ?_
 simp only [zzK, QR, QP, QQ, F_ok58, F_ag58, F_sz58, zz8, zz23, zzD, QS, QN, zzH, zzC, QA, yyE, Qe, JE, JF, JB, bookC, tradesB, poss, QW, zz6, QO, ↓Qb, atsL, oksG, JV, QZ, Qa, JO, Qm, QT, QS, zz9, QB, QA, S_mem, yyF, QF, zz2]
 refine hK0 _ ?_; try clear hK0 K0
 refine kpA [2, 3, 4, 6] ?_
 refine JA fun K0 hK0 => ?_
 refine JA fun K1 hK1 => ?_
 refine Qz F_mixed [some 10, some 11] rfl ?_
 simp only [zzK, QR, QP, QQ, JC, zz21, JM, zz28, zz6, QO, ↓Qb]
 refine hK1 _ ?_; try clear hK1 K1
 refine kpA [2, 3, 4, 6, 11] ?_
 refine cnA ?_ ?_
 ·intro hb
  have hn : bookE ⟨nx, ts, ps⟩ ≠ 0 := by simpa using hb
  clear hb
  obtain ⟨ho, hE⟩ := bookE_bad hn
  simp only [hE]
  refine JA fun K2 hK2 => ?_
  refine Qz F_mixed [some 12, some 13, none, some 5] rfl ?_
  simp only [zzK, QR, QP, QQ, F_zero58, F_bld58, zz7, splice, Option.getD_some, QG, zz1, zzG, zzD, zzC, QA, yyE, Qe, QS, QN, zzH, zz10, JC, zz18, F_ok58, F_sz58, JB, zz6, QO, ↓Qb]
  refine hK2 _ ?_; try clear hK2 K2
  refine kpA [4, 5] ?_
  have e : cancelE ⟨nx, ts, ps⟩ no = 14 := by rw [cancelE_def, ho]; try rfl
  have ev := cancel_no (b := ⟨nx, ts, ps⟩) (no := no) (by rw [e]; first | decide | assumption)
  refine awp_le (le_SK id [0, 1] rfl (l' := [(4, .ptr 4 0 0), (5, .d (iv 14))]) (m' := [(4, (⟨True, 58, 3, true, false, 4, [[.d (.v (.int .i64 0)), .ref 0 0, .ref 1 0]]⟩ : ARow)), (0, (⟨True, 86, 7, true, true, 0, []⟩ : ARow)), (1, (⟨True, 46, 4, true, true, 1, []⟩ : ARow))]) ?_ ?_ ?_ ?_) ?_
  ·simp only [leV, JD, QQ, Qd, Qc]; exact ⟨VLe.ptr_ (f := id) (by decide), Qo rfl, trivial⟩
  ·exact ⟨fun _ => ⟨_, rfl, RowLe.cells (VLess.one_ (VLes.cons_ (Qo rfl) (VLes.cons_ (Qq (by decide)) (VLes.cons_ (Qq (by decide)) VLes.nil_))))⟩, fun h => by simp at h, fun h => by simp at h, fun _ => rfl, fun h => by simp at h, fun _ => rfl, trivial⟩
  ·simp [wfV, QY, lookR]
  ·simp [wfR, QX, QY, lookR]
  refine JJ ?_
  simp only [zz6, QO, ↓Qb]
  rw [ev, e]
  refine doneN [0, 1] (by simp [resCs, resC, S, List.getD, JD, lookR, F_ag58, F_sz58, F_ok58]) ?_ (by simp [Ja, Jb, Jc, ]) (by simp [QY, QX, ]) (by decide) ?_
  ·simp only [QD, QE, resA, JZ, S_mem, lookR_cons, lookR_nil, QR, QP, JD, QQ, Qd, Qc, JP, QI, QJ, QH, QL, QK, List.take_zero, F_ag58, F_sz58, F_ok58]; rfl
  ·exact ⟨⟨_, rfl, trivial, rfl, rfl, rfl, rfl⟩, by simp [flatDs, Jc, tradeC], ⟨_, rfl, trivial, rfl, rfl, rfl, rfl⟩, by simp [flatDs, Jc, posC], trivial⟩
 ·intro hb
  have ho : bookOk ⟨nx, ts, ps⟩ = true := bookE_ok (by simpa using hb)
  clear hb
  refine JI ?_
  simp only [zz6, QO, ↓Qb]
  refine hK0 _ ?_; try clear hK0 K0
  refine kpA [2, 3, 4] ?_
  refine JA fun K0 hK0 => ?_
  refine Qz F_mixed [some 14, some 15, some 16, some 17, some 7] rfl ?_
  simp only [zzK, QR, QP, QQ, zz19, zz23, F_off58_1, zzH, QN, QS, F_ok56, F_ag56, F_sz56, zz8, zzD, zzC, QA, yyE, Qe, evS_makeFunc, mkK_func, oksL, cell1s_cons, cell1s_nil, cell1_ptr, bare_cl, ok_cl, zzG, JE, JF, JB, tradesB, asE_ptr, asE_cl, asF_ptr, asF_cl, asEc_cons, asEc_nil, asD_ptr, asG_ptr, List.mem_singleton, forall_eq, List.mem_cons, List.not_mem_nil, or_false, unE_cons, unE_nil, unDs_cons, unDs_nil, QB, QA, List.cons.injEq, D.fn.injEq, zz6, QO, ↓Qb]
  refine call_goE F_go78 (fun hG => idxC_ ts no (by omega)) (by simp [QY, QX]) (by simp) ?_
  simp only [zzK, QR, QP, QQ, zz19, zz23, F_off58_1, zzH, QN, QS, F_ok56, F_ag56, F_sz56, zz8, zzD, zzC, QA, yyE, Qe, evS_makeFunc, mkK_func, oksL, cell1s_cons, cell1s_nil, cell1_ptr, bare_cl, ok_cl, zzG, JE, JF, JB, tradesB, asE_ptr, asE_cl, asF_ptr, asF_cl, asEc_cons, asEc_nil, asD_ptr, asG_ptr, List.mem_singleton, forall_eq, List.mem_cons, List.not_mem_nil, or_false, zz9, QB, QA, List.cons.injEq, D.fn.injEq, zz6, QO, ↓Qb, asEs_cons, asEs_nil, asE_ag, asE_d, asE_ref, asEc_cons, asEc_nil, asF_d, asF_ref, asF_ag, asGs, oksF, atsL, oksG, JV, QZ, Qa, JO, Qm, QT, QS, unDs_cons, QB, QA, S_mem, yyF, QF, zz2]
  refine hK0 _ ?_; try clear hK0 K0
  refine kpA [2, 4, 7] ?_
  refine JA fun K0 hK0 => ?_
  refine JA fun K1 hK1 => ?_
  refine Qz F_mixed [some 18, some 19] rfl ?_
  simp only [zzK, QR, QP, QQ, JC, zz21, JM, zz22, idxF_neg, zz6, QO, ↓Qb]
  refine hK1 _ ?_; try clear hK1 K1
  refine kpA [2, 4, 7, 19] ?_
  refine cnA ?_ ?_
  ·intro hb
   have han : ts.any (hit no) = false := by simpa using hb
   clear hb
   refine JA fun K2 hK2 => ?_
   refine Qz F_mixed [some 20, none, some 5] rfl ?_
   simp only [zzK, QR, QP, QQ, F_zero58, F_bld58, zz7, splice, Option.getD_some, QG, zz1, zzG, zzD, zzC, QA, yyE, Qe, QS, QN, zzH, zz10, zz18, F_ok58, F_sz58, JB, zz6, QO, ↓Qb]
   refine hK2 _ ?_; try clear hK2 K2
   refine kpA [4, 5] ?_
   have e : cancelE ⟨nx, ts, ps⟩ no = 10 := by rw [cancelE_def, ho, han]; try rfl
   have ev := cancel_no (b := ⟨nx, ts, ps⟩) (no := no) (by rw [e]; first | decide | assumption)
   refine awp_le (le_SK id [0, 1] rfl (l' := [(4, .ptr 4 0 0), (5, .d (iv 10))]) (m' := [(4, (⟨True, 58, 3, true, false, 4, [[.d (.v (.int .i64 0)), .ref 0 0, .ref 1 0]]⟩ : ARow)), (0, (⟨True, 86, 7, true, true, 0, []⟩ : ARow)), (1, (⟨True, 46, 4, true, true, 1, []⟩ : ARow))]) ?_ ?_ ?_ ?_) ?_
   ·simp only [leV, JD, QQ, Qd, Qc]; exact ⟨VLe.ptr_ (f := id) (by decide), Qo rfl, trivial⟩
   ·exact ⟨fun _ => ⟨_, rfl, RowLe.cells (VLess.one_ (VLes.cons_ (Qo rfl) (VLes.cons_ (Qq (by decide)) (VLes.cons_ (Qq (by decide)) VLes.nil_))))⟩, fun h => by simp at h, fun h => by simp at h, fun _ => rfl, fun h => by simp at h, fun _ => rfl, trivial⟩
   ·simp [wfV, QY, lookR]
   ·simp [wfR, QX, QY, lookR]
   refine JJ ?_
   simp only [zz6, QO, ↓Qb]
   rw [ev, e]
   refine doneN [0, 1] (by simp [resCs, resC, S, List.getD, JD, lookR, F_ag58, F_sz58, F_ok58]) ?_ (by simp [Ja, Jb, Jc, ]) (by simp [QY, QX, ]) (by decide) ?_
   ·simp only [QD, QE, resA, JZ, S_mem, lookR_cons, lookR_nil, QR, QP, JD, QQ, Qd, Qc, JP, QI, QJ, QH, QL, QK, List.take_zero, F_ag58, F_sz58, F_ok58]; rfl
   ·exact ⟨⟨_, rfl, trivial, rfl, rfl, rfl, rfl⟩, by simp [flatDs, Jc, tradeC], ⟨_, rfl, trivial, rfl, rfl, rfl, rfl⟩, by simp [flatDs, Jc, posC], trivial⟩
  ·intro hb
   have han : ts.any (hit no) = true := by simpa using hb
   clear hb
   obtain ⟨pre, x, post, rfl, hpa, hhx⟩ := any_split han
   have hfx := firstT_hit (post := post) hpa hhx
   have hix := idxF_hit (post := post) hpa hhx
   simp only [hix]
   have hll := legs_len2 x
   refine JI ?_
   simp only [zz6, QO, ↓Qb]
   refine hK0 _ ?_; try clear hK0 K0
   refine kpA [2, 4, 7] ?_
   refine JA fun K0 hK0 => ?_
   refine awp_draw F_mixed [some 22, some 23, some 24, some 25, some 26, some 27, some 28, some 29, some 21, some 30, some 31, none, some 6] rfl (by kernel_rfl) ?_
   simp only [zzK, QR, QP, QQ, F_ok58, F_ag58, F_sz58, zz8, zz23, zzD, QS, QN, zzH, zzC, QA, yyE, Qe, zz19, F_off58_1, F_ok56, F_ag56, F_sz56, JC, JW, zz24, F_sl56, F_sz86, F_ok86, F_ag86, JE, JF, zz14, zz18, splice, QG, zz1, zzG, JB, bookC, tradesB, poss, tradeC, QW, getD_mid, JN, lt_mid, ge_mid, zz6, QO, ↓Qb]
   refine JT F_go81 (fun hG => UndoF x) (by simp [QY, QX]) (by simp) ?_
   simp only [zzK, QR, QP, QQ, F_ok58, F_ag58, F_sz58, zz8, zz23, zzD, QS, QN, zzH, zzC, QA, yyE, Qe, zz19, F_off58_1, F_ok56, F_ag56, F_sz56, JC, JW, zz24, F_sl56, F_sz86, F_ok86, F_ag86, JE, JF, zz14, zz18, splice, QG, zz1, zzG, JB, bookC, tradesB, poss, tradeC, QW, getD_mid, JN, lt_mid, ge_mid, zz6, QO, ↓Qb, atsL, oksG, JV, QZ, Qa, JO, Qm, QT, QS, zz9, QB, QA, S_mem, yyF, QF, zz2]
   refine JT F_go80 (fun hG => add_ nx (pre ++ x :: post) ps (undo x) (by omega) (by omega) (by omega)) (by simp [QY, QX]) (by simp) ?_
   simp only [zzK, QR, QP, QQ, F_ok58, F_ag58, F_sz58, zz8, zz23, zzD, QS, QN, zzH, zzC, QA, yyE, Qe, zz19, F_off58_1, F_ok56, F_ag56, F_sz56, JC, JW, zz24, F_sl56, F_sz86, F_ok86, F_ag86, JE, JF, zz14, zz18, splice, QG, zz1, zzG, JB, bookC, tradesB, poss, tradeC, QW, getD_mid, JN, lt_mid, ge_mid, zz6, QO, ↓Qb, atsL, oksG, JV, QZ, Qa, JO, Qm, QT, QS, zz9, QB, QA, S_mem, yyF, QF, zz2]
   refine hK0 _ ?_; try clear hK0 K0
   refine kpA [2, 4, 6, 7] ?_
   refine JA fun K0 hK0 => ?_
   refine JA fun K1 hK1 => ?_
   refine Qz F_mixed [some 32, some 33] rfl ?_
   simp only [zzK, QR, QP, QQ, JC, zz21, JM, zz28, zz6, QO, ↓Qb]
   refine hK1 _ ?_; try clear hK1 K1
   refine kpA [2, 4, 6, 7, 33] ?_
   refine cnA ?_ ?_
   ·intro hb
    have he : addE ⟨nx, (pre ++ x :: post), ps⟩ (undo x) ≠ 0 := by simpa using hb
    clear hb
    refine JA fun K2 hK2 => ?_
    refine Qz F_mixed [some 34, some 35, none, some 5] rfl ?_
    simp only [zzK, QR, QP, QQ, F_zero58, F_bld58, zz7, splice, Option.getD_some, QG, zz1, zzG, zzD, zzC, QA, yyE, Qe, QS, QN, zzH, zz10, JC, zz18, F_ok58, F_sz58, JB, zz6, QO, ↓Qb]
    refine hK2 _ ?_; try clear hK2 K2
    refine kpA [4, 5] ?_
    have e : cancelE ⟨nx, (pre ++ x :: post), ps⟩ no = addE ⟨nx, (pre ++ x :: post), ps⟩ (undo x) := by rw [cancelE_def, ho, han, hfx]; try rfl
    have ev := cancel_no (b := ⟨nx, (pre ++ x :: post), ps⟩) (no := no) (by rw [e]; first | decide | assumption)
    refine awp_le (le_SK id [0, 1] rfl (l' := [(4, .ptr 4 0 0), (5, .d (iv (addE ⟨nx, (pre ++ x :: post), ps⟩ (undo x))))]) (m' := [(4, (⟨True, 58, 3, true, false, 4, [[.d (.v (.int .i64 0)), .ref 0 0, .ref 1 0]]⟩ : ARow)), (0, (⟨True, 86, 7, true, true, 0, []⟩ : ARow)), (1, (⟨True, 46, 4, true, true, 1, []⟩ : ARow))]) ?_ ?_ ?_ ?_) ?_
    ·simp only [leV, JD, QQ, Qd, Qc]; exact ⟨VLe.ptr_ (f := id) (by decide), Qo rfl, trivial⟩
    ·exact ⟨fun _ => ⟨_, rfl, RowLe.cells (VLess.one_ (VLes.cons_ (Qo rfl) (VLes.cons_ (Qq (by decide)) (VLes.cons_ (Qq (by decide)) VLes.nil_))))⟩, fun h => by simp at h, fun h => by simp at h, fun _ => rfl, fun h => by simp at h, fun _ => rfl, trivial⟩
    ·simp [wfV, QY, lookR]
    ·simp [wfR, QX, QY, lookR]
    refine JJ ?_
    simp only [zz6, QO, ↓Qb]
    rw [ev, e]
    refine doneN [0, 1] (by simp [resCs, resC, S, List.getD, JD, lookR, F_ag58, F_sz58, F_ok58]) ?_ (by simp [Ja, Jb, Jc, ]) (by simp [QY, QX, ]) (by decide) ?_
    ·simp only [QD, QE, resA, JZ, S_mem, lookR_cons, lookR_nil, QR, QP, JD, QQ, Qd, Qc, JP, QI, QJ, QH, QL, QK, List.take_zero, F_ag58, F_sz58, F_ok58]; rfl
    ·exact ⟨⟨_, rfl, trivial, rfl, rfl, rfl, rfl⟩, by simp [flatDs, Jc, tradeC], ⟨_, rfl, trivial, rfl, rfl, rfl, rfl⟩, by simp [flatDs, Jc, posC], trivial⟩
   ·intro hb
    have he : addE ⟨nx, (pre ++ x :: post), ps⟩ (undo x) = 0 := by simpa using hb
    clear hb
    have hav := add_val he
    have hav1 : (addV ⟨nx, (pre ++ x :: post), ps⟩ (undo x)).next = nx := by rw [hav]
    have hav2 : (addV ⟨nx, (pre ++ x :: post), ps⟩ (undo x)).trades = (pre ++ x :: post) := by rw [hav]
    simp only [hav1, hav2, avC_map]
    refine JI ?_
    simp only [zz6, QO, ↓Qb]
    refine hK0 _ ?_; try clear hK0 K0
    refine kpA [2, 4, 7] ?_
    refine JA fun K0 hK0 => ?_
    refine Qz F_mixed [some 36, some 37, some 38, some 39, some 40, none] rfl ?_
    simp only [zzK, QR, QP, QQ, zz19, zz23, F_off58_1, zzH, QN, QS, F_ok56, F_ag56, F_sz56, zz8, zzD, zzC, QA, yyE, Qe, JC, JW, zz24, F_sl56, F_sz86, F_off86_6, zz18, F_ok4, F_sz4, splice, QG, zz1, zzG, getD_mid, JN, lt_mid, ge_mid, lt_midN, set_mid, avC, tradeC, QD, zz6, QO, ↓Qb]
    refine hK0 _ ?_; try clear hK0 K0
    refine kpA [2, 4] ?_
    refine JA fun K0 hK0 => ?_
    refine Qz F_mixed [some 41, none, some 5] rfl ?_
    simp only [zzK, QR, QP, QQ, F_ok58, F_ag58, F_sz58, zz8, zz23, zzD, QS, QN, zzH, zzC, QA, yyE, Qe, zz18, splice, QG, zz1, zzG, JB, zz6, QO, ↓Qb]
    refine hK0 _ ?_; try clear hK0 K0
    refine kpA [4, 5] ?_
    have e : cancelE ⟨nx, (pre ++ x :: post), ps⟩ no = 0 := by rw [cancelE_def, ho, han, hfx, he]; rfl
    have ev := cancel_val e
    simp only [markOff_hit hpa hhx, hfx] at ev
    refine awp_le (le_SK id [] rfl (l' := [(4, .ptr 4 0 0), (5, .d (iv 0))]) (m' := [(4, (⟨True, 58, 3, true, false, 4, [[.d (iv nx), .ref 30000 (pre ++ offTr x :: post).length, .ref 30001 (addV ⟨nx, (pre ++ x :: post), ps⟩ (undo x)).poss.length]]⟩ : ARow)), (30000, (⟨True, 86, 7, true, true, 30000, ((pre ++ offTr x :: post).map tradeC).map (·.map .d)⟩ : ARow)), (30001, (⟨True, 46, 4, true, true, 30001, ((addV ⟨nx, (pre ++ x :: post), ps⟩ (undo x)).poss.map posC).map (·.map .d)⟩ : ARow))]) ?_ ?_ ?_ ?_) ?_
    ·simp only [leV, JD, QQ, Qd, Qc]; exact ⟨(by first | exact Qo rfl | exact Qq (by decide) | exact Qp | exact Qn _ | exact Qs (by simp) (by rfl) | exact Qr (by simp) (by rfl) (by first | rfl | (simp; done) | (simp; omega)) | exact Qt (by first | rfl | simp)), (by first | exact Qo rfl | exact Qq (by decide) | exact Qp | exact Qn _ | exact Qs (by simp) (by rfl) | exact Qr (by simp) (by rfl) (by first | rfl | (simp; done) | (simp; omega)) | exact Qt (by first | rfl | simp)), trivial⟩
    ·exact ⟨fun _ => ⟨_, rfl, RowLe.cells (VLess.one_ (VLes.cons_ (Qt rfl) (VLes.cons_ (Qr (by simp) rfl (by simp)) (VLes.cons_ (Qr (by simp) rfl (rfl)) (VLes.nil_)))))⟩, fun h => by simp at h, fun _ => ⟨_, rfl, Qu (by rw [avC_map, List.map_append, QD]; rfl) (by
      intro e he
      rcases List.mem_append.1 he with he | he
      ·exact idsL_avC _ _ e he
      ·rcases List.mem_cons.1 he with rfl | he
       ·simp [QX, QY]
       ·exact idsL_avC _ _ e he)⟩, fun h => by simp at h, fun _ => ⟨_, rfl, Qu (avC_map _ _) (idsL_avC _ _)⟩, fun h => by simp at h, trivial⟩
    ·simp [wfV, QY, QX, lookR, grow]
    ·exact ⟨by simp [QX, QY, lookR], wf_data _ _, wf_data _ _, trivial⟩
    refine JJ ?_
    simp only [zz6, QO, ↓Qb]
    rw [ev, e]
    refine doneN [30000, 30001] (by simp [resCs, resC, S, List.getD, JD, lookR, F_ag58, F_sz58, F_ok58]) ?_ (by simp [Ja, Jb, Jc, ]) (by simp [QY, QX, ]) (by decide) ?_
    ·simp only [QD, QE, resA, JZ, S_mem, lookR_cons, lookR_nil, QR, QP, JD, QQ, Qd, Qc, JP, QI, QJ, QH, QL, QK, List.take_zero, F_ag58, F_sz58, F_ok58]; rfl
    ·exact ⟨⟨_, rfl, trivial, rfl, rfl, rfl, rfl⟩, tr_flat _, ⟨_, rfl, trivial, rfl, rfl, rfl, rfl⟩, by simp [flatDs, Jc, posC], trivial⟩
theorem cancelF (b : BookV) (no : Int) (ht : b.trades.length ≤ 150000) (hp : b.poss.length ≤ 150000) : ACalls Try.prog 55 [.agg (bookC b), iv no] [] (.tp [.d (.agg (bookC (cancelV b no))), .d (iv (cancelE b no))]) := by
 obtain ⟨nx, ts, ps⟩ := b
 exact (cancel_ nx ts ps no ht hp).freezeT (by simp [frzOk, frzOkL])
theorem correct_ (nx : Int) (ts : List TradeV) (ps : List PosV) (no q p : Int) (ht : ts.length ≤ 150000) (hp : ps.length ≤ 150000) : ACalls Try.prog 56 [.agg (bookC ⟨nx, ts, ps⟩), iv no, iv q, iv p] [⟨86, 7, (correctV ⟨nx, ts, ps⟩ no q p).trades.map tradeC⟩, ⟨46, 4, (correctV ⟨nx, ts, ps⟩ no q p).poss.map posC⟩] (.tp [.ag [.d (iv (correctV ⟨nx, ts, ps⟩ no q p).next), .ref 0 (correctV ⟨nx, ts, ps⟩ no q p).trades.length, .ref 1 (correctV ⟨nx, ts, ps⟩ no q p).poss.length], .d (iv (correctN ⟨nx, ts, ps⟩ no q p)), .d (iv (correctE ⟨nx, ts, ps⟩ no q p))]) := by
 refine acalls_S (rs := [.cell 8 58, .tmp 9, .tmp 10]) Try.func56 rfl rfl 43 [(0, .d (.agg (bookC ⟨nx, ts, ps⟩))), (1, .d (iv no)), (2, .d (iv q)), (3, .d (iv p))] rfl (by simp) rfl ?_
 refine JA fun K0 hK0 => ?_
 refine Qz F_mixed [some 4, some 5, some 8, some 9, some 10] rfl ?_
 simp only [zzK, QR, QP, QQ, zz35, JS, zz1, zzG, zzD, zzC, QA, yyE, Qe, QS, QN, zzH, zz32, F_zero58, zz10, JB, bookC, tradesB, poss, zz6, QO, ↓Qb]
 refine hK0 _ ?_; try clear hK0 K0
 refine kpA [2, 3, 4, 5, 8] ?_
 refine JA fun K0 hK0 => ?_
 refine Qz F_mixed [some 15, some 16, some 17, some 14, some 18, some 19, none, some 11] rfl ?_
 simp only [zzK, QR, QP, QQ, F_ok58, F_ag58, F_sz58, zz8, zz23, zzD, QS, QN, zzH, zzC, QA, yyE, Qe, F_ok3, F_ag3, F_sz3, JE, JF, JC, zz14, zz18, splice, QG, zz1, zzG, JB, bookC, tradesB, poss, QW, zz6, QO, ↓Qb]
 refine JT F_go55 (fun hG => cancelF ⟨nx, ts, ps⟩ no (by simp only; omega) (by simp only; omega)) (by simp [QY, QX]) (by simp) ?_
 simp only [zzK, QR, QP, QQ, F_ok58, F_ag58, F_sz58, zz8, zz23, zzD, QS, QN, zzH, zzC, QA, yyE, Qe, F_ok3, F_ag3, F_sz3, JE, JF, JC, zz14, zz18, splice, QG, zz1, zzG, JB, bookC, tradesB, poss, QW, zz6, QO, ↓Qb, atsL, oksG, JV, QZ, Qa, JO, Qm, QT, QS, zz9, QB, QA, S_mem, yyF, QF, zz2]
 refine hK0 _ ?_; try clear hK0 K0
 refine kpA [2, 3, 4, 5, 8, 11] ?_
 refine JA fun K0 hK0 => ?_
 refine JA fun K1 hK1 => ?_
 refine Qz F_mixed [some 20, some 21] rfl ?_
 simp only [zzK, QR, QP, QQ, JC, zz21, JM, zz28, zz6, QO, ↓Qb]
 refine hK1 _ ?_; try clear hK1 K1
 refine kpA [2, 3, 4, 5, 8, 11, 21] ?_
 refine cnA ?_ ?_
 ·intro hb
  have he : cancelE ⟨nx, ts, ps⟩ no ≠ 0 := by simpa using hb
  clear hb
  obtain ⟨e1, e2, e3⟩ := correct_no (q := q) (p := p) he
  refine JA fun K2 hK2 => ?_
  refine Qz F_mixed [some 22, some 23, none, some 9, some 10] rfl ?_
  simp only [zzK, QR, QP, QQ, F_zero58, F_bld58, zz7, splice, Option.getD_some, QG, zz1, zzG, zzD, zzC, QA, yyE, Qe, QS, QN, zzH, zz10, JC, zz18, F_ok58, F_sz58, JB, zz6, QO, ↓Qb]
  refine hK2 _ ?_; try clear hK2 K2
  refine kpA [8, 9, 10] ?_
  refine awp_le (le_SK id [0, 1] rfl (l' := [(8, .ptr 8 0 0), (9, .d (iv 0)), (10, .d (iv (cancelE ⟨nx, ts, ps⟩ no)))]) (m' := [(8, (⟨True, 58, 3, true, false, 8, [[.d (.v (.int .i64 0)), .ref 0 0, .ref 1 0]]⟩ : ARow)), (0, (⟨True, 86, 7, true, true, 0, []⟩ : ARow)), (1, (⟨True, 46, 4, true, true, 1, []⟩ : ARow))]) ?_ ?_ ?_ ?_) ?_
  ·simp only [leV, JD, QQ, Qd, Qc]; exact ⟨VLe.ptr_ (f := id) (by decide), Qo rfl, Qo rfl, trivial⟩
  ·exact ⟨fun _ => ⟨_, rfl, RowLe.cells (VLess.one_ (VLes.cons_ (Qo rfl) (VLes.cons_ (Qq (by decide)) (VLes.cons_ (Qq (by decide)) VLes.nil_))))⟩, fun h => by simp at h, fun h => by simp at h, fun _ => rfl, fun h => by simp at h, fun _ => rfl, trivial⟩
  ·simp [wfV, QY, lookR]
  ·simp [wfR, QX, QY, lookR]
  refine JJ ?_
  simp only [zz6, QO, ↓Qb]
  rw [e1, e2, e3]
  refine doneN [0, 1] (by simp [resCs, resC, S, List.getD, JD, lookR, F_ag58, F_sz58, F_ok58]) ?_ (by simp [Ja, Jb, Jc, ]) (by simp [QY, QX, ]) (by decide) ?_
  ·simp only [QD, QE, resA, JZ, S_mem, lookR_cons, lookR_nil, QR, QP, JD, QQ, Qd, Qc, JP, QI, QJ, QH, QL, QK, List.take_zero, F_ag58, F_sz58, F_ok58]; rfl
  ·exact ⟨⟨_, rfl, trivial, rfl, rfl, rfl, rfl⟩, by simp [flatDs, Jc, tradeC], ⟨_, rfl, trivial, rfl, rfl, rfl, rfl⟩, by simp [flatDs, Jc, posC], trivial⟩
 ·intro hb
  have he : cancelE ⟨nx, ts, ps⟩ no = 0 := by simpa using hb
  clear hb
  obtain ⟨e1, e2, e3⟩ := correct_val (q := q) (p := p) he
  obtain ⟨A, y, D_, hAC, hA, hy⟩ := any_split (noIs_any he)
  have hix : idxF (noIs no) (cancelV ⟨nx, ts, ps⟩ no).trades = (A.length : Int) := by rw [hAC]; exact idxF_hit hA hy
  have hfy : firstT (noIs no) (cancelV ⟨nx, ts, ps⟩ no).trades = y := by rw [hAC]; exact firstT_hit hA hy
  have hcl := cancel_len ⟨nx, ts, ps⟩ no
  simp only at hcl
  have gy : ((cancelV ⟨nx, ts, ps⟩ no).trades.map tradeC).getD A.length [] = [iv y.no, iv y.buyer, iv y.seller, iv y.inst, iv y.qty, iv y.price, .v (.bool y.gone)] := by
   rw [hAC, List.map_append]; exact gd_mid' (A := A.map tradeC) _ _ (by simp)
  have by_ := ltI (show A.length < (cancelV ⟨nx, ts, ps⟩ no).trades.length by rw [hAC]; simp)
  have hct : correctT ⟨nx, ts, ps⟩ no q p = chg y q p := by rw [correctT, hfy]
  refine JI ?_
  simp only [zz6, QO, ↓Qb]
  refine hK0 _ ?_; try clear hK0 K0
  refine kpA [2, 3, 4, 5, 8] ?_
  refine JA fun K0 hK0 => ?_
  refine Qz F_mixed [some 24, some 25, some 26, some 27, some 12] rfl ?_
  simp only [zzK, QR, QP, QQ, zz19, zz23, F_off58_1, zzH, QN, QS, F_ok56, F_ag56, F_sz56, zz8, zzD, zzC, QA, yyE, Qe, evS_makeFunc, mkK_func, oksL, cell1s_cons, cell1s_nil, cell1_ptr, bare_cl, ok_cl, zzG, JE, JF, JB, tradesB, asE_ptr, asE_cl, asF_ptr, asF_cl, asEc_cons, asEc_nil, asD_ptr, asG_ptr, List.mem_singleton, forall_eq, List.mem_cons, List.not_mem_nil, or_false, unE_cons, unE_nil, unDs_cons, unDs_nil, QB, QA, List.cons.injEq, D.fn.injEq, zz6, QO, ↓Qb]
  refine call_goE F_go78 (fun hG => idxN_ (cancelV ⟨nx, ts, ps⟩ no).trades no (by omega)) (by simp [QY, QX]) (by simp) ?_
  simp only [zzK, QR, QP, QQ, zz19, zz23, F_off58_1, zzH, QN, QS, F_ok56, F_ag56, F_sz56, zz8, zzD, zzC, QA, yyE, Qe, evS_makeFunc, mkK_func, oksL, cell1s_cons, cell1s_nil, cell1_ptr, bare_cl, ok_cl, zzG, JE, JF, JB, tradesB, asE_ptr, asE_cl, asF_ptr, asF_cl, asEc_cons, asEc_nil, asD_ptr, asG_ptr, List.mem_singleton, forall_eq, List.mem_cons, List.not_mem_nil, or_false, zz9, QB, QA, List.cons.injEq, D.fn.injEq, zz6, QO, ↓Qb, asEs_cons, asEs_nil, asE_ag, asE_d, asE_ref, asEc_cons, asEc_nil, asF_d, asF_ref, asF_ag, asGs, oksF, atsL, oksG, JV, QZ, Qa, JO, Qm, QT, QS, unDs_cons, QB, QA, S_mem, yyF, QF, zz2]
  refine hK0 _ ?_; try clear hK0 K0
  refine kpA [2, 3, 4, 8, 12] ?_
  refine JA fun K0 hK0 => ?_
  refine Qz F_mixed [some 28, some 29, some 30, some 31, some 32, some 13, none] rfl ?_
  simp only [zzK, QR, QP, QQ, zz19, zz23, F_off58_1, zzH, QN, QS, F_ok56, F_ag56, F_sz56, zz8, zzD, zzC, QA, yyE, Qe, JC, JW, zz24, F_sl56, F_sz86, F_ok86, F_ag86, zz32, JS, F_zero86, zz10, zz18, splice, QG, zz1, zzG, hix, gy, by_, ge0, QV, JN, zz6, QO, ↓Qb]
  refine hK0 _ ?_; try clear hK0 K0
  refine kpA [2, 3, 4, 8, 13] ?_
  refine JA fun K0 hK0 => ?_
  refine Qz F_mixed [some 33, some 34, some 35, none, some 36, none] rfl ?_
  simp only [zzK, QR, QP, QQ, JC, zz19, zz23, F_off86_4, zzH, QN, QS, zz18, F_ok3, F_sz3, splice, QG, zzD, zzC, QA, yyE, Qe, zz1, zzG, F_off86_5, zz6, QO, ↓Qb]
  refine hK0 _ ?_; try clear hK0 K0
  refine kpA [4, 8, 13] ?_
  refine JA fun K0 hK0 => ?_
  refine Qz F_mixed [some 37, some 38, some 39, some 40, some 41, some 42, none, some 9, some 10] rfl ?_
  simp only [zzK, QR, QP, QQ, F_ok58, F_ag58, F_sz58, zz8, zz23, zzD, QS, QN, zzH, zzC, QA, yyE, Qe, F_ok86, F_ag86, F_sz86, JE, JF, zz14, zz18, splice, QG, zz1, zzG, JB, bookC, tradesB, poss, tradeC, chg, QW, zz6, QO, ↓Qb]
  refine JT F_go58 (fun hG => enter_ (cancelV ⟨nx, ts, ps⟩ no).next (cancelV ⟨nx, ts, ps⟩ no).trades (cancelV ⟨nx, ts, ps⟩ no).poss (chg y q p) (by omega) (by omega)) (by simp [QY, QX]) (by simp) ?_
  simp only [zzK, QR, QP, QQ, F_ok58, F_ag58, F_sz58, zz8, zz23, zzD, QS, QN, zzH, zzC, QA, yyE, Qe, F_ok86, F_ag86, F_sz86, JE, JF, zz14, zz18, splice, QG, zz1, zzG, JB, bookC, tradesB, poss, tradeC, chg, QW, zz6, QO, ↓Qb, atsL, oksG, JV, QZ, Qa, JO, Qm, QT, QS, zz9, QB, QA, S_mem, yyF, QF, zz2]
  refine hK0 _ ?_; try clear hK0 K0
  refine kpA [8, 9, 10] ?_
  refine JJ ?_
  simp only [zz6, QO, ↓Qb]
  rw [e1, e2, e3, hct]
  refine doneN [40000, 40001] (by simp [resCs, resC, S, List.getD, JD, lookR, F_ag58, F_sz58, F_ok58]) ?_ (by simp [Ja, Jb, Jc, ]) (by simp [QY, QX, ]) (by decide) ?_
  ·simp only [QD, QE, resA, JZ, S_mem, lookR_cons, lookR_nil, QR, QP, JD, QQ, Qd, Qc, JP, QI, QJ, QH, QL, QK, List.take_zero, F_ag58, F_sz58, F_ok58]; rfl
  ·exact ⟨⟨_, rfl, trivial, rfl, rfl, rfl, rfl⟩, by simp [flatDs, Jc, tradeC], ⟨_, rfl, trivial, rfl, rfl, rfl, rfl⟩, by simp [flatDs, Jc, posC], trivial⟩
theorem clear_ (nx : Int) (ts : List TradeV) (ps : List PosV) (ht : ts.length ≤ 150000) (hp : ps.length ≤ 150000) : ACalls Try.prog 57 [.agg (bookC ⟨nx, ts, ps⟩)] [⟨86, 7, []⟩, ⟨46, 4, ps.map posC⟩] (.ag [.d (iv nx), .ref 0 0, .ref 1 ps.length]) := by
 refine acalls_S (rs := [.cell 2 58]) Try.func57 rfl rfl 7 [(0, .d (.agg (bookC ⟨nx, ts, ps⟩)))] rfl (by simp) rfl ?_
 refine JA fun K0 hK0 => ?_
 refine Qz F_mixed [some 1, some 2] rfl ?_
 simp only [zzK, QR, QP, QQ, zz35, JS, zz1, zzG, zzD, zzC, QA, yyE, Qe, QS, QN, zzH, zz32, F_zero58, zz10, bookC, tradesB, poss, zz6, QO, ↓Qb]
 refine hK0 _ ?_; try clear hK0 K0
 refine kpA [1, 2] ?_
 refine JA fun K0 hK0 => ?_
 refine Qz F_mixed [some 3, some 4, none] rfl ?_
 simp only [zzK, QR, QP, QQ, F_ok58, F_ag58, F_sz58, zz8, zz23, zzD, QS, QN, zzH, zzC, QA, yyE, Qe, JE, JF, zz18, splice, QG, zz1, zzG, bookC, tradesB, poss, QW, zz6, QO, ↓Qb]
 refine JT F_go83 (fun hG => twinB_ nx ts ps (by omega) (by omega)) (by simp [QY, QX]) (by simp) ?_
 simp only [zzK, QR, QP, QQ, F_ok58, F_ag58, F_sz58, zz8, zz23, zzD, QS, QN, zzH, zzC, QA, yyE, Qe, JE, JF, zz18, splice, QG, zz1, zzG, bookC, tradesB, poss, QW, zz6, QO, ↓Qb, atsL, oksG, JV, QZ, Qa, JO, Qm, QT, QS, zz9, QB, QA, S_mem, yyF, QF, zz2]
 refine hK0 _ ?_; try clear hK0 K0
 refine kpA [1, 2] ?_
 refine JA fun K0 hK0 => ?_
 refine Qz F_mixed [some 5, none] rfl ?_
 simp only [zzK, QR, QP, QQ, zz19, zz23, F_off58_1, zzH, QN, QS, zz18, F_ok56, F_sz56, splice, QG, zzD, zzC, QA, yyE, Qe, zz1, zzG, zz6, QO, ↓Qb]
 refine hK0 _ ?_; try clear hK0 K0
 refine kpA [1, 2] ?_
 refine JA fun K0 hK0 => ?_
 refine Qz F_mixed [some 6, none] rfl ?_
 simp only [zzK, QR, QP, QQ, F_ok58, F_ag58, F_sz58, zz8, zz23, zzD, QS, QN, zzH, zzC, QA, yyE, Qe, zz18, splice, QG, zz1, zzG, zz6, QO, ↓Qb]
 refine hK0 _ ?_; try clear hK0 K0
 refine kpA [2] ?_
 refine awp_le (le_SK (fun r => bif r == 1 then 5001 else r) [0] rfl (l' := [(2, .ptr 2 0 0)]) (m' := [(2, (⟨True, 58, 3, true, false, 2, [[.d (iv nx), .ref 0 0, .ref 1 ps.length]]⟩ : ARow)), (0, (⟨True, 86, 7, true, true, 0, []⟩ : ARow)), (1, (⟨True, 46, 4, true, true, 1, (ps.map posC).map (·.map .d)⟩ : ARow))]) ?_ ?_ ?_ ?_) ?_
 ·simp only [leV, JD, QQ, Qd, Qc]; exact ⟨Qs (by simp) (by rfl), trivial⟩
 ·exact ⟨fun _ => ⟨_, rfl, RowLe.cells (VLess.one_ (VLes.cons_ (Qt rfl) (VLes.cons_ (Qq (by decide)) (VLes.cons_ (Qr (by simp) rfl (rfl)) (VLes.nil_)))))⟩, fun h => by simp at h, fun h => by simp at h, fun _ => rfl, fun _ => ⟨_, rfl, Qx rfl (by simp) ids_data⟩, fun h => by simp at h, trivial⟩
 ·simp [wfV, QY, lookR]
 ·exact ⟨by simp [QX, QY, lookR], by simp, wf_data _ _, trivial⟩
 refine JJ ?_
 simp only [zz6, QO, ↓Qb]
 refine doneN [0, 1] (by simp [resCs, resC, S, List.getD, JD, lookR, F_ag58, F_sz58, F_ok58]) ?_ (by simp [Ja, Jb, Jc, ]) (by simp [QY, QX, ]) (by decide) ?_
 ·simp only [QD, QE, resA, JZ, S_mem, lookR_cons, lookR_nil, QR, QP, JD, QQ, Qd, Qc, JP, QI, QJ, QH, QL, QK, List.take_zero, F_ag58, F_sz58, F_ok58]; rfl
 ·exact ⟨⟨_, rfl, trivial, rfl, rfl, rfl, rfl⟩, by simp [flatDs, Jc, tradeC], ⟨_, rfl, trivial, rfl, rfl, rfl, rfl⟩, by simp [flatDs, Jc, posC], trivial⟩
end Go.Proofs.Ytopifbpibkpmmaa
