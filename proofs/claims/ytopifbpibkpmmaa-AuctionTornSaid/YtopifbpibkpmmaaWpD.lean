import Derived.Test.YtopifbpibkpmmaaWpH
namespace Go.Proofs.Ytopifbpibkpmmaa
open Go.RowKit
set_option linter.unusedVariables false
set_option linter.unusedSimpArgs false
open Option renaming map_some → QA, bind_some → QB
open List renaming map_cons → QD, map_nil → QE, length_cons → QF, append_nil → QG
open Nat renaming zero_add → QN, reduceEqDiff → QO, reduceLeDiff → QP, reduceBEq → QQ, reduceLT → QR, reduceAdd → QS, reduceMul → QT, reduceSub → QU
open D.agg renaming injEq → QW
open AV renaming idsL → QX, ids → QY, ren → QZ, renL → Qa
open _root_ renaming reduceIte → Qb, cond_false → Qc, cond_true → Qd, reduceCtorEq → Qe
open IntKind renaming wrap → Ql
open ORow renaming row → Qm
open VLe renaming refl → Qn, still → Qo, nil_ → Qq
open RowLe renaming data_ → Qw
open Go.Proofs.Ytopifbpibkpmmaa renaming awp_plain → Qz, awp_seq → JA, evS_assign → JB, evS_move → JC, look_cons → JD, evS_call → JE, evC_value → JF, awp_block → JH, awp_skip → JI, awp_ret → JJ, gr_v → JM, len_map → JN, addRows → JO, resAll → JP, newRow1 → JS, call_go → JT, freeN → JV, evS_indexAddr → JW, S_getD → JZ, flatD → Jc
theorem F_off31_3 : offT Try.prog 31 3 = some 4 := by kernel_rfl
theorem F_go30 : goFn Try.prog 30 := ⟨_, Try.func30, rfl, rfl⟩
theorem F_off31_1 : offT Try.prog 31 1 = some 2 := by kernel_rfl
theorem F_go31 : goFn Try.prog 31 := ⟨_, Try.func31, rfl, rfl⟩
theorem F_go27 : goFn Try.prog 27 := ⟨_, Try.func27, rfl, rfl⟩
theorem F_go28 : goFn Try.prog 28 := ⟨_, Try.func28, rfl, rfl⟩
theorem F_zero31 : zeroT Try.prog 31 = some [(.int .i64 0), (.int .i64 0), (.int .i64 0), (.int .i64 0), (.int .i64 0)] := by kernel_rfl
theorem F_off31_2 : offT Try.prog 31 2 = some 3 := by kernel_rfl
theorem F_go11 : goFn Try.prog 11 := ⟨_, Try.func11, rfl, rfl⟩
theorem F_zero33 : zeroT Try.prog 33 = some [(.int .i64 0), (.int .i64 0), (.int .i64 0)] := by kernel_rfl
theorem F_bld33 : bldT Try.prog 33 = true := by kernel_rfl
theorem F_fld33_0 : fldT Try.prog 33 0 = some (0, 1) := by kernel_rfl
theorem F_fld33_1 : fldT Try.prog 33 1 = some (1, 1) := by kernel_rfl
theorem F_fld33_2 : fldT Try.prog 33 2 = some (2, 1) := by kernel_rfl
theorem F_sl23 : sliceT Try.prog 23 = some 33 := by kernel_rfl
theorem F_sz33 : szT Try.prog 33 = 3 := by kernel_rfl
theorem F_by33 : byT Try.prog 33 = 24 := by kernel_rfl
theorem F_bld31 : bldT Try.prog 31 = true := by kernel_rfl
theorem F_fld31_1 : fldT Try.prog 31 1 = some (2, 1) := by kernel_rfl
theorem F_fld31_2 : fldT Try.prog 31 2 = some (3, 1) := by kernel_rfl
theorem F_fld31_3 : fldT Try.prog 31 3 = some (4, 1) := by kernel_rfl
theorem F_go9 : goFn Try.prog 9 := ⟨_, Try.func9, rfl, rfl⟩
theorem F_off33_0 : offT Try.prog 33 0 = some 0 := by kernel_rfl
theorem F_off33_1 : offT Try.prog 33 1 = some 1 := by kernel_rfl
theorem ord_ (long : Bool) (a b : BidV) : ACalls Try.prog 29 [.agg (bidC a), .agg (bidC b), .pt [.v (.bool long)]] [] (.d (iv (ordB long a b))) := by
 refine acalls_S (rs := [.tmp 5]) Try.func29 rfl rfl 23 [(0, .d (.agg (bidC a))), (1, .d (.agg (bidC b))), (2, .d (.pt [.v (.bool long)]))] rfl (by simp) rfl ?_
 refine JA fun K0 hK0 => ?_
 refine Qz F_mixed [some 3, some 4, some 5] rfl ?_
 simp only [zzK, QR, QP, QQ, zz35, JS, zz1, zzG, zzD, zzC, QA, yyE, Qe, QS, QN, zzH, JB, bidC, zz6, QO, ↓Qb]
 refine hK0 _ ?_; try clear hK0 K0
 refine kpA [2, 3, 4] ?_
 refine JA fun K0 hK0 => ?_
 refine Qz F_mixed [some 7, some 8, some 9, some 10, some 11, some 6] rfl ?_
 simp only [zzK, QR, QP, QQ, zz19, zz23, F_off31_3, zzH, QN, QS, F_ok3, F_ag3, F_sz3, zz8, zzD, zzC, QA, yyE, Qe, JE, JF, JB, zz6, QO, ↓Qb]
 refine JT F_go30 (fun hG => Compare_ a.price b.price) (by simp [QY, QX]) (by simp) ?_
 simp only [zzK, QR, QP, QQ, zz19, zz23, F_off31_3, zzH, QN, QS, F_ok3, F_ag3, F_sz3, zz8, zzD, zzC, QA, yyE, Qe, JE, JF, JB, zz6, QO, ↓Qb, atsL, oksG, JV, QZ, Qa, JO, Qm, QT, QS, zz9, QB, QA, S_mem, yyF, QF, zz2]
 refine hK0 _ ?_; try clear hK0 K0
 refine kpA [2, 3, 4, 6] ?_
 refine JA fun K0 hK0 => ?_
 refine JA fun K1 hK1 => ?_
 refine Qz F_mixed [some 12] rfl ?_
 simp only [zzK, QR, QP, QQ, F_ok4, F_ag4, F_sz4, zz8, zz23, zzD, QS, QN, zzH, zzC, QA, yyE, Qe, evLd_pt_one, zz6, QO, ↓Qb]
 refine hK1 _ ?_; try clear hK1 K1
 refine kpA [3, 4, 6, 12] ?_
 refine cnA ?_ ?_
 ·intro hb
  have e : prI long a.price b.price = Ql .i64 (0 - cmpI a.price b.price) := by simp only [prI, hb, Qd]
  refine Qz F_mixed [some 13, some 14, some 6] rfl ?_
  simp only [zzK, QR, QP, QQ, JC, zz29, JM, zz37, JB, zz6, QO, ↓Qb]
  refine hK0 _ ?_; try clear hK0 K0
  refine kpA [3, 4, 6] ?_
  refine JA fun K0 hK0 => ?_
  refine Qz F_mixed [some 15, some 16, some 17, some 18, some 19, some 20, some 21, some 22, some 5] rfl ?_
  simp only [zzK, QR, QP, QQ, JC, zz19, zz23, F_off31_1, zzH, QN, QS, F_ok3, F_ag3, F_sz3, zz8, zzD, zzC, QA, yyE, Qe, JE, JF, F_sl90, F_zero3, zz3, JS, zz1, zzG, maxLen_le, QT, JB, ints, QD, D.sl.injEq, zz6, QO, ↓Qb]
  refine JT F_go30 (fun hG => Compare_ a.frm b.frm) (by simp [QY, QX]) (by simp) ?_
  simp only [zzK, QR, QP, QQ, JC, zz19, zz23, F_off31_1, zzH, QN, QS, F_ok3, F_ag3, F_sz3, zz8, zzD, zzC, QA, yyE, Qe, JE, JF, F_sl90, F_zero3, zz3, JS, zz1, zzG, maxLen_le, QT, JB, ints, QD, zz6, QO, ↓Qb, atsL, oksG, JV, QZ, Qa, JO, Qm, QT, QS, zz9, QB, QA, S_mem, yyF, QF, zz2]
  refine JT F_go31 (fun hG => Or_ [Ql .i64 (0 - cmpI a.price b.price), cmpI a.frm b.frm] (by simp)) (by simp [QY, QX]) (by simp) ?_
  simp only [zzK, QR, QP, QQ, JC, zz19, zz23, F_off31_1, zzH, QN, QS, F_ok3, F_ag3, F_sz3, zz8, zzD, zzC, QA, yyE, Qe, JE, JF, F_sl90, F_zero3, zz3, JS, zz1, zzG, maxLen_le, QT, JB, ints, QD, zz6, QO, ↓Qb, atsL, oksG, JV, QZ, Qa, JO, Qm, QT, QS, zz9, QB, QA, S_mem, yyF, QF, zz2]
  refine hK0 _ ?_; try clear hK0 K0
  refine kpA [5] ?_
  refine JJ ?_
  simp only [zz6, QO, ↓Qb]
  refine dnA ?_
  simp only [QD, QE, resA, JZ, QR, QP, JD, QQ, Qd, Qc, JP]
  rw [ordB, e]
 ·intro hb
  have e : prI long a.price b.price = cmpI a.price b.price := by simp only [prI, hb, Qc]
  refine JI ?_
  simp only [zz6, QO, ↓Qb]
  refine hK0 _ ?_; try clear hK0 K0
  refine kpA [3, 4, 6] ?_
  refine JA fun K0 hK0 => ?_
  refine Qz F_mixed [some 15, some 16, some 17, some 18, some 19, some 20, some 21, some 22, some 5] rfl ?_
  simp only [zzK, QR, QP, QQ, JC, zz19, zz23, F_off31_1, zzH, QN, QS, F_ok3, F_ag3, F_sz3, zz8, zzD, zzC, QA, yyE, Qe, JE, JF, F_sl90, F_zero3, zz3, JS, zz1, zzG, maxLen_le, QT, JB, ints, QD, D.sl.injEq, zz6, QO, ↓Qb]
  refine JT F_go30 (fun hG => Compare_ a.frm b.frm) (by simp [QY, QX]) (by simp) ?_
  simp only [zzK, QR, QP, QQ, JC, zz19, zz23, F_off31_1, zzH, QN, QS, F_ok3, F_ag3, F_sz3, zz8, zzD, zzC, QA, yyE, Qe, JE, JF, F_sl90, F_zero3, zz3, JS, zz1, zzG, maxLen_le, QT, JB, ints, QD, zz6, QO, ↓Qb, atsL, oksG, JV, QZ, Qa, JO, Qm, QT, QS, zz9, QB, QA, S_mem, yyF, QF, zz2]
  refine JT F_go31 (fun hG => Or_ [cmpI a.price b.price, cmpI a.frm b.frm] (by simp)) (by simp [QY, QX]) (by simp) ?_
  simp only [zzK, QR, QP, QQ, JC, zz19, zz23, F_off31_1, zzH, QN, QS, F_ok3, F_ag3, F_sz3, zz8, zzD, zzC, QA, yyE, Qe, JE, JF, F_sl90, F_zero3, zz3, JS, zz1, zzG, maxLen_le, QT, JB, ints, QD, zz6, QO, ↓Qb, atsL, oksG, JV, QZ, Qa, JO, Qm, QT, QS, zz9, QB, QA, S_mem, yyF, QF, zz2]
  refine hK0 _ ?_; try clear hK0 K0
  refine kpA [5] ?_
  refine JJ ?_
  simp only [zz6, QO, ↓Qb]
  refine dnA ?_
  simp only [QD, QE, resA, JZ, QR, QP, JD, QQ, Qd, Qc, JP]
  rw [ordB, e]
theorem bidSC (long : Bool) : SC Try.prog 29 [.pt [.v (.bool long)]] (bidCmp long) isBid 5 where
 go := ⟨_, Try.func29, rfl, rfl⟩
 call x y hx hy := by
  obtain ⟨a, rfl⟩ := hx
  obtain ⟨b, rfl⟩ := hy
  exact ord_ long a b
 len x hx := by obtain ⟨b, rfl⟩ := hx; rfl
 flat x hx := by obtain ⟨b, rfl⟩ := hx; simp [bidC, flatDs, Jc]
 cell x hx := by obtain ⟨b, rfl⟩ := hx; simp [bidC, cell1s, AV.cell1, Value.oneCell']
 swo := bidCmp_swo long

theorem Order_ (long : Bool) (l : List BidV) (hl : l.length ≤ 19) : ACalls Try.prog 11 [.v (.bool long), bids l] [⟨31, 5, (bidOrder long l).map bidC⟩] (.ref 0 l.length) := by
 refine acalls_S (rs := [.tmp 4]) Try.func11 rfl rfl 12 [(0, bv long), (1, .d (bids l))] rfl (by simp) rfl ?_
 refine JA fun K0 hK0 => ?_
 refine Qz F_mixed [some 2, some 4] rfl ?_
 simp only [zzK, QR, QP, QQ, zz35, JS, zz1, zzG, zzD, zzC, QA, yyE, Qe, QS, QN, zzH, JB, zz6, QO, ↓Qb]
 refine hK0 _ ?_; try clear hK0 K0
 refine kpA [1, 2] ?_
 refine JA fun K0 hK0 => ?_
 refine Qz F_mixed [some 6, some 7, some 5] rfl ?_
 simp only [zzK, QR, QP, QQ, JC, JE, JF, JB, bids, zz6, QO, ↓Qb]
 refine JT F_go27 (fun hG => cloneBid (l.map bidC) (by simp [flatDs, Jc, bidC]) (by rw [List.length_map]; omega)) (by simp [QY, QX]) (by simp) ?_
 simp only [zzK, QR, QP, QQ, JC, JE, JF, JB, bids, zz6, QO, ↓Qb, atsL, oksG, JV, QZ, Qa, JO, Qm, QT, QS, zz9, QB, QA, zzC, yyF, zzD, zz2]
 refine hK0 _ ?_; try clear hK0 K0
 refine kpA [2, 5] ?_
 refine JA fun K0 hK0 => ?_
 refine awp_mut [some 8, some 9, some 10] rfl 2 rfl ?_
 simp only [zzK, QR, QP, QQ, JC, evS_makeFunc, mkK_func, oksL, cell1s_cons, cell1s_nil, cell1_ptr, bare_cl, ok_cl, zzG, JE, JF, JN, zzB, zz6, QO, ↓Qb]
 refine mut_go [8000] F_go28 (sBid_sort (bidSC long) (l.map bidC) (okM_bids l) (by simpa using hl)) (by simp [QY, QX]) (by decide) (by first | exact ⟨by decide, by simp⟩ | rfl) ?_
 simp only [zzK, QR, QP, QQ, JC, evS_makeFunc, mkK_func, oksL, cell1s_cons, cell1s_nil, cell1_ptr, bare_cl, ok_cl, zzG, JE, JF, JN, zzB, zz6, QO, ↓Qb, mArgs_nil, asE_cl, asF_cl, asD_ptr, asG_ptr, asD_ep, asG_ep, List.mem_singleton, forall_eq, asEc_cons, asEc_nil, mArgs_d, mArgs_m, mRows_nil, mRows_cons, mNewL, nxM, mBase, mName, List.getElem?_cons_zero, List.getElem?_cons_succ, zzF, asE_ag, asE_d, asE_ref, asEc_cons, asEc_nil, asF_d, asF_ref, asF_ag, asGs, QY, QX, List.length_singleton, List.not_mem_nil, false_implies, forall_const, atsL, asD_self, asD_nil, asD_sl, asD_agg, asD_int, asD_bool, asD_func, asD_ag, asD_ref, asG_d, asG_ag, asG_ref, JV, QZ, Qa, JO, Qm, QT, QS, zz9, QB, QA, zzC, yyF, zzD, S_func, Sk_func]
 refine ⟨⟨⟨_, rfl, rfl⟩, fun h => h⟩, fun x hx => (bidSC long).flat x (okM_isort (lt := ltc (bidCmp long)) (okM_bids l) x hx), ?_⟩
 refine hK0 _ ?_; try clear hK0 K0
 refine kpA [5] ?_
 refine JA fun K0 hK0 => ?_
 refine Qz F_mixed [some 11, some 4] rfl ?_
 simp only [zzK, QR, QP, QQ, JC, JB, zz6, QO, ↓Qb]
 refine hK0 _ ?_; try clear hK0 K0
 refine kpA [4] ?_
 refine JJ ?_
 simp only [zz6, QO, ↓Qb]
 rw [sort_bids]
 refine done1 8000 (by simp only [resCs, resC]; trivial) ?_ (by simp [flatA, flatAs, Jc, bidC]) (by simp [QY, QX, bidC]) (by rfl) trivial rfl rfl ?_ (by simp [flatDs, Jc, bidC])
 ·simp only [QD, QE, resA, JZ, QR, QP, JD, QQ, Qd, Qc, JP]; rfl
 ·rfl
theorem OrderF (long : Bool) (l : List BidV) (hl : l.length ≤ 19) : ACalls Try.prog 11 [.v (.bool long), bids l] [] (.d (bids (bidOrder long l))) :=
 (Order_ long l hl).freeze (by simp [frzOk, bidOrder_len])
set_option maxRecDepth 100000 in
set_option maxHeartbeats 4000000 in
theorem Fill_ (q : Int) (l : List BidV) (hl : l.length ≤ 19) : ACalls Try.prog 9 [iv q, bids l] [⟨33, 3, (filV q l).map fillC⟩] (.tp [.ref 0 (filV q l).length, .d (iv (filR q l)), .d (iv (filE q l))]) := by
 refine acalls_S (rs := [.tmp 4, .tmp 5, .tmp 6]) Try.func9 rfl rfl 77 [(0, .d (iv q)), (1, .d (bids l))] rfl (by simp) rfl ?_
 refine JA fun K0 hK0 => ?_
 refine Qz F_mixed [some 4, some 5, some 6] rfl ?_
 simp only [zzK, QR, QP, QQ, JB, zz6, QO, ↓Qb]
 refine hK0 _ ?_; try clear hK0 K0
 refine kpA [0, 1, 4] ?_
 refine JA fun K0 hK0 => ?_
 refine JA fun K1 hK1 => ?_
 refine Qz F_mixed [some 12, some 13, some 14, some 15, some 16, some 17] rfl ?_
 simp only [zzK, QR, QP, QQ, QU, JZ, zz5, and_imp, imp_and, imp_self, and_self, JC, zz21, JM, zz22, zz25, zz13, pickK_l, pickK_r, zz6, QO, ↓Qb]
 refine hK1 _ ?_; try clear hK1 K1
 refine kpA [0, 1, 4, 17] ?_
 refine cnA ?_ ?_
 ·intro hb
  have hq0 : inR q (-1099511627776) 1099511627776 = false := by
   cases h : inR q (-1099511627776) 1099511627776 with
   | false => rfl
   | true =>
    simp only [inR, Bool.and_eq_true, decide_eq_true_eq] at h
    simp [show ¬ q < -1099511627776 by omega, show ¬ q > 1099511627776 by omega] at hb
    try omega
  clear hb
  have hbad : fillBad q l = true := by simp only [fillBad, hq0]; rfl
  refine JA fun K2 hK2 => ?_
  refine Qz F_mixed [some 4, some 5, some 6] rfl ?_
  simp only [zzK, QR, QP, QQ, JB, zz6, QO, ↓Qb]
  refine hK2 _ ?_; try clear hK2 K2
  refine kpA [4, 5, 6] ?_
  refine awp_le (le_SK id [0] rfl (l' := [(4, .ref 0 0), (5, .d (iv 0)), (6, .d (iv 3))]) (m' := [(0, (⟨True, 33, 3, true, true, 0, []⟩ : ARow))]) ?_ ?_ ?_ ?_) ?_
  ·simp only [leV, JD, QQ, Qd, Qc]; exact ⟨Qq (by decide), Qo rfl, Qo rfl, trivial⟩
  ·exact ⟨fun h => by simp at h, fun _ => rfl, trivial⟩
  ·simp [wfV, QY, lookR]
  ·simp [wfR]
  refine JJ ?_
  simp only [zz6, QO, ↓Qb]
  have e1 : filV q l = [] := by simp only [filV, hbad, Qd]
  have e2 : filR q l = 0 := by simp only [filR, hbad, Qd]
  have e3 : filE q l = 3 := by simp only [filE, hbad, Qd]
  rw [e1, e2, e3]
  refine done1 0 (by simp only [resCs, resC]; trivial) ?_ (by simp [flatA, flatAs, Jc]) (by simp [QY, QX]) (by rfl) trivial rfl rfl ?_ (by simp [flatDs, Jc])
  ·simp only [QD, QE, resA, JZ, QR, QP, JD, QQ, Qd, Qc, JP]; rfl
  ·rfl
 ·intro hb
  have hq0 : inR q (-1099511627776) 1099511627776 = true := by
   simp only [inR, Bool.and_eq_true, decide_eq_true_eq]
   by_cases h1 : q < -1099511627776
   ·simp [h1] at hb
   ·by_cases h2 : q > 1099511627776
    ·simp [h1, h2] at hb
    ·omega
  clear hb
  refine JI ?_
  simp only [zz6, QO, ↓Qb]
  refine hK0 _ ?_; try clear hK0 K0
  refine kpA [0, 1, 4] ?_
  refine JA fun K0 hK0 => ?_
  refine JA fun K1 hK1 => ?_
  refine Qz F_mixed [some 18, some 19, some 20] rfl ?_
  simp only [zzK, QR, QP, QQ, JC, JE, zz12, F_sl22, Option.isSome_some, bids, JN, zz6, QO, ↓Qb]
  refine hK1 _ ?_; try clear hK1 K1
  refine kpA [0, 1, 4, 18, 19, 20] ?_
  refine JH ?_
  refine awp_loop (fun m s => ∃ pre post : List BidV, l = pre ++ post ∧ pre.all bidOk = true ∧ m = post.length ∧ s = S 77 [(0, .d (iv q)), (1, .d (bids l)), (4, .d (.v (.slice none 0 0))), (18, .d (bids l)), (19, .d (iv l.length)), (20, .d (iv pre.length))] []) l.length _ (le_SK id [] rfl (l' := [(0, .d (iv q)), (1, .d (bids l)), (4, .d (.v (.slice none 0 0))), (18, .d (bids l)), (19, .d (iv l.length)), (20, .d (iv ([] : List BidV).length))]) (m' := []) ?_ ?_ ?_ ?_) ⟨[], l, rfl, rfl, rfl, rfl⟩ ?_
  ·simp only [leV, JD, QQ, Qd, Qc, bids, JN]; exact ⟨Qn _, Qn _, Qn _, Qn _, Qn _, Qn _, trivial⟩
  ·exact trivial
  ·simp [wfV, QY, QX, lookR]
  ·simp [wfR, QX, QY]
  rintro m s ⟨pre, post, rfl, hp, rfl, rfl⟩
  refine JA fun K2 hK2 => ?_
  refine Qz F_mixed [some 21] rfl ?_
  simp only [zzK, QR, QP, QQ, zz21, JM, zz22, zz6, QO, ↓Qb]
  refine hK2 _ ?_; try clear hK2 K2
  refine kpA [0, 1, 4, 18, 19, 20, 21] ?_
  refine JA fun K2 hK2 => ?_
  refine cnA ?_ ?_
  ·intro hb
   obtain ⟨x, post, rfl⟩ := more_of hb; clear hb
   refine JI ?_
   simp only [zz6, QO, ↓Qb]
   refine hK2 _ ?_; try clear hK2 K2
   refine kpA [0, 1, 4, 18, 19, 20] ?_
   refine JA fun K2 hK2 => ?_
   refine JH ?_
   refine JA fun K3 hK3 => ?_
   refine Qz F_mixed [some 22, some 23, some 8, none] rfl ?_
   simp only [zzK, QR, QP, QQ, JW, zz23, zz24, F_sl22, F_sz31, QA, zzC, yyE, Qe, F_ok31, F_ag31, zz8, zzD, QS, QN, zzH, zz32, JS, F_zero31, zz10, zz18, splice, QG, zz1, zzG, bids, bidC, getD_mid, JN, lt_mid, ge_mid, QW, zz6, QO, ↓Qb]
   refine hK3 _ ?_; try clear hK3 K3
   refine kpA [0, 1, 4, 8, 18, 19, 20] ?_
   refine JA fun K3 hK3 => ?_
   refine Qz F_mixed [some 24, some 25, some 26, some 27, some 28, some 29, some 30, some 31, some 32, some 33, some 34, some 35, some 36, some 37, some 38, some 39, some 40, some 41] rfl ?_
   simp only [zzK, QR, QP, QQ, QU, JZ, zz5, and_imp, imp_and, imp_self, zz19, zz23, F_off31_2, zzH, QN, QS, F_ok3, F_ag3, F_sz3, zz8, zzD, zzC, QA, yyE, Qe, zz21, JM, zz22, JC, zz25, zz13, pickK_l, pickK_r, F_off31_3, zz6, QO, ↓Qb]
   refine hK3 _ ?_; try clear hK3 K3
   refine kpA [0, 1, 4, 18, 19, 20, 41] ?_
   refine cnA ?_ ?_
   ·intro hb
    have hq : bidOk x = false := by
     cases h : bidOk x with
     | false => rfl
     | true =>
      simp only [bidOk, inR, Bool.and_eq_true, decide_eq_true_eq] at h
      simp [show ¬ x.qty < 1 by omega, show ¬ x.qty > 1048576 by omega, show ¬ x.price < 1 by omega, show ¬ x.price > 1073741824 by omega] at hb
      try omega
    clear hb
    have hbad : fillBad q (pre ++ x :: post) = true := by simp [fillBad, hq]
    refine JA fun K4 hK4 => ?_
    refine Qz F_mixed [some 4, some 5, some 6] rfl ?_
    simp only [zzK, QR, QP, QQ, JB, zz6, QO, ↓Qb]
    refine hK4 _ ?_; try clear hK4 K4
    refine kpA [4, 5, 6] ?_
    refine awp_le (le_SK id [0] rfl (l' := [(4, .ref 0 0), (5, .d (iv 0)), (6, .d (iv 3))]) (m' := [(0, (⟨True, 33, 3, true, true, 0, []⟩ : ARow))]) ?_ ?_ ?_ ?_) ?_
    ·simp only [leV, JD, QQ, Qd, Qc]; exact ⟨Qq (by decide), Qo rfl, Qo rfl, trivial⟩
    ·exact ⟨fun h => by simp at h, fun _ => rfl, trivial⟩
    ·simp [wfV, QY, lookR]
    ·simp [wfR]
    refine JJ ?_
    simp only [zz6, QO, ↓Qb]
    have e1 : filV q (pre ++ x :: post) = [] := by simp only [filV, hbad, Qd]
    have e2 : filR q (pre ++ x :: post) = 0 := by simp only [filR, hbad, Qd]
    have e3 : filE q (pre ++ x :: post) = 3 := by simp only [filE, hbad, Qd]
    rw [e1, e2, e3]
    refine done1 0 (by simp only [resCs, resC]; trivial) ?_ (by simp [flatA, flatAs, Jc]) (by simp [QY, QX]) (by rfl) trivial rfl rfl ?_ (by simp [flatDs, Jc])
    ·simp only [QD, QE, resA, JZ, QR, QP, JD, QQ, Qd, Qc, JP]; rfl
    ·rfl
   ·intro hb
    have hq : bidOk x = true := by
     simp only [bidOk, inR, Bool.and_eq_true, decide_eq_true_eq]
     by_cases h1 : x.qty < 1
     ·simp [h1] at hb
     ·by_cases h2 : x.qty > 1048576
      ·simp [h1, h2] at hb
      ·by_cases h3 : x.price < 1
       ·simp [h1, h2, h3] at hb
       ·by_cases h4 : x.price > 1073741824
        ·simp [h1, h2, h3, h4] at hb
        ·omega
    clear hb
    refine JI ?_
    simp only [zz6, QO, ↓Qb]
    refine hK2 _ ?_; try clear hK2 K2
    refine kpA [0, 1, 4, 18, 19, 20] ?_
    refine Qz F_mixed [some 42, some 20] rfl ?_
    simp only [zzK, QR, QP, QQ, zz21, JM, zz26, JC, zz6, QO, ↓Qb]
    refine ⟨post.length, _, by simp, le_SK id [] rfl (l' := [(0, .d (iv q)), (1, .d (bids (pre ++ x :: post))), (4, .d (.v (.slice none 0 0))), (18, .d (bids (pre ++ x :: post))), (19, .d (iv (pre ++ x :: post).length)), (20, .d (iv (pre ++ [x]).length))]) (m' := []) ?_ ?_ ?_ ?_, pre ++ [x], post, by simp, by simp [hp, hq], rfl, rfl⟩
    ·simp only [leV, JD, QQ, Qd, Qc, bids, JN, wrap_len pre x (by simp at hl; omega)]; exact ⟨Qn _, Qn _, Qn _, Qn _, Qn _, Qn _, trivial⟩
    ·exact trivial
    ·simp [wfV, QY, QX, lookR]
    ·simp [wfR, QX, QY]
  ·intro hb
   obtain rfl := none_of hb; clear hb
   simp only [QG] at hl ⊢
   have hrg := hq0
   simp only [inR, Bool.and_eq_true, decide_eq_true_eq] at hrg
   have hwq : Ql .i64 (0 - q) = 0 - q := wrapI (by omega) (by omega)
   have hab : (if 0 - q > q then 0 - q else q) = absQ q := rfl
   have haq : 0 ≤ absQ q ∧ absQ q ≤ 1099511627776 := by simp only [absQ]; split <;> omega
   have hgood : fillBad q pre = false := by simp only [fillBad, hq0, hp]; rfl
   have e1 : filV q (pre ++ []) = fillsF (absQ q) (bidOrder (decide (q > 0)) pre) := by simp only [QG, filV, hgood, Qc]
   have e2 : filR q (pre ++ []) = restF (absQ q) (bidOrder (decide (q > 0)) pre) := by simp only [QG, filR, hgood, Qc]
   have e3 : filE q (pre ++ []) = 0 := by simp only [QG, filE, hgood, Qc]
   have hOk := bidOrder_all (long := decide (q > 0)) hp
   have hOl := bidOrder_len (decide (q > 0)) pre
   refine awp_exit ?_
   simp only [zz6, QO, ↓Qb]
   refine hK0 _ ?_; try clear hK0 K0
   refine kpA [0, 1, 4] ?_
   refine JA fun K0 hK0 => ?_
   refine Qz F_mixed [some 43, some 44, some 45, some 46, some 5] rfl ?_
   simp only [zzK, QR, QP, QQ, JC, zz29, JM, zz37, JE, zz11, grsL, QB, QA, oksL, JB, hwq, hab, zz6, QO, ↓Qb]
   refine hK0 _ ?_; try clear hK0 K0
   refine kpA [0, 1, 4, 5] ?_
   refine JA fun K0 hK0 => ?_
   refine JA fun K1 hK1 => ?_
   refine Qz F_mixed [some 47, some 48, some 49, some 50, some 51, some 52] rfl ?_
   simp only [zzK, QR, QP, QQ, JC, zz21, JM, zz25, JE, JF, zz12, F_sl22, Option.isSome_some, bids, JN, zz6, QO, ↓Qb]
   refine JT F_go11 (fun hG => OrderF (decide (q > 0)) pre (by omega)) (by simp [QY, QX]) (by simp) ?_
   simp only [zzK, QR, QP, QQ, JC, zz21, JM, zz25, JE, JF, zz12, F_sl22, Option.isSome_some, bids, JN, zz6, QO, ↓Qb, atsL, oksG, JV, QZ, Qa, JO, Qm, QT, QS, zz9, QB, QA, zzC, yyF, zzD, zz2]
   generalize bidOrder (decide (q > 0)) pre = O at hOk hOl e1 e2 ⊢
   have hO6 : O.length ≤ 1000000 := by omega
   refine hK1 _ ?_; try clear hK1 K1
   refine kpA [4, 5, 50, 51, 52] ?_
   refine JH ?_
   refine awp_loop (fun m s => ∃ pre post : List BidV, O = pre ++ post ∧ m = post.length ∧ s = S 77 [(4, .ref 4 (fillsF (absQ q) pre).length), (5, .d (iv (restF (absQ q) pre))), (50, .d (bids O)), (51, .d (iv O.length)), (52, .d (iv pre.length))] [(4, grow 33 3 4 ((fillsF (absQ q) pre).map fillC))]) O.length _ (le_SK id [4] rfl (l' := [(4, .ref 4 (fillsF (absQ q) ([] : List BidV)).length), (5, .d (iv (restF (absQ q) ([] : List BidV)))), (50, .d (bids O)), (51, .d (iv O.length)), (52, .d (iv ([] : List BidV).length))]) (m' := [(4, grow 33 3 4 ((fillsF (absQ q) ([] : List BidV)).map fillC))]) ?_ ?_ ?_ ?_) ⟨[], O, rfl, rfl, rfl⟩ ?_
   ·simp only [leV, JD, QQ, Qd, Qc, bids, JN]; exact ⟨Qq (by decide), Qo rfl, Qo rfl, Qo rfl, Qo rfl, trivial⟩
   ·exact ⟨fun h => by simp at h, fun _ => rfl, trivial⟩
   ·simp [wfV, QY, lookR]
   ·simp [wfR, grow, fillsF, QX, QY]
   clear hOl
   rintro m s ⟨pre, post, rfl, rfl, rfl⟩
   have hpl := fillsF_len (absQ q) pre
   refine JA fun K2 hK2 => ?_
   refine Qz F_mixed [some 53] rfl ?_
   simp only [zzK, QR, QP, QQ, zz21, JM, zz22, zz6, QO, ↓Qb]
   refine hK2 _ ?_; try clear hK2 K2
   refine kpA [4, 5, 50, 51, 52, 53] ?_
   refine JA fun K2 hK2 => ?_
   refine cnA ?_ ?_
   ·intro hb
    obtain ⟨x, post, rfl⟩ := more_of hb; clear hb
    have hmn : (if x.qty < restF (absQ q) pre then x.qty else restF (absQ q) pre) = mn2 (restF (absQ q) pre) x.qty := rfl
    have hOk2 := hOk
    simp only [List.all_append, List.all_cons, Bool.and_eq_true] at hOk2
    have hrn := restF_nn haq.1 haq.2 hOk2.1
    have hxk := hOk2.2.1
    simp only [bidOk, inR, Bool.and_eq_true, decide_eq_true_eq] at hxk
    have hwr : Ql .i64 (restF (absQ q) pre - mn2 (restF (absQ q) pre) x.qty) = restF (absQ q) pre - mn2 (restF (absQ q) pre) x.qty := by
     simp only [mn2]
     split <;> exact wrapI (by omega) (by omega)
    refine JI ?_
    simp only [zz6, QO, ↓Qb]
    refine hK2 _ ?_; try clear hK2 K2
    refine kpA [4, 5, 50, 51, 52] ?_
    refine JA fun K2 hK2 => ?_
    refine JH ?_
    refine JA fun K3 hK3 => ?_
    refine Qz F_mixed [some 54, some 55, some 10, none] rfl ?_
    simp only [zzK, QR, QP, QQ, JW, zz23, zz24, F_sl22, F_sz31, QA, zzC, yyE, Qe, F_ok31, F_ag31, zz8, zzD, QS, QN, zzH, zz32, JS, F_zero31, zz10, zz18, splice, QG, zz1, zzG, bids, bidC, getD_mid, JN, lt_mid, ge_mid, QW, zz6, QO, ↓Qb]
    refine hK3 _ ?_; try clear hK3 K3
    refine kpA [4, 5, 10, 50, 51, 52] ?_
    refine JA fun K3 hK3 => ?_
    refine Qz F_mixed [some 56, some 57, some 58, some 59, some 11] rfl ?_
    simp only [zzK, QR, QP, QQ, JC, zz19, zz23, F_off31_2, zzH, QN, QS, F_ok3, F_ag3, F_sz3, zz8, zzD, zzC, QA, yyE, Qe, JE, evC_min, mxK_some, mnK_some, grsL, JM, QB, oksL, pure_min, mn_int, JB, hmn, zz6, QO, ↓Qb]
    refine hK3 _ ?_; try clear hK3 K3
    refine kpA [4, 5, 10, 11, 50, 51, 52] ?_
    refine JA fun K3 hK3 => ?_
    refine JA fun K4 hK4 => ?_
    refine Qz F_mixed [some 60, some 61] rfl ?_
    simp only [zzK, QR, QP, QQ, JC, zz21, JM, zz25, zz6, QO, ↓Qb]
    refine hK4 _ ?_; try clear hK4 K4
    refine kpA [4, 5, 10, 11, 50, 51, 52, 61] ?_
    refine cnA ?_ ?_
    ·intro hb
     have hs : decide (mn2 (restF (absQ q) pre) x.qty > 0) = true := hb
     clear hb
     refine Qz F_mixed [some 62, some 63, some 64, some 65, some 66, some 67, some 68, some 69, some 70, some 4] rfl ?_
     simp only [zzK, QR, QP, QQ, JC, zz19, zz23, F_off31_1, zzH, QN, QS, F_ok3, F_ag3, F_sz3, zz8, zzD, zzC, QA, yyE, Qe, F_off31_3, F_zero33, F_bld33, zz7, splice, Option.getD_some, QG, zz1, zzG, zz10, F_fld33_0, F_fld33_1, F_fld33_2, F_sl23, F_sz33, zz3, JS, maxLen_le, QT, JE, F_by33, zz4, zz9, QB, JB, grow, QW, unDs_map, zz6, QO, ↓Qb]
     have hm : (fillsF (absQ q) pre).length + 1 ≤ 1000000 := by simp at hO6; omega
     first | refine ⟨le_maxLen hm, by omega, ?_⟩ | refine ⟨by simp, le_maxLen hm, by omega, ?_⟩
     clear hm
     refine hK3 _ ?_; try clear hK3 K3
     refine kpA [4, 5, 11, 50, 51, 52] ?_
     refine Qz F_mixed [some 71, some 72, some 73, some 5] rfl ?_
     simp only [zzK, QR, QP, QQ, JC, zz21, JM, zz33, JB, hwr, zz6, QO, ↓Qb]
     refine hK2 _ ?_; try clear hK2 K2
     refine kpA [4, 5, 50, 51, 52] ?_
     refine Qz F_mixed [some 74, some 52] rfl ?_
     simp only [zzK, QR, QP, QQ, zz21, JM, zz26, JC, zz6, QO, ↓Qb]
     refine ⟨post.length, _, by simp, le_SK (fun r => bif r == 4 then 70 else r) [] rfl (l' := [(4, .ref 4 (fillsF (absQ q) (pre ++ [x])).length), (5, .d (iv (restF (absQ q) (pre ++ [x])))), (50, .d (bids (pre ++ x :: post))), (51, .d (iv (pre ++ x :: post).length)), (52, .d (iv (pre ++ [x]).length))]) (m' := [(4, grow 33 3 4 ((fillsF (absQ q) (pre ++ [x])).map fillC))]) ?_ ?_ ?_ ?_, pre ++ [x], post, by simp, rfl, rfl⟩
     ·simp only [leV, JD, QQ, Qd, Qc, bids, JN, wrap_len pre x (by simp at hO6; omega), restF_snoc]
      refine ⟨?_, Qo rfl, Qo rfl, Qo rfl, Qo rfl, trivial⟩
      rw [fillsF_snoc, hs]
      rw [show (AV.ref 70 _ : AV) = .ref ((fun r => bif r == 4 then 70 else r) 4) (fillsF (absQ q) pre ++ [(⟨x.frm, mn2 (restF (absQ q) pre) x.qty, x.price⟩ : FillV)]).length from by simp]; try exact VLe.ref_ (f := (fun r => bif r == 4 then 70 else r)) (r := 4) (by simp)
     ·exact ⟨fun _ => ⟨_, rfl, Qw (by rw [fillsF_snoc, hs] <;> simp [fillC])⟩, fun h => by simp at h, trivial⟩
     ·simp [wfV, QY, lookR, grow]
     ·exact ⟨wf_data _ _, trivial⟩
    ·intro hb
     have hs : decide (mn2 (restF (absQ q) pre) x.qty > 0) = false := hb
     clear hb
     refine JI ?_
     simp only [zz6, QO, ↓Qb]
     refine hK3 _ ?_; try clear hK3 K3
     refine kpA [4, 5, 11, 50, 51, 52] ?_
     refine Qz F_mixed [some 71, some 72, some 73, some 5] rfl ?_
     simp only [zzK, QR, QP, QQ, JC, zz21, JM, zz33, JB, hwr, zz6, QO, ↓Qb]
     refine hK2 _ ?_; try clear hK2 K2
     refine kpA [4, 5, 50, 51, 52] ?_
     refine Qz F_mixed [some 74, some 52] rfl ?_
     simp only [zzK, QR, QP, QQ, zz21, JM, zz26, JC, zz6, QO, ↓Qb]
     refine ⟨post.length, _, by simp, le_SK (fun r => bif r == 4 then 4 else r) [] rfl (l' := [(4, .ref 4 (fillsF (absQ q) (pre ++ [x])).length), (5, .d (iv (restF (absQ q) (pre ++ [x])))), (50, .d (bids (pre ++ x :: post))), (51, .d (iv (pre ++ x :: post).length)), (52, .d (iv (pre ++ [x]).length))]) (m' := [(4, grow 33 3 4 ((fillsF (absQ q) (pre ++ [x])).map fillC))]) ?_ ?_ ?_ ?_, pre ++ [x], post, by simp, rfl, rfl⟩
     ·simp only [leV, JD, QQ, Qd, Qc, bids, JN, wrap_len pre x (by simp at hO6; omega), restF_snoc]
      refine ⟨?_, Qo rfl, Qo rfl, Qo rfl, Qo rfl, trivial⟩
      rw [fillsF_snoc, hs]
      simp only [Qc, QG]; exact VLe.ref_ (f := (fun r => bif r == 4 then 4 else r)) (r := 4) (by simp)
     ·exact ⟨fun _ => ⟨_, rfl, Qw (by rw [fillsF_snoc, hs] <;> simp [fillC])⟩, fun h => by simp at h, trivial⟩
     ·simp [wfV, QY, lookR, grow]
     ·exact ⟨wf_data _ _, trivial⟩
   ·intro hb
    obtain rfl := none_of hb; clear hb
    try simp only [QG]
    refine awp_exit ?_
    simp only [zz6, QO, ↓Qb]
    refine hK0 _ ?_; try clear hK0 K0
    refine kpA [4, 5] ?_
    refine JA fun K0 hK0 => ?_
    refine Qz F_mixed [some 75, some 76, some 4, some 5, some 6] rfl ?_
    simp only [zzK, QR, QP, QQ, JC, JB, zz6, QO, ↓Qb]
    refine hK0 _ ?_; try clear hK0 K0
    refine kpA [4, 5, 6] ?_
    refine JJ ?_
    simp only [zz6, QO, ↓Qb]
    rw [e3, e1, e2]
    try simp only [QG]
    refine done1 4 (by simp only [resCs, resC]; trivial) ?_ (by simp [flatA, flatAs, Jc, fillC]) (by simp [QY, QX, fillC]) (by rfl) trivial rfl rfl ?_ (by simp [flatDs, Jc, fillC])
    ·simp only [QD, QE, resA, JZ, QR, QP, JD, QQ, Qd, Qc, JP]; rfl
    ·rfl
theorem wakes19_ : ACalls Try.prog 10 [] [] (bv true) := by
 refine acalls_S (rs := [.tmp 0]) Try.func10 rfl rfl 37 [] rfl (by simp) rfl ?_
 have cast2N : ((2 : Nat) : Int) = 2 := rfl
 have w1 : filV 5 [⟨0, 0, 2, 3, 9⟩, ⟨0, 0, 3, 4, 10⟩] = [⟨3, 4, 10⟩, ⟨2, 1, 9⟩] := by rfl
 have w2 : filR 5 [⟨0, 0, 2, 3, 9⟩, ⟨0, 0, 3, 4, 10⟩] = 0 := by rfl
 have w3 : filE 5 [⟨0, 0, 2, 3, 9⟩, ⟨0, 0, 3, 4, 10⟩] = 0 := by rfl
 refine JA fun K0 hK0 => ?_
 refine Qz F_mixed [some 0] rfl ?_
 simp only [zzK, QR, QP, QQ, JB, zz6, QO, ↓Qb]
 refine hK0 _ ?_; try clear hK0 K0
 refine kpA [] ?_
 refine JA fun K0 hK0 => ?_
 refine Qz F_mixed [some 5, some 6, some 7, some 8, some 4, some 9, some 10, some 11, some 1, some 2, some 3] rfl ?_
 simp only [zzK, QR, QP, QQ, F_zero31, F_bld31, zz7, splice, Option.getD_some, QG, zz1, zzG, zzD, zzC, QA, yyE, Qe, QS, QN, zzH, zz10, F_fld31_1, F_fld31_2, F_fld31_3, F_sl22, F_sz31, zz3, JS, maxLen_le, QT, JE, JF, JC, zz14, JB, bids, bidC, QD, D.sl.injEq, w1, w2, w3, fillC, zz6, QO, ↓Qb]
 refine JT F_go9 (fun hG => Fill_ 5 [⟨0, 0, 2, 3, 9⟩, ⟨0, 0, 3, 4, 10⟩] (by simp)) (by simp [QY, QX]) (by simp) ?_
 simp only [zzK, QR, QP, QQ, F_zero31, F_bld31, zz7, splice, Option.getD_some, QG, zz1, zzG, zzD, zzC, QA, yyE, Qe, QS, QN, zzH, zz10, F_fld31_1, F_fld31_2, F_fld31_3, F_sl22, F_sz31, zz3, JS, maxLen_le, QT, JE, JF, JC, zz14, JB, bids, bidC, QD, w1, w2, w3, fillC, zz6, QO, ↓Qb, atsL, oksG, JV, QZ, Qa, JO, Qm, QT, QS, zz9, QB, QA, S_mem, yyF, QF, zz2]
 refine hK0 _ ?_; try clear hK0 K0
 refine kpA [1, 2, 3] ?_
 refine JA fun K0 hK0 => ?_
 refine Qz F_mixed [some 12, some 13, some 14, some 15, some 16, some 17, some 18, some 19, some 20, some 21, some 22, some 23, some 24, some 25, some 26, some 27, some 28, some 29, some 30, some 31, some 32, some 33, some 34, some 35, some 36, some 0] rfl ?_
 simp only [zzK, QR, QP, QQ, QU, JZ, zz5, and_imp, imp_and, imp_self, JC, zz21, JM, zz34, zz13, pickK_l, pickK_r, JE, zz12, F_sl23, Option.isSome_some, JW, zz23, zz24, F_sz33, QA, zzC, yyE, Qe, zz19, F_off33_0, zzH, QN, QS, F_ok3, F_ag3, F_sz3, zz8, zzD, F_off33_1, JB, Int.reduceToNat, Int.reduceLT, Int.reduceLE, Int.reduceBEq, beq_self_eq_true, Bool.and_self, Bool.and_true, cast2N, Nat.lt_add_one, Nat.zero_lt_two, Nat.one_lt_two, QR, zz6, QO, ↓Qb]
 refine hK0 _ ?_; try clear hK0 K0
 refine kpA [0] ?_
 refine JJ ?_
 simp only [zz6, QO, ↓Qb]
 refine dnA ?_
 simp only [QD, QE, resA, JZ, QR, QP, JD, QQ, Qd, Qc, JP]
 
end Go.Proofs.Ytopifbpibkpmmaa
