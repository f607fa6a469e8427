import Derived.Test.YtopifbpibkpmmaaWpG
namespace Go.Proofs.Ytopifbpibkpmmaa
open Go.RowKit
set_option linter.unusedVariables false
set_option linter.unusedSimpArgs false
open Option renaming map_some → QA, bind_some → QB
open List renaming map_cons → QD, map_nil → QE, length_cons → QF, append_nil → QG, drop_zero → QH, getD_cons_zero → QI, getD_cons_succ → QJ, take_succ_cons → QK, drop_succ_cons → QL
open Nat renaming zero_add → QN, reduceEqDiff → QO, reduceLeDiff → QP, reduceBEq → QQ, reduceLT → QR, reduceAdd → QS, reduceMul → QT
open Int renaming toNat_natCast → QV
open D.agg renaming injEq → QW
open AV renaming idsL → QX, ids → QY, ren → QZ, renL → Qa
open _root_ renaming reduceIte → Qb, cond_false → Qc, cond_true → Qd, reduceCtorEq → Qe
open IntKind renaming wrap → Ql
open ORow renaming row → Qm
open VLe renaming refl → Qn, still → Qo, nild_ → Qp, nil_ → Qq, refE → Qr, ptrE → Qs, dE → Qt
open RowLe renaming same → Qu, still → Qv, data_ → Qw, uq2 → Qx
open Go.Proofs.Ytopifbpibkpmmaa renaming awp_plain → Qz, awp_seq → JA, evS_assign → JB, evS_move → JC, look_cons → JD, evS_call → JE, evC_value → JF, awp_ret → JJ, addRows → JO, resAll → JP, newRow1 → JS, call_go → JT, S_getD → JZ, flatAs → Jb, flatD → Jc
theorem F_off88_0 : offT Try.prog 88 0 = some 0 := by kernel_rfl
theorem F_cv3_63 : ∀ (k : IntKind) (x : Int), pureCv Try.prog 3 63 (.int k x) = True := fun _ _ => pure_cv (by kernel_rfl) (by kernel_rfl)
theorem F_cvV63 : ∀ (k : IntKind) (x : Int), cvV Try.prog 63 (.int k x) = .int .u64 (Ql .u64 x) := fun _ _ => by rw [show cvV Try.prog 63 = fun a => (match a with | .int _ n => .int (Try.prog.intKind 63) ((Try.prog.intKind 63).wrap n) | _ => undef) from rfl, show Try.prog.intKind 63 = .u64 from by kernel_rfl]
theorem F_off88_1 : offT Try.prog 88 1 = some 1 := by kernel_rfl
theorem F_off88_2 : offT Try.prog 88 2 = some 2 := by kernel_rfl
theorem F_off88_3 : offT Try.prog 88 3 = some 3 := by kernel_rfl
theorem F_go56 : goFn Try.prog 56 := ⟨_, Try.func56, rfl, rfl⟩
theorem F_go57 : goFn Try.prog 57 := ⟨_, Try.func57, rfl, rfl⟩
theorem F_off88_4 : offT Try.prog 88 4 = some 4 := by kernel_rfl
theorem F_sl55 : sliceT Try.prog 55 = some 88 := by kernel_rfl
theorem F_sz88 : szT Try.prog 88 = 11 := by kernel_rfl
theorem F_ok88 : tyOk Try.prog 88 = true := by kernel_rfl
theorem F_ag88 : aggT Try.prog 88 = true := by kernel_rfl
theorem F_go38 : goFn Try.prog 38 := ⟨_, Try.func38, rfl, rfl⟩
theorem do_ (nx : Int) (ts : List TradeV) (ps : List PosV) (a : ActV) (ht : ts.length ≤ 150000) (hp : ps.length ≤ 150000) : ACalls Try.prog 38 [.agg (bookC ⟨nx, ts, ps⟩), .agg (actC a)] [⟨86, 7, (doV ⟨nx, ts, ps⟩ a).trades.map tradeC⟩, ⟨46, 4, (doV ⟨nx, ts, ps⟩ a).poss.map posC⟩] (.tp [.ag [.d (iv (doV ⟨nx, ts, ps⟩ a).next), .ref 0 (doV ⟨nx, ts, ps⟩ a).trades.length, .ref 1 (doV ⟨nx, ts, ps⟩ a).poss.length], .d (iv (doE ⟨nx, ts, ps⟩ a))]) := by
 refine acalls_S (rs := [.cell 4 58, .tmp 5]) Try.func38 rfl rfl 54 [(0, .d (.agg (bookC ⟨nx, ts, ps⟩))), (1, .d (.agg (actC a)))] rfl (by simp) rfl ?_
 refine JA fun K0 hK0 => ?_
 refine Qz F_mixed [some 2, some 3, some 4, some 5] rfl ?_
 simp only [zzK, QR, QP, QQ, zz35, JS, zz1, zzG, zzD, zzC, QA, yyE, Qe, QS, QN, zzH, zz32, F_zero58, zz10, JB, bookC, tradesB, poss, actC, zz6, QO, ↓Qb]
 refine hK0 _ ?_; try clear hK0 K0
 refine kpA [2, 3, 4] ?_
 refine JA fun K0 hK0 => ?_
 refine JA fun K1 hK1 => ?_
 refine Qz F_mixed [some 12, some 13, some 14, some 15] rfl ?_
 simp only [zzK, QR, QP, QQ, zz19, zz23, F_off88_0, zzH, QN, QS, F_ok3, F_ag3, F_sz3, zz8, zzD, zzC, QA, yyE, Qe, zz27, gr_v, F_cv3_63, F_cvV63, zz21, b_rem, pure_rem, ne_eq, Int.reduceEq, not_false_eq_true, doK_b, zz6, QO, ↓Qb]
 refine hK1 _ ?_; try clear hK1 K1
 refine kpA [2, 3, 4, 15] ?_
 refine awp_block ?_
 refine JA fun K1 hK1 => ?_
 refine Qz F_mixed [some 17, some 16] rfl ?_
 simp only [zzK, QR, QP, QQ, zz21, gr_v, zz34, JB, zz6, QO, ↓Qb]
 refine hK1 _ ?_; try clear hK1 K1
 refine kpA [2, 3, 4, 15, 16] ?_
 refine cnA ?_ ?_
 ·intro hb
  have h3 : (doK a == 3) = true := hb
  clear hb
  refine JA fun K2 hK2 => ?_
  refine Qz F_mixed [some 18, some 19, some 20, some 21, some 22, some 23, none, some 5] rfl ?_
  simp only [zzK, QR, QP, QQ, F_ok58, F_ag58, F_sz58, zz8, zz23, zzD, QS, QN, zzH, zzC, QA, yyE, Qe, zz19, F_off88_1, F_ok3, F_ag3, F_sz3, JE, JF, zz14, zz18, splice, QG, zz1, zzG, JB, bookC, tradesB, poss, QW, zz6, QO, ↓Qb]
  refine JT F_go55 (fun hG => cancel_ nx ts ps a.no (by omega) (by omega)) (by simp [QY, QX]) (by simp) ?_
  simp only [zzK, QR, QP, QQ, F_ok58, F_ag58, F_sz58, zz8, zz23, zzD, QS, QN, zzH, zzC, QA, yyE, Qe, zz19, F_off88_1, F_ok3, F_ag3, F_sz3, JE, JF, zz14, zz18, splice, QG, zz1, zzG, JB, bookC, tradesB, poss, QW, zz6, QO, ↓Qb, atsL, oksG, freeN, QZ, Qa, JO, Qm, QT, QS, zz9, QB, QA, S_mem, yyF, QF, zz2]
  refine hK2 _ ?_; try clear hK2 K2
  refine kpA [4, 5] ?_
  refine JJ ?_
  simp only [zz6, QO, ↓Qb]
  simp only [doV, doE, h3, Qd, Qc]
  refine doneN [22000, 22001] (by simp [resCs, resC, S, List.getD, JD, lookR, F_ag58, F_sz58, F_ok58]) ?_ (by simp [flatA, Jb, Jc, ]) (by simp [QY, QX, ]) (by decide) ?_
  ·simp only [QD, QE, resA, JZ, S_mem, lookR_cons, lookR_nil, QR, QP, JD, QQ, Qd, Qc, JP, QI, QJ, QH, QL, QK, List.take_zero, F_ag58, F_sz58, F_ok58]; rfl
  ·exact ⟨⟨_, rfl, trivial, rfl, rfl, rfl, rfl⟩, by simp [flatDs, Jc, tradeC], ⟨_, rfl, trivial, rfl, rfl, rfl, rfl⟩, by simp [flatDs, Jc, posC], trivial⟩
 ·intro hb
  have h3 : (doK a == 3) = false := hb
  clear hb
  refine JA fun K2 hK2 => ?_
  refine Qz F_mixed [some 25, some 24] rfl ?_
  simp only [zzK, QR, QP, QQ, zz21, gr_v, zz34, JB, zz6, QO, ↓Qb]
  refine hK2 _ ?_; try clear hK2 K2
  refine kpA [2, 3, 4, 15, 24] ?_
  refine cnA ?_ ?_
  ·intro hb
   have h4 : (doK a == 4) = true := hb
   clear hb
   refine JA fun K3 hK3 => ?_
   refine Qz F_mixed [some 27, some 28, some 29, some 30, some 31, some 32, some 33, some 34, some 26, some 35, some 36, some 37, some 6, none, some 7, some 8] rfl ?_
   simp only [zzK, QR, QP, QQ, F_ok58, F_ag58, F_sz58, zz8, zz23, zzD, QS, QN, zzH, zzC, QA, yyE, Qe, zz19, F_off88_1, F_ok3, F_ag3, F_sz3, F_off88_2, F_off88_3, JE, JF, JC, zz14, zz32, JS, F_zero58, zz10, zz18, splice, QG, zz1, zzG, JB, bookC, tradesB, poss, QW, zz6, QO, ↓Qb]
   refine JT F_go56 (fun hG => correct_ nx ts ps a.no a.qty a.price (by omega) (by omega)) (by simp [QY, QX]) (by simp) ?_
   simp only [zzK, QR, QP, QQ, F_ok58, F_ag58, F_sz58, zz8, zz23, zzD, QS, QN, zzH, zzC, QA, yyE, Qe, zz19, F_off88_1, F_ok3, F_ag3, F_sz3, F_off88_2, F_off88_3, JE, JF, JC, zz14, zz32, JS, F_zero58, zz10, zz18, splice, QG, zz1, zzG, JB, bookC, tradesB, poss, QW, zz6, QO, ↓Qb, atsL, oksG, freeN, QZ, Qa, JO, Qm, QT, QS, zz9, QB, QA, S_mem, yyF, QF, zz2]
   refine hK3 _ ?_; try clear hK3 K3
   refine kpA [4, 6, 8] ?_
   refine JA fun K3 hK3 => ?_
   refine Qz F_mixed [some 38, some 39, none, some 5] rfl ?_
   simp only [zzK, QR, QP, QQ, F_ok58, F_ag58, F_sz58, zz8, zz23, zzD, QS, QN, zzH, zzC, QA, yyE, Qe, JC, zz18, splice, QG, zz1, zzG, JB, zz6, QO, ↓Qb]
   refine hK3 _ ?_; try clear hK3 K3
   refine kpA [4, 5] ?_
   refine JJ ?_
   simp only [zz6, QO, ↓Qb]
   simp only [doV, doE, h3, h4, Qd, Qc]
   refine doneN [35000, 35001] (by simp [resCs, resC, S, List.getD, JD, lookR, F_ag58, F_sz58, F_ok58]) ?_ (by simp [flatA, Jb, Jc, ]) (by simp [QY, QX, ]) (by decide) ?_
   ·simp only [QD, QE, resA, JZ, S_mem, lookR_cons, lookR_nil, QR, QP, JD, QQ, Qd, Qc, JP, QI, QJ, QH, QL, QK, List.take_zero, F_ag58, F_sz58, F_ok58]; rfl
   ·exact ⟨⟨_, rfl, trivial, rfl, rfl, rfl, rfl⟩, by simp [flatDs, Jc, tradeC], ⟨_, rfl, trivial, rfl, rfl, rfl, rfl⟩, by simp [flatDs, Jc, posC], trivial⟩
  ·intro hb
   have h4 : (doK a == 4) = false := hb
   clear hb
   refine JA fun K3 hK3 => ?_
   refine Qz F_mixed [some 41, some 40] rfl ?_
   simp only [zzK, QR, QP, QQ, zz21, gr_v, zz34, JB, zz6, QO, ↓Qb]
   refine hK3 _ ?_; try clear hK3 K3
   refine kpA [2, 3, 4, 40] ?_
   refine cnA ?_ ?_
   ·intro hb
    have h5 : (doK a == 5) = true := hb
    clear hb
    refine JA fun K4 hK4 => ?_
    refine Qz F_mixed [some 42, some 43, none, some 5] rfl ?_
    simp only [zzK, QR, QP, QQ, F_ok58, F_ag58, F_sz58, zz8, zz23, zzD, QS, QN, zzH, zzC, QA, yyE, Qe, JE, JF, zz18, splice, QG, zz1, zzG, JB, bookC, tradesB, poss, QW, zz6, QO, ↓Qb]
    refine JT F_go57 (fun hG => clear_ nx ts ps (by omega) (by omega)) (by simp [QY, QX]) (by simp) ?_
    simp only [zzK, QR, QP, QQ, F_ok58, F_ag58, F_sz58, zz8, zz23, zzD, QS, QN, zzH, zzC, QA, yyE, Qe, JE, JF, zz18, splice, QG, zz1, zzG, JB, bookC, tradesB, poss, QW, zz6, QO, ↓Qb, atsL, oksG, freeN, QZ, Qa, JO, Qm, QT, QS, zz9, QB, QA, S_mem, yyF, QF, zz2]
    refine hK4 _ ?_; try clear hK4 K4
    refine kpA [4, 5] ?_
    refine JJ ?_
    simp only [zz6, QO, ↓Qb]
    simp only [doV, doE, h3, h4, h5, Qd, Qc]
    refine doneN [44000, 44001] (by simp [resCs, resC, S, List.getD, JD, lookR, F_ag58, F_sz58, F_ok58]) ?_ (by simp [flatA, Jb, Jc, ]) (by simp [QY, QX, ]) (by decide) ?_
    ·simp only [QD, QE, resA, JZ, S_mem, lookR_cons, lookR_nil, QR, QP, JD, QQ, Qd, Qc, JP, QI, QJ, QH, QL, QK, List.take_zero, F_ag58, F_sz58, F_ok58]; rfl
    ·exact ⟨⟨_, rfl, trivial, rfl, rfl, rfl, rfl⟩, by simp [flatDs, Jc, tradeC], ⟨_, rfl, trivial, rfl, rfl, rfl, rfl⟩, by simp [flatDs, Jc, posC], trivial⟩
   ·intro hb
    have h5 : (doK a == 5) = false := hb
    clear hb
    refine awp_skip ?_
    simp only [zz6, QO, ↓Qb]
    refine hK0 _ ?_; try clear hK0 K0
    refine kpA [2, 3, 4] ?_
    refine JA fun K0 hK0 => ?_
    refine Qz F_mixed [some 45, some 46, some 47, some 48, some 44, some 49, some 50, some 51, some 9, none, some 10, some 11] rfl ?_
    simp only [zzK, QR, QP, QQ, F_ok58, F_ag58, F_sz58, zz8, zz23, zzD, QS, QN, zzH, zzC, QA, yyE, Qe, zz19, F_off88_4, F_ok86, F_ag86, F_sz86, JE, JF, JC, zz14, zz32, JS, F_zero58, zz10, zz18, splice, QG, zz1, zzG, JB, bookC, tradesB, poss, tradeC, QW, zz6, QO, ↓Qb]
    refine JT F_go58 (fun hG => enter_ nx ts ps a.t (by omega) (by omega)) (by simp [QY, QX]) (by simp) ?_
    simp only [zzK, QR, QP, QQ, F_ok58, F_ag58, F_sz58, zz8, zz23, zzD, QS, QN, zzH, zzC, QA, yyE, Qe, zz19, F_off88_4, F_ok86, F_ag86, F_sz86, JE, JF, JC, zz14, zz32, JS, F_zero58, zz10, zz18, splice, QG, zz1, zzG, JB, bookC, tradesB, poss, tradeC, QW, zz6, QO, ↓Qb, atsL, oksG, freeN, QZ, Qa, JO, Qm, QT, QS, zz9, QB, QA, S_mem, yyF, QF, zz2]
    refine hK0 _ ?_; try clear hK0 K0
    refine kpA [4, 9, 11] ?_
    refine JA fun K0 hK0 => ?_
    refine Qz F_mixed [some 52, some 53, none, some 5] rfl ?_
    simp only [zzK, QR, QP, QQ, F_ok58, F_ag58, F_sz58, zz8, zz23, zzD, QS, QN, zzH, zzC, QA, yyE, Qe, JC, zz18, splice, QG, zz1, zzG, JB, zz6, QO, ↓Qb]
    refine hK0 _ ?_; try clear hK0 K0
    refine kpA [4, 5] ?_
    refine JJ ?_
    simp only [zz6, QO, ↓Qb]
    simp only [doV, doE, h3, h4, h5, Qd, Qc]
    refine doneN [49000, 49001] (by simp [resCs, resC, S, List.getD, JD, lookR, F_ag58, F_sz58, F_ok58]) ?_ (by simp [flatA, Jb, Jc, ]) (by simp [QY, QX, ]) (by decide) ?_
    ·simp only [QD, QE, resA, JZ, S_mem, lookR_cons, lookR_nil, QR, QP, JD, QQ, Qd, Qc, JP, QI, QJ, QH, QL, QK, List.take_zero, F_ag58, F_sz58, F_ok58]; rfl
    ·exact ⟨⟨_, rfl, trivial, rfl, rfl, rfl, rfl⟩, by simp [flatDs, Jc, tradeC], ⟨_, rfl, trivial, rfl, rfl, rfl, rfl⟩, by simp [flatDs, Jc, posC], trivial⟩
theorem doS (b : BookV) (a : ActV) (ht : b.trades.length ≤ 150000) (hp : b.poss.length ≤ 150000) : ACalls Try.prog 38 [.agg (bookC b), .agg (actC a)] [⟨86, 7, (doV b a).trades.map tradeC⟩, ⟨46, 4, (doV b a).poss.map posC⟩] (.tp [.ag [.d (iv (doV b a).next), .ref 0 (doV b a).trades.length, .ref 1 (doV b a).poss.length], .d (iv (doE b a))]) := by
 obtain ⟨nx, ts, ps⟩ := b
 exact do_ nx ts ps a ht hp
theorem grownB_ (l : List ActV) : ACalls Try.prog 22 [acts l] [⟨86, 7, (grownB l).trades.map tradeC⟩, ⟨46, 4, (grownB l).poss.map posC⟩] (.ag [.d (iv (grownB l).next), .ref 0 (grownB l).trades.length, .ref 1 (grownB l).poss.length]) := by
 refine acalls_S (rs := [.cell 2 58]) Try.func22 rfl rfl 31 [(0, .d (acts l))] rfl (by simp) rfl ?_
 refine JA fun K0 hK0 => ?_
 refine Qz F_mixed [some 2] rfl ?_
 simp only [zzK, QR, QP, QQ, zz32, JS, F_zero58, zzC, QA, yyE, Qe, zzD, QS, QN, zzH, zz10, zz6, QO, ↓Qb]
 refine hK0 _ ?_; try clear hK0 K0
 refine kpA [0, 2] ?_
 refine JA fun K0 hK0 => ?_
 refine Qz F_mixed [some 7, some 3, none] rfl ?_
 simp only [zzK, QR, QP, QQ, F_zero58, F_bld58, zz7, splice, Option.getD_some, QG, zz1, zzG, zzD, zzC, QA, yyE, Qe, QS, QN, zzH, zz10, zz32, JS, zz18, F_ok58, F_sz58, zz6, QO, ↓Qb]
 refine hK0 _ ?_; try clear hK0 K0
 refine kpA [0, 2, 3] ?_
 refine JA fun K0 hK0 => ?_
 refine JA fun K1 hK1 => ?_
 refine Qz F_mixed [some 4] rfl ?_
 simp only [zzK, QR, QP, QQ, JB, zz6, QO, ↓Qb]
 refine hK1 _ ?_; try clear hK1 K1
 refine kpA [0, 2, 3, 4] ?_
 refine awp_block ?_
 refine awp_loop (fun m s => ∃ (pre : List ActV) (post : List ActV), (l = pre ++ post) ∧ (pre.length ≤ 100) ∧ m = post.length ∧ s = S 31 [(0, .d (acts l)), (2, .ptr 2 0 0), (3, .ptr 3 0 0), (4, .d (iv pre.length))] [(2, (⟨True, 58, 3, true, false, 2, [[.d (.v (.int .i64 0)), .d (.v (.slice none 0 0)), .d (.v (.slice none 0 0))]]⟩ : ARow)), (3, (⟨True, 58, 3, true, false, 3, [[.d (iv (growB pre).next), .ref 500 (growB pre).trades.length, .ref 501 (growB pre).poss.length]]⟩ : ARow)), (500, (⟨True, 86, 7, true, true, 500, ((growB pre).trades.map tradeC).map (·.map .d)⟩ : ARow)), (501, (⟨True, 46, 4, true, true, 501, ((growB pre).poss.map posC).map (·.map .d)⟩ : ARow))]) (l.length) _ (le_SK id [500, 501] rfl (l' := [(0, .d (acts l)), (2, .ptr 2 0 0), (3, .ptr 3 0 0), (4, .d (iv [].length))]) (m' := [(2, (⟨True, 58, 3, true, false, 2, [[.d (.v (.int .i64 0)), .d (.v (.slice none 0 0)), .d (.v (.slice none 0 0))]]⟩ : ARow)), (3, (⟨True, 58, 3, true, false, 3, [[.d (iv (growB []).next), .ref 500 (growB []).trades.length, .ref 501 (growB []).poss.length]]⟩ : ARow)), (500, (⟨True, 86, 7, true, true, 500, ((growB []).trades.map tradeC).map (·.map .d)⟩ : ARow)), (501, (⟨True, 46, 4, true, true, 501, ((growB []).poss.map posC).map (·.map .d)⟩ : ARow))]) ?_ ?_ ?_ ?_) ⟨[], l, rfl, by simp, rfl, rfl⟩ ?_
 ·simp only [leV, JD, QQ, Qd, Qc]; exact ⟨(by first | exact Qo rfl | exact Qq (by decide) | exact Qp | exact Qn _ | exact Qs (by simp) (by rfl) | exact Qr (by simp) (by rfl) (by first | rfl | (simp; done) | (simp; omega)) | exact Qt (by first | rfl | simp)), (by first | exact Qo rfl | exact Qq (by decide) | exact Qp | exact Qn _ | exact Qs (by simp) (by rfl) | exact Qr (by simp) (by rfl) (by first | rfl | (simp; done) | (simp; omega)) | exact Qt (by first | rfl | simp)), (by first | exact Qo rfl | exact Qq (by decide) | exact Qp | exact Qn _ | exact Qs (by simp) (by rfl) | exact Qr (by simp) (by rfl) (by first | rfl | (simp; done) | (simp; omega)) | exact Qt (by first | rfl | simp)), (by first | exact Qo rfl | exact Qq (by decide) | exact Qp | exact Qn _ | exact Qs (by simp) (by rfl) | exact Qr (by simp) (by rfl) (by first | rfl | (simp; done) | (simp; omega)) | exact Qt (by first | rfl | simp)), trivial⟩
 ·exact ⟨fun _ => ⟨_, rfl, (by first | exact Qw (by first | rfl | simp) | exact Qx (by first | rfl | simp) (by simp) ids_data | exact Qv (by simp [QX, QY]) | exact Qu (by simp) (by simp [QX, QY]))⟩, fun h => by simp at h, fun _ => ⟨_, rfl, RowLe.cells (VLess.one_ (VLes.cons_ (Qt rfl) (VLes.cons_ (Qq (by decide)) (VLes.cons_ (Qq (by decide)) (VLes.nil_)))))⟩, fun h => by simp at h, fun h => by simp at h, fun _ => rfl, fun h => by simp at h, fun _ => rfl, trivial⟩
 ·simp [wfV, QY, QX, lookR, grow]
 ·exact ⟨by simp [QX, QY, lookR], by simp [QX, QY, lookR], wf_data _ _, wf_data _ _, trivial⟩
 rintro m s ⟨pre, post, hsp, h40, rfl, rfl⟩
 have hspl := congrArg List.length hsp
 simp only [List.length_append] at hspl
 refine JA fun K2 hK2 => ?_
 refine JA fun K3 hK3 => ?_
 refine Qz F_mixed [some 8, some 9, some 10, some 11, some 12, some 13, some 14, some 15] rfl ?_
 simp only [zzK, QR, QP, QQ, Nat.reduceSub, JZ, zz5, and_imp, imp_and, imp_self, and_self, JC, JE, zz12, F_sl55, Option.isSome_some, zz21, gr_v, zz22, zz13, pickK_l, pickK_r, acts, len_map, zz6, QO, ↓Qb]
 refine hK3 _ ?_; try clear hK3 K3
 refine kpA [0, 2, 3, 4, 15] ?_
 refine cnA ?_ ?_
 ·intro hb
  have hb2 := hb
  clear hb
  simp only [Bool.and_eq_true, decide_eq_true_eq] at hb2
  obtain ⟨hb1, h41⟩ := hb2
  have hb := decide_eq_true hb1
  obtain ⟨x, post2, rfl⟩ : ∃ x t, post = x :: t := by
   cases post with
   | nil => have := of_decide_eq_true hb; simp at hspl; omega
   | cons x t => exact ⟨x, t, rfl⟩
  clear hb
  simp only [QF] at hspl
  have gx : (l.map actC).getD pre.length [] = [iv x.act, iv x.no, iv x.qty, iv x.price, iv x.t.no, iv x.t.buyer, iv x.t.seller, iv x.t.inst, iv x.t.qty, iv x.t.price, .v (.bool x.t.gone)] := by
   rw [hsp, List.map_append]; exact gd_mid' (A := pre.map actC) _ _ (by simp)
  have bx := ltI (show pre.length < l.length by omega)
  have hwx : Ql .i64 ((pre.length : Int) + 1) = ((pre ++ [x]).length : Int) := by rw [wrapI (by omega) (by omega)]; simp
  have hgl := grow_len (inv_pre pre).good
  refine awp_skip ?_
  simp only [zz6, QO, ↓Qb]
  refine hK2 _ ?_; try clear hK2 K2
  refine kpA [0, 2, 3, 4] ?_
  refine JA fun K2 hK2 => ?_
  refine awp_block ?_
  refine JA fun K3 hK3 => ?_
  refine awp_draw F_mixed [some 19, some 20, some 21, some 22, some 23, some 24, some 18, some 25, some 26, some 5, none, some 6] rfl (by kernel_rfl) ?_
  simp only [zzK, QR, QP, QQ, F_ok58, F_ag58, F_sz58, zz8, zz23, zzD, QS, QN, zzH, zzC, QA, yyE, Qe, JC, evS_indexAddr, zz24, F_sl55, F_sz88, F_ok88, F_ag88, JE, JF, zz14, zz32, JS, F_zero58, zz10, zz18, splice, QG, zz1, zzG, JB, acts, actC, bookC, tradesB, poss, gx, bx, hwx, len_map, ge0, QV, QW, zz6, QO, ↓Qb]
  refine call_goE F_go38 (fun hG => doS (growB pre) x (by omega) (by omega)) (by simp [QY, QX]) (by simp) ?_
  simp only [zzK, QR, QP, QQ, F_ok58, F_ag58, F_sz58, zz8, zz23, zzD, QS, QN, zzH, zzC, QA, yyE, Qe, JC, evS_indexAddr, zz24, F_sl55, F_sz88, F_ok88, F_ag88, JE, JF, zz14, zz32, JS, F_zero58, zz10, zz18, splice, QG, zz1, zzG, JB, acts, actC, bookC, tradesB, poss, gx, bx, hwx, len_map, ge0, QV, QW, zz6, QO, ↓Qb, asEs_cons, asEs_nil, asE_ag, asE_d, asE_ref, asEc_cons, asEc_nil, asF_d, asF_ref, asF_ag, asGs, oksF, atsL, oksG, freeN, QZ, Qa, JO, Qm, QT, QS, zz9, QB, QA, S_mem, yyF, QF, zz2]
  refine hK3 _ ?_; try clear hK3 K3
  refine kpA [0, 2, 3, 4, 5, 6] ?_
  refine JA fun K3 hK3 => ?_
  refine Qz F_mixed [some 27, some 28] rfl ?_
  simp only [zzK, QR, QP, QQ, JC, zz21, gr_v, zz34, zz6, QO, ↓Qb]
  refine hK3 _ ?_; try clear hK3 K3
  refine kpA [0, 2, 3, 4, 5, 28] ?_
  refine cnA ?_ ?_
  ·intro hb
   have hgr : growB (pre ++ [x]) = doV (growB pre) x := by rw [growB_snoc, grow1B, show (doE (growB pre) x == 0) = true from hb]; rfl
   clear hb
   refine Qz F_mixed [some 29, none] rfl ?_
   simp only [zzK, QR, QP, QQ, F_ok58, F_ag58, F_sz58, zz8, zz23, zzD, QS, QN, zzH, zzC, QA, yyE, Qe, zz18, splice, QG, zz1, zzG, zz6, QO, ↓Qb]
   refine hK2 _ ?_; try clear hK2 K2
   refine kpA [0, 2, 3, 4] ?_
   refine Qz F_mixed [some 16, some 17, some 4] rfl ?_
   simp only [zzK, QR, QP, QQ, JC, zz21, gr_v, zz26, JB, hwx, zz6, QO, ↓Qb]
   refine ⟨post2.length, _, by simp, le_SK (fun r => bif r == 501 then 25001 else bif r == 500 then 25000 else r) [] rfl (l' := [(0, .d (acts l)), (2, .ptr 2 0 0), (3, .ptr 3 0 0), (4, .d (iv (pre ++ [x]).length))]) (m' := [(2, (⟨True, 58, 3, true, false, 2, [[.d (.v (.int .i64 0)), .d (.v (.slice none 0 0)), .d (.v (.slice none 0 0))]]⟩ : ARow)), (3, (⟨True, 58, 3, true, false, 3, [[.d (iv (growB (pre ++ [x])).next), .ref 500 (growB (pre ++ [x])).trades.length, .ref 501 (growB (pre ++ [x])).poss.length]]⟩ : ARow)), (500, (⟨True, 86, 7, true, true, 500, ((growB (pre ++ [x])).trades.map tradeC).map (·.map .d)⟩ : ARow)), (501, (⟨True, 46, 4, true, true, 501, ((growB (pre ++ [x])).poss.map posC).map (·.map .d)⟩ : ARow))]) ?_ ?_ ?_ ?_, (pre ++ [x]), post2, by simp [hsp], by simp; omega, rfl, rfl⟩
   ·simp only [leV, JD, QQ, Qd, Qc, hwx]; exact ⟨(by first | exact Qo rfl | exact Qq (by decide) | exact Qp | exact Qn _ | exact Qs (by simp) (by rfl) | exact Qr (by simp) (by rfl) (by first | rfl | (simp; done) | (simp; omega)) | exact Qt (by first | rfl | simp)), (by first | exact Qo rfl | exact Qq (by decide) | exact Qp | exact Qn _ | exact Qs (by simp) (by rfl) | exact Qr (by simp) (by rfl) (by first | rfl | (simp; done) | (simp; omega)) | exact Qt (by first | rfl | simp)), (by first | exact Qo rfl | exact Qq (by decide) | exact Qp | exact Qn _ | exact Qs (by simp) (by rfl) | exact Qr (by simp) (by rfl) (by first | rfl | (simp; done) | (simp; omega)) | exact Qt (by first | rfl | simp)), (by first | exact Qo rfl | exact Qq (by decide) | exact Qp | exact Qn _ | exact Qs (by simp) (by rfl) | exact Qr (by simp) (by rfl) (by first | rfl | (simp; done) | (simp; omega)) | exact Qt (by first | rfl | simp)), trivial⟩
   ·exact ⟨fun _ => ⟨_, rfl, (by first | exact Qw (by first | rfl | simp) | exact Qx (by first | rfl | simp) (by simp) ids_data | exact Qv (by simp [QX, QY]) | exact Qu (by simp) (by simp [QX, QY]))⟩, fun h => by simp at h, fun _ => ⟨_, rfl, RowLe.cells (VLess.one_ (VLes.cons_ (Qt (by rw [hgr])) (VLes.cons_ (Qr (by simp) rfl (by rw [hgr])) (VLes.cons_ (Qr (by simp) rfl (by rw [hgr])) (VLes.nil_)))))⟩, fun h => by simp at h, fun _ => ⟨_, rfl, Qx (by rw [hgr]) (by simp) ids_data⟩, fun h => by simp at h, fun _ => ⟨_, rfl, Qx (by rw [hgr]) (by simp) ids_data⟩, fun h => by simp at h, trivial⟩
   ·simp [wfV, QY, QX, lookR, grow]
   ·exact ⟨by simp [QX, QY, lookR], by simp [QX, QY, lookR], wf_data _ _, wf_data _ _, trivial⟩
  ·intro hb
   have hgr : growB (pre ++ [x]) = growB pre := by rw [growB_snoc, grow1B, show (doE (growB pre) x == 0) = false from hb]; rfl
   clear hb
   refine awp_skip ?_
   simp only [zz6, QO, ↓Qb]
   refine hK2 _ ?_; try clear hK2 K2
   refine kpA [0, 2, 3, 4] ?_
   refine Qz F_mixed [some 16, some 17, some 4] rfl ?_
   simp only [zzK, QR, QP, QQ, JC, zz21, gr_v, zz26, JB, hwx, zz6, QO, ↓Qb]
   refine ⟨post2.length, _, by simp, le_SK id [] rfl (l' := [(0, .d (acts l)), (2, .ptr 2 0 0), (3, .ptr 3 0 0), (4, .d (iv (pre ++ [x]).length))]) (m' := [(2, (⟨True, 58, 3, true, false, 2, [[.d (.v (.int .i64 0)), .d (.v (.slice none 0 0)), .d (.v (.slice none 0 0))]]⟩ : ARow)), (3, (⟨True, 58, 3, true, false, 3, [[.d (iv (growB (pre ++ [x])).next), .ref 500 (growB (pre ++ [x])).trades.length, .ref 501 (growB (pre ++ [x])).poss.length]]⟩ : ARow)), (500, (⟨True, 86, 7, true, true, 500, ((growB (pre ++ [x])).trades.map tradeC).map (·.map .d)⟩ : ARow)), (501, (⟨True, 46, 4, true, true, 501, ((growB (pre ++ [x])).poss.map posC).map (·.map .d)⟩ : ARow))]) ?_ ?_ ?_ ?_, (pre ++ [x]), post2, by simp [hsp], by simp; omega, rfl, rfl⟩
   ·simp only [leV, JD, QQ, Qd, Qc, hwx]; exact ⟨(by first | exact Qo rfl | exact Qq (by decide) | exact Qp | exact Qn _ | exact Qs (by simp) (by rfl) | exact Qr (by simp) (by rfl) (by first | rfl | (simp; done) | (simp; omega)) | exact Qt (by first | rfl | simp)), (by first | exact Qo rfl | exact Qq (by decide) | exact Qp | exact Qn _ | exact Qs (by simp) (by rfl) | exact Qr (by simp) (by rfl) (by first | rfl | (simp; done) | (simp; omega)) | exact Qt (by first | rfl | simp)), (by first | exact Qo rfl | exact Qq (by decide) | exact Qp | exact Qn _ | exact Qs (by simp) (by rfl) | exact Qr (by simp) (by rfl) (by first | rfl | (simp; done) | (simp; omega)) | exact Qt (by first | rfl | simp)), (by first | exact Qo rfl | exact Qq (by decide) | exact Qp | exact Qn _ | exact Qs (by simp) (by rfl) | exact Qr (by simp) (by rfl) (by first | rfl | (simp; done) | (simp; omega)) | exact Qt (by first | rfl | simp)), trivial⟩
   ·exact ⟨fun _ => ⟨_, rfl, (by first | exact Qw (by first | rfl | simp) | exact Qx (by first | rfl | simp) (by simp) ids_data | exact Qv (by simp [QX, QY]) | exact Qu (by simp) (by simp [QX, QY]))⟩, fun h => by simp at h, fun _ => ⟨_, rfl, RowLe.cells (VLess.one_ (VLes.cons_ (Qt (by rw [hgr])) (VLes.cons_ (Qr (by simp) rfl (by rw [hgr])) (VLes.cons_ (Qr (by simp) rfl (by rw [hgr])) (VLes.nil_)))))⟩, fun h => by simp at h, fun _ => ⟨_, rfl, Qx (by rw [hgr]) (by simp) ids_data⟩, fun h => by simp at h, fun _ => ⟨_, rfl, Qx (by rw [hgr]) (by simp) ids_data⟩, fun h => by simp at h, trivial⟩
   ·simp [wfV, QY, QX, lookR, grow]
   ·exact ⟨by simp [QX, QY, lookR], by simp [QX, QY, lookR], wf_data _ _, wf_data _ _, trivial⟩
 ·intro hb
  have hx : post = [] ∨ pre.length = 100 := by
   by_cases h40 : pre.length = 100
   ·exact .inr h40
   ·left
    cases post with
    | nil => rfl
    | cons x t =>
     simp at hspl
     rw [show decide ((pre.length : Int) < (l.length : Int)) = true from decide_eq_true (by omega), show decide ((pre.length : Int) < 100) = true from decide_eq_true (by omega)] at hb
     cases hb
  clear hb
  have htk := take_preA hx h40
  rw [← hsp] at htk
  have hg : grownB l = growB pre := by rw [grownB, htk]
  refine awp_exit ?_
  simp only [zz6, QO, ↓Qb]
  refine hK0 _ ?_; try clear hK0 K0
  refine kpA [2, 3] ?_
  refine JA fun K0 hK0 => ?_
  refine Qz F_mixed [some 30, none] rfl ?_
  simp only [zzK, QR, QP, QQ, F_ok58, F_ag58, F_sz58, zz8, zz23, zzD, QS, QN, zzH, zzC, QA, yyE, Qe, zz18, splice, QG, zz1, zzG, zz6, QO, ↓Qb]
  refine hK0 _ ?_; try clear hK0 K0
  refine kpA [2] ?_
  refine JJ ?_
  simp only [zz6, QO, ↓Qb]
  rw [hg]
  refine doneN [500, 501] (by simp [resCs, resC, S, List.getD, JD, lookR, F_ag58, F_sz58, F_ok58]) ?_ (by simp [flatA, Jb, Jc, ]) (by simp [QY, QX, ]) (by decide) ?_
  ·simp only [QD, QE, resA, JZ, S_mem, lookR_cons, lookR_nil, QR, QP, JD, QQ, Qd, Qc, JP, QI, QJ, QH, QL, QK, List.take_zero, F_ag58, F_sz58, F_ok58]; rfl
  ·exact ⟨⟨_, rfl, trivial, rfl, rfl, rfl, rfl⟩, by simp [flatDs, Jc, tradeC], ⟨_, rfl, trivial, rfl, rfl, rfl, rfl⟩, by simp [flatDs, Jc, posC], trivial⟩
theorem grownBF (l : List ActV) : ACalls Try.prog 22 [acts l] [] (.d (.agg (bookC (grownB l)))) := (grownB_ l).freeze (by simp [frzOk, frzOkL])
end Go.Proofs.Ytopifbpibkpmmaa
