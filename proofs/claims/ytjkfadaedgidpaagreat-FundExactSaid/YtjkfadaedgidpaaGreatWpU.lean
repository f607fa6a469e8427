import Derived.Test.YtjkfadaedgidpaaGreatWpS
namespace Go.Proofs.YtjkfadaedgidpaaGreat
open Go.RowKit
set_option linter.unusedVariables false
set_option linter.unusedSimpArgs false
open Option renaming map_some → QA, bind_some → QB
open List renaming map_cons → QD, map_nil → QE, length_cons → QF, append_nil → QG, drop_zero → QH, getD_cons_zero → QI, getD_cons_succ → QJ, take_succ_cons → QK, drop_succ_cons → QL
open Nat renaming zero_add → QN, reduceEqDiff → QO, reduceLeDiff → QP, reduceBEq → QQ, reduceLT → QR, reduceAdd → QS, reduceMul → QT, reduceSub → QU
open D.agg renaming injEq → QW
open AV renaming idsL → QX, ids → QY, ren → QZ, renL → Qa
open _root_ renaming reduceIte → Qb, cond_false → Qc, cond_true → Qd, reduceCtorEq → Qe
open IntKind renaming wrap → Ql
open ORow renaming row → Qm
open VLe renaming refE → Qr
open RowLe renaming data_ → Qw
open Go.Proofs.YtjkfadaedgidpaaGreat renaming awp_seq → JA, evS_assign → JB, evS_move → JC, look_cons → JD, evS_call → JE, evC_value → JF, awp_skip → JI, gr_v → JM, len_map → JN, addRows → JO, newRow1 → JS, freeN → JV, S_getD → JZ, flatD → Jc
theorem F_go47 : goFn Tryz.prog 47 := ⟨_, Tryz.func47, rfl, rfl⟩
theorem F_zero81 : zeroT Tryz.prog 81 = some [(.int .i64 0), (.int .i64 0), (.int .i64 0)] := by kernel_rfl
theorem F_bld81 : bldT Tryz.prog 81 = true := by kernel_rfl
theorem F_fld81_0 : fldT Tryz.prog 81 0 = some (0, 1) := by kernel_rfl
theorem F_fld81_1 : fldT Tryz.prog 81 1 = some (1, 1) := by kernel_rfl
theorem F_fld81_2 : fldT Tryz.prog 81 2 = some (2, 1) := by kernel_rfl
theorem F_sl49 : sliceT Tryz.prog 49 = some 81 := by kernel_rfl
theorem F_sz81 : szT Tryz.prog 81 = 3 := by kernel_rfl
theorem F_by81 : byT Tryz.prog 81 = 24 := by kernel_rfl
set_option maxRecDepth 100000 in
set_option maxHeartbeats 4000000 in
theorem rRefill_ (nx : Int) (l : List LegV) (r : RollV) (c : Int) (hl : l.length ≤ 400000) (h : r.Small) (hm : r.mems.length ≤ 400000) : ACalls Tryz.prog 19 [.agg (ledC ⟨nx, l⟩), .agg (rollC r), iv c] [⟨75, 4, (rfV ⟨nx, l⟩ r c).map legC⟩, ⟨81, 3, (rfU ⟨nx, l⟩ r c).map fdueC⟩] (.tp [.ref 0 (rfV ⟨nx, l⟩ r c).length, .ref 1 (rfU ⟨nx, l⟩ r c).length, .d (iv (rfE ⟨nx, l⟩ r c))]) := by
 refine acalls_S (rs := [.tmp 6, .tmp 7, .tmp 8]) Tryz.func19 rfl rfl 93 [(0, .d (.agg (ledC ⟨nx, l⟩))), (1, .d (.agg (rollC r))), (2, .d (iv c))] rfl (by simp) rfl ?_
 refine pq fun K0 hK0 => ?_
 simp only [zzK, QR, QP, QQ, zz35, JS, zz1, zzG, zzD, zzC, QA, yyE, Qe, QS, QN, zzH, JB, ledC, legs, rollC, memsD, instsD, assetsD, zz6, QO, ↓Qb]
 refine kK hK0 [2, 3, 4] ?_
 refine JA fun K0 hK0 => ?_
 refine JA fun K1 hK1 => ?_
 refine awp_plain F_mixed [some 19, some 20, some 21, some 22, some 23, some 24, some 25, some 26] rfl ?_
 simp only [zzK, QR, QP, QQ, QU, JZ, zz5, and_imp, imp_and, imp_self, F_ok24, F_ag24, F_sz24, zz8, zz23, zzD, QS, QN, zzH, zzC, QA, yyE, Qe, JE, JF, zz29, JM, zz30, JC, F_ok29, F_ag29, F_sz29, zz13, pickK_l, pickK_r, ledC, legs, rollC, memsD, instsD, assetsD, QW, zz6, QO, ↓Qb]
 refine cgA F_go31 (fun hG => rLed0_ nx l (by omega)) ?_
 simp only [zzK, QR, QP, QQ, QU, JZ, zz5, and_imp, imp_and, imp_self, F_ok24, F_ag24, F_sz24, zz8, zz23, zzD, QS, QN, zzH, zzC, QA, yyE, Qe, JE, JF, zz29, JM, zz30, JC, F_ok29, F_ag29, F_sz29, zz13, pickK_l, pickK_r, ledC, legs, rollC, memsD, instsD, assetsD, QW, zz6, QO, ↓Qb, atsL, oksG, JV, QZ, Qa, JO, Qm, QT, QS, zz9, QB, QA, S_mem, yyF, QF, zz2]
 refine cgA F_go37 (fun hG => rRoll_ r h) ?_
 simp only [zzK, QR, QP, QQ, QU, JZ, zz5, and_imp, imp_and, imp_self, F_ok24, F_ag24, F_sz24, zz8, zz23, zzD, QS, QN, zzH, zzC, QA, yyE, Qe, JE, JF, zz29, JM, zz30, JC, F_ok29, F_ag29, F_sz29, zz13, pickK_l, pickK_r, ledC, legs, rollC, memsD, instsD, assetsD, QW, zz6, QO, ↓Qb, atsL, oksG, JV, QZ, Qa, JO, Qm, QT, QS, zz9, QB, QA, S_mem, yyF, QF, zz2]
 refine kK hK1 [2, 3, 4, 26] ?_
 refine cnA ?_ ?_
 ·intro hb
  have ho : (ledOk ⟨nx, l⟩ && rollOk r) = false := by cases h1 : ledOk ⟨nx, l⟩ <;> cases h2 : rollOk r <;> simp [h1, h2] at hb ⊢
  clear hb
  obtain ⟨f0, f1, f2⟩ := rf_no (c := c) ho
  refine pq fun K2 hK2 => ?_
  simp only [zzK, QR, QP, QQ, JB, zz6, QO, ↓Qb]
  refine kK hK2 [6, 7, 8] ?_
  refine awp_le (leK id [0, 1] (l' := [(6, .ref 0 0), (7, .ref 1 0), (8, .d (iv 14))]) (m' := [(0, (⟨True, 75, 4, true, true, 0, []⟩ : ARow)), (1, (⟨True, 81, 3, true, true, 1, []⟩ : ARow))])) ?_
  refine awp_ret ?_
  simp only [zz6, QO, ↓Qb]
  rw [f1, f2, f0]
  refine doneN [0, 1] (by simp [resCs, resC, S, List.getD, JD, lookR, legC, fdueC]) ?_ (by simp [flatA, flatAs, Jc, ]) (by simp [QY, QX, ]) (by decide) ?_
  ·simp only [QD, QE, resA, JZ, S_mem, lookR_cons, lookR_nil, QR, QP, JD, QQ, Qd, Qc, resAll, QI, QJ, QH, QL, QK, List.take_zero, legC, fdueC]; rfl
  ·exact ⟨⟨_, rfl, trivial, rfl, rfl, rfl, rfl⟩, by simp [flatDs, Jc, legC], ⟨_, rfl, trivial, rfl, rfl, rfl, rfl⟩, by simp [flatDs, Jc, fdueC], trivial⟩
 ·intro hb
  have ho : ledOk ⟨nx, l⟩ = true ∧ rollOk r = true := by cases h1 : ledOk ⟨nx, l⟩ <;> cases h2 : rollOk r <;> simp [h1, h2] at hb ⊢
  clear hb
  refine JI ?_
  simp only [zz6, QO, ↓Qb]
  refine kK hK0 [2, 3, 4] ?_
  refine JA fun K0 hK0 => ?_
  refine pq fun K1 hK1 => ?_
  simp only [zzK, QR, QP, QQ, JC, JE, JF, zz29, JM, zz30, zz6, QO, ↓Qb]
  refine cgA F_go42 (fun hG => rCur_ c) ?_
  simp only [zzK, QR, QP, QQ, JC, JE, JF, zz29, JM, zz30, zz6, QO, ↓Qb, atsL, oksG, JV, QZ, Qa, JO, Qm, QT, QS, zz9, QB, QA, zzC, yyF, zzD, zz2]
  refine kK hK1 [2, 3, 4, 29] ?_
  refine cnA ?_ ?_
  ·intro hb
   have hc : curOk c = false := by rw [cur_in] at hb; simpa using hb
   clear hb
   obtain ⟨f0, f1, f2⟩ := rf_cur ho.1 ho.2 hc
   refine pq fun K2 hK2 => ?_
   simp only [zzK, QR, QP, QQ, JB, zz6, QO, ↓Qb]
   refine kK hK2 [6, 7, 8] ?_
   refine awp_le (leK id [0, 1] (l' := [(6, .ref 0 0), (7, .ref 1 0), (8, .d (iv 3))]) (m' := [(0, (⟨True, 75, 4, true, true, 0, []⟩ : ARow)), (1, (⟨True, 81, 3, true, true, 1, []⟩ : ARow))])) ?_
   refine awp_ret ?_
   simp only [zz6, QO, ↓Qb]
   rw [f1, f2, f0]
   refine doneN [0, 1] (by simp [resCs, resC, S, List.getD, JD, lookR, legC, fdueC]) ?_ (by simp [flatA, flatAs, Jc, ]) (by simp [QY, QX, ]) (by decide) ?_
   ·simp only [QD, QE, resA, JZ, S_mem, lookR_cons, lookR_nil, QR, QP, JD, QQ, Qd, Qc, resAll, QI, QJ, QH, QL, QK, List.take_zero, legC, fdueC]; rfl
   ·exact ⟨⟨_, rfl, trivial, rfl, rfl, rfl, rfl⟩, by simp [flatDs, Jc, legC], ⟨_, rfl, trivial, rfl, rfl, rfl, rfl⟩, by simp [flatDs, Jc, fdueC], trivial⟩
  ·intro hb
   have hc : curOk c = true := by rw [cur_in] at hb; simpa using hb
   clear hb
   obtain ⟨fj, f0, f1, f2⟩ := rf_yes ho.1 ho.2 hc
   simp only at fj f1 f2
   refine JI ?_
   simp only [zz6, QO, ↓Qb]
   refine kK hK0 [2, 3, 4] ?_
   refine pq fun K0 hK0 => ?_
   simp only [zzK, QR, QP, QQ, JB, zz6, QO, ↓Qb]
   refine kK hK0 [2, 3, 4, 9] ?_
   refine pq fun K0 hK0 => ?_
   simp only [zzK, QR, QP, QQ, JB, zz6, QO, ↓Qb]
   refine kK hK0 [2, 3, 4, 9, 10] ?_
   refine JA fun K0 hK0 => ?_
   refine pq fun K1 hK1 => ?_
   simp only [zzK, QR, QP, QQ, JB, zz6, QO, ↓Qb]
   refine kK hK1 [2, 3, 4, 9, 10, 11] ?_
   refine awp_block ?_
   refine awp_loop (fun m s => ∃ (pre : List MemV) (post : List MemV), (r.mems = pre ++ post) ∧ m = post.length ∧ s = S 93 [(2, .d (iv c)), (3, .ptr 3 0 0), (4, .ptr 4 0 0), (9, .ref 9 (rfLs l c pre).length), (10, .ref 10 (rfDs l c pre).length), (11, .d (iv pre.length))] [(3, (⟨True, 24, 2, true, false, 3, [[.d (iv nx), .d (.sl 4 (l.map legC))]]⟩ : ARow)), (4, (⟨True, 29, 3, true, false, 4, [[.d (.sl 3 (r.mems.map memC)), .d (.sl 12 (r.insts.map instC)), .d (.sl 4 (r.assets.map assetC))]]⟩ : ARow)), (9, grow 75 4 9 ((rfLs l c pre).map legC)), (10, grow 81 3 10 ((rfDs l c pre).map fdueC))]) (r.mems.length) _ (leK id [9, 10]) ⟨[], r.mems, rfl, rfl, rfl⟩ ?_
   rintro m s ⟨pre, post, hsp, rfl, rfl⟩
   have hspl := congrArg List.length hsp
   simp only [List.length_append] at hspl
   have hLl := rfLs_len l c pre
   have hDl := rfDs_len l c pre
   refine JA fun K2 hK2 => ?_
   refine pq fun K3 hK3 => ?_
   simp only [zzK, QR, QP, QQ, JC, zz19, zz23, F_off29_0, zzH, QN, QS, F_ok25, F_ag25, F_sz25, zz8, zzD, zzC, QA, yyE, Qe, JE, zz12, F_sl25, Option.isSome_some, zz21, JM, zz22, JN, zz6, QO, ↓Qb]
   refine kK hK3 [2, 3, 4, 9, 10, 11, 34] ?_
   refine cnA ?_ ?_
   ·intro hb
    obtain ⟨x, post2, rfl⟩ : ∃ x t, post = x :: t := by
     cases post with
     | nil => have := of_decide_eq_true hb; simp at hspl; omega
     | cons x t => exact ⟨x, t, rfl⟩
    clear hb
    simp only [QF] at hspl
    have gx : (r.mems.map memC).getD pre.length [] = [iv x.no, iv x.state, iv x.need] := by
     rw [hsp, List.map_append]; exact gd_mid' (A := pre.map memC) _ _ (by simp)
    have bx := ltI (show pre.length < r.mems.length by omega)
    have hwx : Ql .i64 ((pre.length : Int) + 1) = ((pre ++ [x]).length : Int) := by rw [wrapI (by omega) (by omega)]; simp
    refine JI ?_
    simp only [zz6, QO, ↓Qb]
    refine kK hK2 [2, 3, 4, 9, 10, 11] ?_
    refine JA fun K2 hK2 => ?_
    refine awp_block ?_
    refine pq fun K3 hK3 => ?_
    simp only [zzK, QR, QP, QQ, zz19, zz23, F_off29_0, zzH, QN, QS, F_ok25, F_ag25, F_sz25, zz8, zzD, zzC, QA, yyE, Qe, JC, evS_indexAddr, zz24, F_sl25, F_sz77, F_ok77, F_ag77, zz32, JS, F_zero77, zz10, zz18, splice, QG, zz1, zzG, memC, gx, bx, hwx, JN, ge0, Int.toNat_natCast, QW, zz6, QO, ↓Qb]
    refine kK hK3 [2, 3, 4, 9, 10, 11, 12] ?_
    refine JA fun K3 hK3 => ?_
    refine pq fun K4 hK4 => ?_
    simp only [zzK, QR, QP, QQ, zz19, zz23, F_off77_1, zzH, QN, QS, F_ok3, F_ag3, F_sz3, zz8, zzD, zzC, QA, yyE, Qe, zz21, JM, zz28, zz6, QO, ↓Qb]
    refine kK hK4 [2, 3, 4, 9, 10, 11, 12, 44] ?_
    refine cnA ?_ ?_
    ·intro hb
     have hx : (x.state != 1) = true := hb
     clear hb
     have hl0 : rfLs l c (pre ++ [x]) = rfLs l c pre := by rw [rfLs_snoc]; simp only [rfL1, hx, Qd, QG]
     have hd0 : rfDs l c (pre ++ [x]) = rfDs l c pre := by rw [rfDs_snoc]; simp only [rfD1, hx, Qd, QG]
     refine awp_exit ?_
     simp only [zz6, QO, ↓Qb]
     refine kK hK2 [2, 3, 4, 9, 10, 11] ?_
     refine pz ?_
     simp only [zzK, QR, QP, QQ, JC, zz21, JM, zz26, JB, hwx, zz6, QO, ↓Qb]
     refine ⟨post2.length, _, by simp, leK id [] (hl := by simp only [leV, JD, QQ, Qd, Qc, hwx, hl0, hd0]; exact ⟨vA, vA, vA, vA, vA, vA, trivial⟩) (hr := by exact ⟨fun _ => ⟨_, rfl, rA⟩, (by simp), fun _ => ⟨_, rfl, rA⟩, (by simp), fun _ => ⟨_, rfl, Qw (by rw [hl0])⟩, (by simp), fun _ => ⟨_, rfl, Qw (by rw [hd0])⟩, (by simp), trivial⟩), (pre ++ [x]), post2, by simp [hsp], rfl, rfl⟩
    ·intro hb
     have hx : (x.state != 1) = false := hb
     clear hb
     have hl1 : rfLs l c (pre ++ [x]) = rfLs l c pre ++ moveL ⟨2, x.no, c⟩ ⟨3, x.no, c⟩ (pyN l c x) := by rw [rfLs_snoc]; simp only [rfL1, hx, Qc]; rfl
     have hmv : (moveL ⟨2, x.no, c⟩ ⟨3, x.no, c⟩ (pyN l c x)).length = 2 := rfl
     have hk : (if (0 : Int) > Ql .i64 (x.need - ofL ⟨3, x.no, c⟩ l) then 0 else Ql .i64 (x.need - ofL ⟨3, x.no, c⟩ l)) = lkN l c x := rfl
     have hch : (if (0 : Int) > ofL ⟨2, x.no, c⟩ l then 0 else ofL ⟨2, x.no, c⟩ l) = chN l c x := rfl
     have hpy := py_eq l c x
     refine JI ?_
     simp only [zz6, QO, ↓Qb]
     refine kK hK3 [2, 3, 4, 9, 10, 11, 12] ?_
     refine JA fun K3 hK3 => ?_
     refine awp_tree F_mixed [some 45, some 46, some 47, some 48, some 49, some 50, some 51, some 52, some 13, some 14, none, none] rfl (.one 0 (.one 1 (.one 2 (.one 3 (.one 4 (.one 6 (.one 8 (.one 9 (.two (.one 5 (.one 7 (.one 10 (.one 11 .nil)))) (.one 10 (.one 5 (.one 7 (.one 11 .nil))))))))))))) (by kernel_rfl) ?_
     simp only [zzK, QR, QP, QQ, zz19, zz23, F_off77_0, zzH, QN, QS, F_ok3, F_ag3, F_sz3, zz8, zzD, zzC, QA, yyE, Qe, JC, F_zero73, F_bld73, zz7, splice, Option.getD_some, QG, zz1, zzG, zz10, F_fld73_0, F_fld73_1, F_fld73_2, zz32, JS, zz18, F_ok73, F_sz73, acC, fAc, zz6, QO, ↓Qb, evT, List.getElem?_cons_zero, List.getElem?_cons_succ]
     refine kK hK3 [2, 3, 4, 9, 10, 11, 12, 13, 14] ?_
     refine JA fun K3 hK3 => ?_
     refine awp_draw F_mixed [some 53, some 54, some 55, some 56, some 57, some 58, some 59, some 15] rfl (by kernel_rfl) ?_
     simp only [zzK, QR, QP, QQ, zz19, zz23, F_off77_2, zzH, QN, QS, F_ok3, F_ag3, F_sz3, zz8, zzD, zzC, QA, yyE, Qe, F_ok24, F_ag24, F_sz24, F_ok73, F_ag73, F_sz73, JE, JF, zz21, JM, zz33, zz11, grsL, QB, oksL, JB, ledC, legs, acC, fAc, hk, QW, zz6, QO, ↓Qb]
     refine cgA F_go46 (fun hG => rOf_ nx l (fAc 3 x.no c) (by omega)) ?_
     simp only [zzK, QR, QP, QQ, zz19, zz23, F_off77_2, zzH, QN, QS, F_ok3, F_ag3, F_sz3, zz8, zzD, zzC, QA, yyE, Qe, F_ok24, F_ag24, F_sz24, F_ok73, F_ag73, F_sz73, JE, JF, zz21, JM, zz33, zz11, grsL, QB, oksL, JB, ledC, legs, acC, fAc, hk, QW, zz6, QO, ↓Qb, atsL, oksG, JV, QZ, Qa, JO, Qm, QT, QS, zz9, QB, QA, S_mem, yyF, QF, zz2]
     refine kK hK3 [2, 3, 4, 9, 10, 11, 12, 13, 14, 15] ?_
     refine pq fun K3 hK3 => ?_
     simp only [zzK, QR, QP, QQ, JC, F_ok24, F_ag24, F_sz24, zz8, zz23, zzD, QS, QN, zzH, zzC, QA, yyE, Qe, F_ok73, F_ag73, F_sz73, JE, JF, zz11, grsL, JM, QB, oksL, evC_min, pure_min, mn_int, JB, ledC, legs, acC, fAc, hch, hpy, QW, zz6, QO, ↓Qb]
     refine cgA F_go46 (fun hG => rOf_ nx l (fAc 2 x.no c) (by omega)) ?_
     simp only [zzK, QR, QP, QQ, JC, F_ok24, F_ag24, F_sz24, zz8, zz23, zzD, QS, QN, zzH, zzC, QA, yyE, Qe, F_ok73, F_ag73, F_sz73, JE, JF, zz11, grsL, JM, QB, oksL, evC_min, pure_min, mn_int, JB, ledC, legs, acC, fAc, hch, hpy, QW, zz6, QO, ↓Qb, atsL, oksG, JV, QZ, Qa, JO, Qm, QT, QS, zz9, QB, QA, S_mem, yyF, QF, zz2]
     refine kK hK3 [2, 3, 4, 9, 10, 11, 12, 13, 14, 15, 16] ?_
     refine pq fun K3 hK3 => ?_
     simp only [zzK, QR, QP, QQ, JC, F_ok73, F_ag73, F_sz73, zz8, zz23, zzD, QS, QN, zzH, zzC, QA, yyE, Qe, JE, JF, F_sl41, F_zero75, F_sz75, F_by75, zz4, maxLen_le, QT, JS, zz9, QB, JB, acC, fAc, legs, grow, unDs_map, JN, hmv, QW, zz6, QO, ↓Qb]
     refine cgA F_go47 (fun hG => rMoveF (fAc 2 x.no c) (fAc 3 x.no c) (pyN l c x)) ?_
     simp only [zzK, QR, QP, QQ, JC, F_ok73, F_ag73, F_sz73, zz8, zz23, zzD, QS, QN, zzH, zzC, QA, yyE, Qe, JE, JF, F_sl41, F_zero75, F_sz75, F_by75, zz4, maxLen_le, QT, JS, zz9, QB, JB, acC, fAc, legs, grow, unDs_map, JN, hmv, QW, zz6, QO, ↓Qb, atsL, oksG, JV, QZ, Qa, JO, Qm, QT, QS, unDs_cons, QB, QA, S_mem, yyF, QF, zz2]
     have hm : (rfLs l c pre).length + 1 + 1 ≤ 1000000 := by first | omega | (simp; omega)
     first | refine ⟨le_maxLen hm, by omega, ?_⟩ | refine ⟨by simp, le_maxLen hm, by omega, ?_⟩
     clear hm
     refine kK hK3 [2, 3, 4, 9, 10, 11, 12, 15, 16] ?_
     refine pq fun K3 hK3 => ?_
     simp only [zzK, QR, QP, QQ, JC, zz21, JM, zz25, zz6, QO, ↓Qb]
     refine kK hK3 [2, 3, 4, 9, 10, 11, 12, 15, 16, 74] ?_
     refine cnA ?_ ?_
     ·intro hb
      have hd1 : rfDs l c (pre ++ [x]) = rfDs l c pre ++ [⟨x.no, c, Ql .i64 (lkN l c x - pyN l c x)⟩] := by rw [rfDs_snoc]; simp only [rfD1, hx, show decide (lkN l c x > pyN l c x) = true from hb, Qd, Qc]
      clear hb
      refine pz ?_
      simp only [zzK, QR, QP, QQ, JC, zz19, zz23, F_off77_0, zzH, QN, QS, F_ok3, F_ag3, F_sz3, zz8, zzD, zzC, QA, yyE, Qe, zz21, JM, zz33, F_zero81, F_bld81, zz7, splice, Option.getD_some, QG, zz1, zzG, zz10, F_fld81_0, F_fld81_1, F_fld81_2, F_sl49, F_sz81, zz3, JS, maxLen_le, QT, JE, F_by81, zz4, zz9, QB, JB, fdueC, grow, unDs_map, QW, zz6, QO, ↓Qb]
      have hm : (rfDs l c pre).length + 1 ≤ 1000000 := by first | omega | (simp; omega)
      first | refine ⟨le_maxLen hm, by omega, ?_⟩ | refine ⟨by simp, le_maxLen hm, by omega, ?_⟩
      clear hm
      refine kK hK2 [2, 3, 4, 9, 10, 11] ?_
      refine pz ?_
      simp only [zzK, QR, QP, QQ, JC, zz21, JM, zz26, JB, hwx, zz6, QO, ↓Qb]
      refine ⟨post2.length, _, by simp, leK (fun r => bif r == 10 then 84 else bif r == 9 then 71 else r) [] (hl := by simp only [leV, JD, QQ, Qd, Qc, hwx]; exact ⟨vA, vA, vA, (Qr (by simp) (by rfl) (by rw [hl1]; first | (simp; done) | (simp; rfl))), (Qr (by simp) (by rfl) (by rw [hd1]; first | (simp; done) | (simp; rfl))), vA, trivial⟩) (hr := by exact ⟨fun _ => ⟨_, rfl, rA⟩, (by simp), fun _ => ⟨_, rfl, rA⟩, (by simp), fun _ => ⟨_, rfl, Qw (by rw [hl1]; simp [fdueC])⟩, (by simp), fun _ => ⟨_, rfl, Qw (by rw [hd1]; simp [fdueC])⟩, (by simp), trivial⟩), (pre ++ [x]), post2, by simp [hsp], rfl, rfl⟩
     ·intro hb
      have hd0 : rfDs l c (pre ++ [x]) = rfDs l c pre := by rw [rfDs_snoc]; simp only [rfD1, hx, show decide (lkN l c x > pyN l c x) = false from hb, Qc, QG]
      clear hb
      refine JI ?_
      simp only [zz6, QO, ↓Qb]
      refine kK hK2 [2, 3, 4, 9, 10, 11] ?_
      refine pz ?_
      simp only [zzK, QR, QP, QQ, JC, zz21, JM, zz26, JB, hwx, zz6, QO, ↓Qb]
      refine ⟨post2.length, _, by simp, leK (fun r => bif r == 9 then 71 else r) [] (hl := by simp only [leV, JD, QQ, Qd, Qc, hwx, hd0]; exact ⟨vA, vA, vA, (Qr (by simp) (by rfl) (by rw [hl1]; first | (simp; done) | (simp; rfl))), vA, vA, trivial⟩) (hr := by exact ⟨fun _ => ⟨_, rfl, rA⟩, (by simp), fun _ => ⟨_, rfl, rA⟩, (by simp), fun _ => ⟨_, rfl, Qw (by rw [hl1]; simp [fdueC])⟩, (by simp), fun _ => ⟨_, rfl, Qw (by rw [hd0])⟩, (by simp), trivial⟩), (pre ++ [x]), post2, by simp [hsp], rfl, rfl⟩
   ·intro hb
    obtain rfl : post = [] := by
     cases post with
     | nil => rfl
     | cons x t => have := of_decide_eq_false hb; simp at hspl; omega
    clear hb
    simp only [QG] at hsp
    subst hsp
    refine awp_exit ?_
    simp only [zz6, QO, ↓Qb]
    refine kK hK0 [9, 10] ?_
    refine pq fun K0 hK0 => ?_
    simp only [zzK, QR, QP, QQ, JC, JE, JF, zz14, zzD, QS, QN, zzF, JB, legs, grow, JN, zz6, QO, ↓Qb]
    refine cgA F_go48 (fun hG => rJoin_ (rfLs l c r.mems) (by omega)) ?_
    simp only [zzK, QR, QP, QQ, JC, JE, JF, zz14, zzD, QS, QN, zzF, JB, legs, grow, JN, zz6, QO, ↓Qb, atsL, oksG, JV, QZ, Qa, JO, Qm, QT, QS, zz9, QB, QA, zzC, yyF, QF, zz2]
    refine kK hK0 [10, 17, 18] ?_
    refine pq fun K0 hK0 => ?_
    simp only [zzK, QR, QP, QQ, JC, JB, zz6, QO, ↓Qb]
    refine kK hK0 [6, 7, 8] ?_
    refine awp_le (leK id [] (l' := [(6, .ref 88000 (joinV (rfLs l c r.mems)).length), (7, .ref 10 (rfDs l c r.mems).length), (8, .d (iv (joinR (rfLs l c r.mems))))]) (m' := [(88000, (⟨True, 75, 4, true, true, 88000, ((joinV (rfLs l c r.mems)).map legC).map (·.map .d)⟩ : ARow)), (10, (⟨True, 81, 3, true, true, 10, ((rfDs l c r.mems).map fdueC).map (·.map .d)⟩ : ARow))]) (hr := by exact ⟨fun _ => (by refine ⟨_, rfl, ?_⟩; first | exact RowLe.uq_ (by rfl) (by simp) ids_data | exact RowLe.uq2 (by first | rfl | simp) (by simp) ids_data | exact RowLe.same rfl ids_data), (by simp), fun _ => (by refine ⟨_, rfl, ?_⟩; first | exact RowLe.uq_ (by rfl) (by simp) ids_data | exact RowLe.uq2 (by first | rfl | simp) (by simp) ids_data | exact RowLe.same rfl ids_data), (by simp), trivial⟩) (hwr := by simp [wfR, QX, QY, lookR, legC, fdueC])) ?_
    refine awp_ret ?_
    simp only [zz6, QO, ↓Qb]
    rw [f0, f1, f2, fj]
    refine doneN [88000, 10] (by simp [resCs, resC, S, List.getD, JD, lookR, legC, fdueC]) ?_ (by simp [flatA, flatAs, Jc, ]) (by simp [QY, QX, ]) (by decide) ?_
    ·simp only [QD, QE, resA, JZ, S_mem, lookR_cons, lookR_nil, QR, QP, JD, QQ, Qd, Qc, resAll, QI, QJ, QH, QL, QK, List.take_zero, legC, fdueC]; rfl
    ·exact ⟨⟨_, rfl, trivial, rfl, rfl, rfl, rfl⟩, by simp [flatDs, Jc, legC], ⟨_, rfl, trivial, rfl, rfl, rfl, rfl⟩, by simp [flatDs, Jc, fdueC], trivial⟩
theorem rRefillF (nx : Int) (l : List LegV) (r : RollV) (c : Int) (hl : l.length ≤ 400000) (h : r.Small) (hm : r.mems.length ≤ 400000) : ACalls Tryz.prog 19 [.agg (ledC ⟨nx, l⟩), .agg (rollC r), iv c] [] (.tp [.d (legs (rfV ⟨nx, l⟩ r c)), .d (fds (rfU ⟨nx, l⟩ r c)), .d (iv (rfE ⟨nx, l⟩ r c))]) :=
 (rRefill_ nx l r c hl h hm).freezeT (by simp [frzOk, frzOkL])
end Go.Proofs.YtjkfadaedgidpaaGreat
