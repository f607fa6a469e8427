import Derived.Test.YtopifbpibkpmmaaWpE
import Derived.Test.YtopifbpibkpmmaaWpF
namespace Go.Proofs.Ytopifbpibkpmmaa
open Go.RowKit
set_option linter.unusedVariables false
set_option linter.unusedSimpArgs false
theorem F_go27 : goFn Try.prog 27 := ⟨_, Try.func27, rfl, rfl⟩
theorem F_go28 : goFn Try.prog 28 := ⟨_, Try.func28, rfl, rfl⟩
theorem F_zero31 : zeroT Try.prog 31 = some [(.int .i64 0), (.int .i64 0), (.int .i64 0), (.int .i64 0), (.int .i64 0)] := by kernel_rfl
theorem F_off31_2 : offT Try.prog 31 2 = some 3 := by kernel_rfl
theorem F_go11 : goFn Try.prog 11 := ⟨_, Try.func11, rfl, rfl⟩
theorem F_zero33 : zeroT Try.prog 33 = some [(.int .i64 0), (.int .i64 0), (.int .i64 0)] := by kernel_rfl
theorem F_bld33 : bldT Try.prog 33 = true := by kernel_rfl
theorem F_fld33_0 : fldT Try.prog 33 0 = some (0, 1) := by kernel_rfl
theorem F_fld33_1 : fldT Try.prog 33 1 = some (1, 1) := by kernel_rfl
theorem F_fld33_2 : fldT Try.prog 33 2 = some (2, 1) := by kernel_rfl
theorem F_sl23 : sliceT Try.prog 23 = some 33 := by kernel_rfl
theorem F_sz33 : szT Try.prog 33 = 3 := by kernel_rfl
theorem F_by33 : byT Try.prog 33 = 24 := by kernel_rfl
theorem F_bld31 : bldT Try.prog 31 = true := by kernel_rfl
theorem F_fld31_1 : fldT Try.prog 31 1 = some (2, 1) := by kernel_rfl
theorem F_fld31_2 : fldT Try.prog 31 2 = some (3, 1) := by kernel_rfl
theorem F_fld31_3 : fldT Try.prog 31 3 = some (4, 1) := by kernel_rfl
theorem F_go9 : goFn Try.prog 9 := ⟨_, Try.func9, rfl, rfl⟩
theorem F_off33_0 : offT Try.prog 33 0 = some 0 := by kernel_rfl
theorem F_off33_1 : offT Try.prog 33 1 = some 1 := by kernel_rfl
end Go.Proofs.Ytopifbpibkpmmaa
namespace Go.Proofs
open Go.Shelf
def Try.layC27_ren : Go.Shelf.Ren := ⟨fun | 41 => 27 | n => n, fun | 22 => 22 | 23 => 31 | 4 => 4 | n => n, fun | n => n⟩
theorem Try.layC27 : Go.Proofs.SlLaysE0.n41 Try.prog Try.layC27_ren := {
  mixed := by kernel_rfl
  f41 := ⟨Try.f27.name, by decide, Try.func27.trans (congrArg some (by kernel_rfl))⟩
  t4 := Try.underlying4
  a4 := Try.isAgg4
  z4 := Try.sizeOf4
  v4 := Try.zeroValue4
  t22 := Try.underlying22
  a22 := Try.isAgg22
  z22 := Try.sizeOf22
  v22 := Try.zeroValue22 }
end Go.Proofs
namespace Go.Proofs.Ytopifbpibkpmmaa
open Go.RowKit
set_option linter.unusedVariables false
set_option linter.unusedSimpArgs false
theorem cloneBid (els : List (List D)) (hfl : ∀ l, l ∈ els → flatDs l) (hn : els.length ≤ 1000000) : ACalls Try.prog 27 [.sl 5 els] [⟨31, 5, els⟩] (.ref 0 els.length) :=
  acalls_cloneT Try.layC27 rfl rfl 5 40 [.int .i64 0, .int .i64 0, .int .i64 0, .int .i64 0, .int .i64 0] (by kernel_rfl) (by kernel_rfl) (by kernel_rfl) rfl (by decide) (by decide) els hfl hn

theorem bidSC (long : Bool) : SC Try.prog 29 [.pt [.v (.bool long)]] (bidCmp long) isBid 5 where
  go := ⟨_, Try.func29, rfl, rfl⟩
  call x y hx hy := by
    obtain ⟨a, rfl⟩ := hx
    obtain ⟨b, rfl⟩ := hy
    exact ord_ long a b
  len x hx := by obtain ⟨b, rfl⟩ := hx; rfl
  flat x hx := by obtain ⟨b, rfl⟩ := hx; simp [bidC, flatDs, flatD]
  cell x hx := by obtain ⟨b, rfl⟩ := hx; simp [bidC, cell1s, AV.cell1, Value.oneCell']
  swo := bidCmp_swo long

theorem Order_ (long : Bool) (l : List BidV) (hl : l.length ≤ 1000000) : ACalls Try.prog 11 [.v (.bool long), bids l] [⟨31, 5, (bidOrder long l).map bidC⟩] (.ref 0 l.length) := by
  refine acalls_S (rs := [.tmp 4]) Try.func11 rfl rfl 12 [(0, bv long), (1, .d (bids l))] rfl (by simp) rfl ?_
  refine awp_seq fun K0 hK0 => ?_
  refine awp_plain F_mixed [some 2, some 4] rfl ?_
  simp only [List.nil_append, List.cons_append, true_and, and_true, zz0, true_implies, Nat.reduceLT, Nat.reduceLeDiff, zzI, look_nil, Nat.reduceBEq, implies_true, zz35, newRow1, zz1, zzG, zzD, zz16, Option.some.injEq, exists_eq_left', exists_eq_left, Option.map_some, eq_self, reduceCtorEq, and_self, Nat.reduceAdd, Nat.zero_add, zzF, zzB, zzE, evS_assign, zz6, Nat.reduceEqDiff, ↓reduceIte]
  refine hK0 _ ?_; try clear hK0 K0
  refine awp_keepL [1, 2] ?_
  simp only [zz20, zzI, look_nil, Nat.reduceBEq]
  refine awp_seq fun K0 hK0 => ?_
  refine awp_plain F_mixed [some 6, some 7, some 5] rfl ?_
  simp only [List.nil_append, List.cons_append, true_and, and_true, zz0, true_implies, Nat.reduceLT, Nat.reduceLeDiff, zzI, look_nil, Nat.reduceBEq, implies_true, evS_move, evS_call, evC_value, evS_assign, bids, zz6, Nat.reduceEqDiff, ↓reduceIte]
  refine call_go F_go27 (fun hG => cloneBid (l.map bidC) (by simp [flatDs, flatD, bidC]) (by simpa using hl)) (by simp [AV.ids, AV.idsL]) (by simp) ?_
  simp only [List.nil_append, List.cons_append, true_and, and_true, zz0, true_implies, Nat.reduceLT, Nat.reduceLeDiff, zzI, look_nil, Nat.reduceBEq, implies_true, evS_move, evS_call, evC_value, evS_assign, bids, zz6, Nat.reduceEqDiff, ↓reduceIte, atsL, oksG, freeN, AV.ren, AV.renL, addRows, ORow.row, Nat.reduceMul, Nat.reduceAdd, zz9, Option.bind_some, Option.map_some, forall_eq', D.sl.injEq, zz16, Option.some.injEq, exists_eq_left', exists_eq_left, exists_eq', exists_eq, zzD, zz2]
  refine hK0 _ ?_; try clear hK0 K0
  refine awp_keepL [2, 5] ?_
  simp only [zz20, zzI, look_nil, Nat.reduceBEq]
  refine awp_seq fun K0 hK0 => ?_
  refine awp_mut [some 8, some 9, some 10] rfl 2 rfl ?_
  simp only [List.nil_append, List.cons_append, true_and, and_true, zz0, true_implies, Nat.reduceLT, Nat.reduceLeDiff, zzI, look_nil, Nat.reduceBEq, implies_true, evS_move, evS_makeFunc, mkK_func, oksL, cell1s_cons, cell1s_nil, cell1_ptr, bare_cl, ok_cl, zzG, evS_call, evC_value, len_map, zzB, zz6, Nat.reduceEqDiff, ↓reduceIte]
  refine mut_go [8000] F_go28 (sBid_sort (bidSC long) (l.map bidC) (okM_bids l) (by simpa using hl)) (by simp [AV.ids, AV.idsL]) (by decide) (by first | exact ⟨by decide, by simp⟩ | rfl) ?_
  simp only [List.nil_append, List.cons_append, true_and, and_true, zz0, true_implies, Nat.reduceLT, Nat.reduceLeDiff, zzI, look_nil, Nat.reduceBEq, implies_true, evS_move, evS_makeFunc, mkK_func, oksL, cell1s_cons, cell1s_nil, cell1_ptr, bare_cl, ok_cl, zzG, evS_call, evC_value, len_map, zzB, zz6, Nat.reduceEqDiff, ↓reduceIte, mArgs_nil, asE_cl, asF_cl, asD_ptr, asG_ptr, asD_ep, asG_ep, List.mem_singleton, forall_eq, asEc_cons, asEc_nil, mArgs_d, mArgs_m, mRows_nil, mRows_cons, mNewL, nxM, mBase, mName, List.getElem?_cons_zero, List.getElem?_cons_succ, zzF, asE_ag, asE_d, asE_ref, asEc_cons, asEc_nil, asF_d, asF_ref, asF_ag, asGs, AV.ids, AV.idsL, List.length_singleton, List.not_mem_nil, false_implies, forall_const, atsL, asD_self, asD_nil, asD_sl, asD_agg, asD_int, asD_bool, asD_func, asD_ag, asD_ref, asG_d, asG_ag, asG_ref, freeN, AV.ren, AV.renL, addRows, ORow.row, Nat.reduceMul, Nat.reduceAdd, zz9, Option.bind_some, Option.map_some, forall_eq', D.sl.injEq, zz16, Option.some.injEq, exists_eq_left', exists_eq_left, exists_eq', exists_eq, zzD, S_func, Sk_func]
  refine ⟨⟨⟨_, rfl, rfl⟩, fun h => h⟩, fun x hx => (bidSC long).flat x (okM_isort (lt := ltc (bidCmp long)) (okM_bids l) x hx), ?_⟩
  refine hK0 _ ?_; try clear hK0 K0
  refine awp_keepL [5] ?_
  simp only [zz20, zzI, look_nil, Nat.reduceBEq]
  refine awp_seq fun K0 hK0 => ?_
  refine awp_plain F_mixed [some 11, some 4] rfl ?_
  simp only [List.nil_append, List.cons_append, true_and, and_true, zz0, true_implies, Nat.reduceLT, Nat.reduceLeDiff, zzI, look_nil, Nat.reduceBEq, implies_true, evS_move, evS_assign, zz6, Nat.reduceEqDiff, ↓reduceIte]
  refine hK0 _ ?_; try clear hK0 K0
  refine awp_keepL [4] ?_
  simp only [zz20, zzI, look_nil, Nat.reduceBEq]
  refine awp_ret ?_
  simp only [zz6, Nat.reduceEqDiff, ↓reduceIte]
  rw [sort_bids]
  refine done1 8000 (by simp only [resCs, resC]; trivial) ?_ (by simp [flatA, flatAs, flatD, bidC]) (by simp [AV.ids, AV.idsL, bidC]) (by rfl) trivial rfl rfl ?_ (by simp [flatDs, flatD, bidC])
  · simp only [List.map_cons, List.map_nil, resA, S_getD, Nat.reduceLT, Nat.reduceLeDiff, look_cons, Nat.reduceBEq, cond_true, cond_false, resAll]; rfl
  · rfl
theorem OrderF (long : Bool) (l : List BidV) (hl : l.length ≤ 1000000) : ACalls Try.prog 11 [.v (.bool long), bids l] [] (.d (bids (bidOrder long l))) :=
  (Order_ long l hl).freeze (by simp [frzOk, bidOrder_len])
set_option maxRecDepth 100000 in
set_option maxHeartbeats 4000000 in
theorem Fill_ (q : Int) (l : List BidV) (hl : l.length ≤ 1000000) : ACalls Try.prog 9 [iv q, bids l] [⟨33, 3, (filV q l).map fillC⟩] (.tp [.ref 0 (filV q l).length, .d (iv (filR q l)), .d (iv (filE q l))]) := by
  refine acalls_S (rs := [.tmp 4, .tmp 5, .tmp 6]) Try.func9 rfl rfl 77 [(0, .d (iv q)), (1, .d (bids l))] rfl (by simp) rfl ?_
  refine awp_seq fun K0 hK0 => ?_
  refine awp_plain F_mixed [some 4, some 5, some 6] rfl ?_
  simp only [List.nil_append, List.cons_append, true_and, and_true, zz0, true_implies, Nat.reduceLT, Nat.reduceLeDiff, zzI, look_nil, Nat.reduceBEq, implies_true, evS_assign, zz6, Nat.reduceEqDiff, ↓reduceIte]
  refine hK0 _ ?_; try clear hK0 K0
  refine awp_keepL [0, 1, 4] ?_
  simp only [zz20, zzI, look_nil, Nat.reduceBEq]
  refine awp_seq fun K0 hK0 => ?_
  refine awp_seq fun K1 hK1 => ?_
  refine awp_plain F_mixed [some 12, some 13, some 14, some 15, some 16, some 17] rfl ?_
  simp only [List.nil_append, List.cons_append, true_and, and_true, zz0, true_implies, Nat.reduceLT, Nat.reduceLeDiff, zzI, look_nil, Nat.reduceBEq, implies_true, Nat.reduceSub, S_getD, zz5, and_imp, imp_and, imp_self, and_self, evS_move, zz21, gr_v, zz22, zz25, zz13, zz6, Nat.reduceEqDiff, ↓reduceIte]
  refine hK1 _ ?_; try clear hK1 K1
  refine awp_keepL [0, 1, 4, 17] ?_
  simp only [zz20, zzI, look_nil, Nat.reduceBEq]
  refine awp_condS _ (by decide) (by simp only [look_cons, Nat.reduceBEq, cond_true, cond_false]; rfl) ?_ ?_
  · intro hb
    have hq0 : inR q (-1099511627776) 1099511627776 = false := by
      cases h : inR q (-1099511627776) 1099511627776 with
      | false => rfl
      | true =>
        simp only [inR, Bool.and_eq_true, decide_eq_true_eq] at h
        simp [show ¬ q < -1099511627776 by omega, show ¬ q > 1099511627776 by omega] at hb
        try omega
    clear hb
    have hbad : fillBad q l = true := by simp only [fillBad, hq0]; rfl
    refine awp_seq fun K2 hK2 => ?_
    refine awp_plain F_mixed [some 4, some 5, some 6] rfl ?_
    simp only [List.nil_append, List.cons_append, true_and, and_true, zz0, true_implies, Nat.reduceLT, Nat.reduceLeDiff, zzI, look_nil, Nat.reduceBEq, implies_true, evS_assign, zz6, Nat.reduceEqDiff, ↓reduceIte]
    refine hK2 _ ?_; try clear hK2 K2
    refine awp_keepL [4, 5, 6] ?_
    simp only [zz20, zzI, look_nil, Nat.reduceBEq]
    refine awp_le (le_SK id [0] rfl (l' := [(4, .ref 0 0), (5, .d (iv 0)), (6, .d (iv 3))]) (m' := [(0, (⟨True, 33, 3, true, true, 0, []⟩ : ARow))]) ?_ ?_ ?_ ?_) ?_
    · simp only [leV, look_cons, Nat.reduceBEq, cond_true, cond_false]; exact ⟨VLe.nil_ (by decide), VLe.still rfl, VLe.still rfl, trivial⟩
    · exact ⟨fun h => by simp at h, fun _ => rfl, trivial⟩
    · simp [wfV, AV.ids, lookR]
    · simp [wfR]
    refine awp_ret ?_
    simp only [zz6, Nat.reduceEqDiff, ↓reduceIte]
    have e1 : filV q l = [] := by simp only [filV, hbad, cond_true]
    have e2 : filR q l = 0 := by simp only [filR, hbad, cond_true]
    have e3 : filE q l = 3 := by simp only [filE, hbad, cond_true]
    rw [e1, e2, e3]
    refine done1 0 (by simp only [resCs, resC]; trivial) ?_ (by simp [flatA, flatAs, flatD]) (by simp [AV.ids, AV.idsL]) (by rfl) trivial rfl rfl ?_ (by simp [flatDs, flatD])
    · simp only [List.map_cons, List.map_nil, resA, S_getD, Nat.reduceLT, Nat.reduceLeDiff, look_cons, Nat.reduceBEq, cond_true, cond_false, resAll]; rfl
    · rfl
  · intro hb
    have hq0 : inR q (-1099511627776) 1099511627776 = true := by
      simp only [inR, Bool.and_eq_true, decide_eq_true_eq]
      by_cases h1 : q < -1099511627776
      · simp [h1] at hb
      · by_cases h2 : q > 1099511627776
        · simp [h1, h2] at hb
        · omega
    clear hb
    refine awp_skip ?_
    simp only [zz6, Nat.reduceEqDiff, ↓reduceIte]
    refine hK0 _ ?_; try clear hK0 K0
    refine awp_keepL [0, 1, 4] ?_
    simp only [zz20, zzI, look_nil, Nat.reduceBEq]
    refine awp_seq fun K0 hK0 => ?_
    refine awp_seq fun K1 hK1 => ?_
    refine awp_plain F_mixed [some 18, some 19, some 20] rfl ?_
    simp only [List.nil_append, List.cons_append, true_and, and_true, zz0, true_implies, Nat.reduceLT, Nat.reduceLeDiff, zzI, look_nil, Nat.reduceBEq, implies_true, evS_move, evS_call, zz12, F_sl22, Option.isSome_some, bids, len_map, zz6, Nat.reduceEqDiff, ↓reduceIte]
    refine hK1 _ ?_; try clear hK1 K1
    refine awp_keepL [0, 1, 4, 18, 19, 20] ?_
    simp only [zz20, zzI, look_nil, Nat.reduceBEq]
    refine awp_block ?_
    refine awp_loop (fun m s => ∃ pre post : List BidV, l = pre ++ post ∧ pre.all bidOk = true ∧ m = post.length ∧ s = S 77 [(0, .d (iv q)), (1, .d (bids l)), (4, .d (.v (.slice none 0 0))), (18, .d (bids l)), (19, .d (iv l.length)), (20, .d (iv pre.length))] []) l.length _ (le_SK id [] rfl (l' := [(0, .d (iv q)), (1, .d (bids l)), (4, .d (.v (.slice none 0 0))), (18, .d (bids l)), (19, .d (iv l.length)), (20, .d (iv ([] : List BidV).length))]) (m' := []) ?_ ?_ ?_ ?_) ⟨[], l, rfl, rfl, rfl, rfl⟩ ?_
    · simp only [leV, look_cons, Nat.reduceBEq, cond_true, cond_false, bids, len_map]; exact ⟨VLe.refl _, VLe.refl _, VLe.refl _, VLe.refl _, VLe.refl _, VLe.refl _, trivial⟩
    · exact trivial
    · simp [wfV, AV.ids, AV.idsL, lookR]
    · simp [wfR, AV.idsL, AV.ids]
    rintro m s ⟨pre, post, rfl, hp, rfl, rfl⟩
    refine awp_seq fun K2 hK2 => ?_
    refine awp_plain F_mixed [some 21] rfl ?_
    simp only [List.nil_append, List.cons_append, true_and, and_true, zz0, true_implies, Nat.reduceLT, Nat.reduceLeDiff, zzI, look_nil, Nat.reduceBEq, implies_true, zz21, gr_v, zz22, zz6, Nat.reduceEqDiff, ↓reduceIte]
    refine hK2 _ ?_; try clear hK2 K2
    refine awp_keepL [0, 1, 4, 18, 19, 20, 21] ?_
    simp only [zz20, zzI, look_nil, Nat.reduceBEq]
    refine awp_seq fun K2 hK2 => ?_
    refine awp_condS _ (by decide) (by simp only [look_cons, Nat.reduceBEq, cond_true, cond_false]; rfl) ?_ ?_
    · intro hb
      obtain ⟨x, post, rfl⟩ := more_of hb; clear hb
      refine awp_skip ?_
      simp only [zz6, Nat.reduceEqDiff, ↓reduceIte]
      refine hK2 _ ?_; try clear hK2 K2
      refine awp_keepL [0, 1, 4, 18, 19, 20] ?_
      simp only [zz20, zzI, look_nil, Nat.reduceBEq]
      refine awp_seq fun K2 hK2 => ?_
      refine awp_block ?_
      refine awp_seq fun K3 hK3 => ?_
      refine awp_plain F_mixed [some 22, some 23, some 8, none] rfl ?_
      simp only [List.nil_append, List.cons_append, true_and, and_true, zz0, true_implies, Nat.reduceLT, Nat.reduceLeDiff, zzI, look_nil, Nat.reduceBEq, implies_true, evS_indexAddr, zz23, zz24, F_sl22, F_sz31, Option.map_some, zz16, Option.some.injEq, exists_eq_left', exists_eq_left, eq_self, reduceCtorEq, and_self, F_ok31, F_ag31, zz8, zzD, Nat.reduceAdd, Nat.zero_add, zzF, zzB, zzE, zz32, newRow1, F_zero31, zz10, zz18, splice, List.append_nil, zz1, zzG, bids, bidC, getD_mid, len_map, lt_mid, ge_mid, D.agg.injEq, zz6, Nat.reduceEqDiff, ↓reduceIte]
      refine hK3 _ ?_; try clear hK3 K3
      refine awp_keepL [0, 1, 4, 8, 18, 19, 20] ?_
      simp only [zz20, zzI, look_nil, Nat.reduceBEq]
      refine awp_seq fun K3 hK3 => ?_
      refine awp_plain F_mixed [some 24, some 25, some 26, some 27, some 28, some 29, some 30, some 31, some 32, some 33, some 34, some 35, some 36, some 37, some 38, some 39, some 40, some 41] rfl ?_
      simp only [List.nil_append, List.cons_append, true_and, and_true, zz0, true_implies, Nat.reduceLT, Nat.reduceLeDiff, zzI, look_nil, Nat.reduceBEq, implies_true, Nat.reduceSub, S_getD, zz5, and_imp, imp_and, imp_self, and_self, zz19, zz23, F_off31_2, zzB, Nat.zero_add, Nat.reduceAdd, F_ok3, F_ag3, F_sz3, zz8, zzD, zzF, zzE, zz16, Option.some.injEq, exists_eq_left', exists_eq_left, Option.map_some, eq_self, reduceCtorEq, zz21, gr_v, zz22, evS_move, zz25, zz13, F_off31_3, zz6, Nat.reduceEqDiff, ↓reduceIte]
      refine hK3 _ ?_; try clear hK3 K3
      refine awp_keepL [0, 1, 4, 18, 19, 20, 41] ?_
      simp only [zz20, zzI, look_nil, Nat.reduceBEq]
      refine awp_condS _ (by decide) (by simp only [look_cons, Nat.reduceBEq, cond_true, cond_false]; rfl) ?_ ?_
      · intro hb
        have hq : bidOk x = false := by
          cases h : bidOk x with
          | false => rfl
          | true =>
            simp only [bidOk, inR, Bool.and_eq_true, decide_eq_true_eq] at h
            simp [show ¬ x.qty < 1 by omega, show ¬ x.qty > 1048576 by omega, show ¬ x.price < 1 by omega, show ¬ x.price > 1073741824 by omega] at hb
            try omega
        clear hb
        have hbad : fillBad q (pre ++ x :: post) = true := by simp [fillBad, hq]
        refine awp_seq fun K4 hK4 => ?_
        refine awp_plain F_mixed [some 4, some 5, some 6] rfl ?_
        simp only [List.nil_append, List.cons_append, true_and, and_true, zz0, true_implies, Nat.reduceLT, Nat.reduceLeDiff, zzI, look_nil, Nat.reduceBEq, implies_true, evS_assign, zz6, Nat.reduceEqDiff, ↓reduceIte]
        refine hK4 _ ?_; try clear hK4 K4
        refine awp_keepL [4, 5, 6] ?_
        simp only [zz20, zzI, look_nil, Nat.reduceBEq]
        refine awp_le (le_SK id [0] rfl (l' := [(4, .ref 0 0), (5, .d (iv 0)), (6, .d (iv 3))]) (m' := [(0, (⟨True, 33, 3, true, true, 0, []⟩ : ARow))]) ?_ ?_ ?_ ?_) ?_
        · simp only [leV, look_cons, Nat.reduceBEq, cond_true, cond_false]; exact ⟨VLe.nil_ (by decide), VLe.still rfl, VLe.still rfl, trivial⟩
        · exact ⟨fun h => by simp at h, fun _ => rfl, trivial⟩
        · simp [wfV, AV.ids, lookR]
        · simp [wfR]
        refine awp_ret ?_
        simp only [zz6, Nat.reduceEqDiff, ↓reduceIte]
        have e1 : filV q (pre ++ x :: post) = [] := by simp only [filV, hbad, cond_true]
        have e2 : filR q (pre ++ x :: post) = 0 := by simp only [filR, hbad, cond_true]
        have e3 : filE q (pre ++ x :: post) = 3 := by simp only [filE, hbad, cond_true]
        rw [e1, e2, e3]
        refine done1 0 (by simp only [resCs, resC]; trivial) ?_ (by simp [flatA, flatAs, flatD]) (by simp [AV.ids, AV.idsL]) (by rfl) trivial rfl rfl ?_ (by simp [flatDs, flatD])
        · simp only [List.map_cons, List.map_nil, resA, S_getD, Nat.reduceLT, Nat.reduceLeDiff, look_cons, Nat.reduceBEq, cond_true, cond_false, resAll]; rfl
        · rfl
      · intro hb
        have hq : bidOk x = true := by
          simp only [bidOk, inR, Bool.and_eq_true, decide_eq_true_eq]
          by_cases h1 : x.qty < 1
          · simp [h1] at hb
          · by_cases h2 : x.qty > 1048576
            · simp [h1, h2] at hb
            · by_cases h3 : x.price < 1
              · simp [h1, h2, h3] at hb
              · by_cases h4 : x.price > 1073741824
                · simp [h1, h2, h3, h4] at hb
                · omega
        clear hb
        refine awp_skip ?_
        simp only [zz6, Nat.reduceEqDiff, ↓reduceIte]
        refine hK2 _ ?_; try clear hK2 K2
        refine awp_keepL [0, 1, 4, 18, 19, 20] ?_
        simp only [zz20, zzI, look_nil, Nat.reduceBEq]
        refine awp_plain F_mixed [some 42, some 20] rfl ?_
        simp only [List.nil_append, List.cons_append, true_and, and_true, zz0, true_implies, Nat.reduceLT, Nat.reduceLeDiff, zzI, look_nil, Nat.reduceBEq, implies_true, zz21, gr_v, zz26, evS_move, zz6, Nat.reduceEqDiff, ↓reduceIte]
        refine ⟨post.length, _, by simp, le_SK id [] rfl (l' := [(0, .d (iv q)), (1, .d (bids (pre ++ x :: post))), (4, .d (.v (.slice none 0 0))), (18, .d (bids (pre ++ x :: post))), (19, .d (iv (pre ++ x :: post).length)), (20, .d (iv (pre ++ [x]).length))]) (m' := []) ?_ ?_ ?_ ?_, pre ++ [x], post, by simp, by simp [hp, hq], rfl, rfl⟩
        · simp only [leV, look_cons, Nat.reduceBEq, cond_true, cond_false, bids, len_map, wrap_len pre x (by simp at hl; omega)]; exact ⟨VLe.refl _, VLe.refl _, VLe.refl _, VLe.refl _, VLe.refl _, VLe.refl _, trivial⟩
        · exact trivial
        · simp [wfV, AV.ids, AV.idsL, lookR]
        · simp [wfR, AV.idsL, AV.ids]
    · intro hb
      obtain rfl := none_of hb; clear hb
      simp only [List.append_nil] at hl ⊢
      have hrg := hq0
      simp only [inR, Bool.and_eq_true, decide_eq_true_eq] at hrg
      have hwq : IntKind.wrap .i64 (0 - q) = 0 - q := wrapI (by omega) (by omega)
      have hab : (if 0 - q > q then 0 - q else q) = absQ q := rfl
      have haq : 0 ≤ absQ q ∧ absQ q ≤ 1099511627776 := by simp only [absQ]; split <;> omega
      have hgood : fillBad q pre = false := by simp only [fillBad, hq0, hp]; rfl
      have e1 : filV q (pre ++ []) = fillsF (absQ q) (bidOrder (decide (q > 0)) pre) := by simp only [List.append_nil, filV, hgood, cond_false]
      have e2 : filR q (pre ++ []) = restF (absQ q) (bidOrder (decide (q > 0)) pre) := by simp only [List.append_nil, filR, hgood, cond_false]
      have e3 : filE q (pre ++ []) = 0 := by simp only [List.append_nil, filE, hgood, cond_false]
      have hOk := bidOrder_all (long := decide (q > 0)) hp
      have hOl := bidOrder_len (decide (q > 0)) pre
      refine awp_exit ?_
      simp only [zz6, Nat.reduceEqDiff, ↓reduceIte]
      refine hK0 _ ?_; try clear hK0 K0
      refine awp_keepL [0, 1, 4] ?_
      simp only [zz20, zzI, look_nil, Nat.reduceBEq]
      refine awp_seq fun K0 hK0 => ?_
      refine awp_plain F_mixed [some 43, some 44, some 45, some 46, some 5] rfl ?_
      simp only [List.nil_append, List.cons_append, true_and, and_true, zz0, true_implies, Nat.reduceLT, Nat.reduceLeDiff, zzI, look_nil, Nat.reduceBEq, implies_true, evS_move, zz29, gr_v, zz37, evS_call, zz11, grsL, Option.bind_some, Option.map_some, oksL, evS_assign, hwq, hab, zz6, Nat.reduceEqDiff, ↓reduceIte]
      refine hK0 _ ?_; try clear hK0 K0
      refine awp_keepL [0, 1, 4, 5] ?_
      simp only [zz20, zzI, look_nil, Nat.reduceBEq]
      refine awp_seq fun K0 hK0 => ?_
      refine awp_seq fun K1 hK1 => ?_
      refine awp_plain F_mixed [some 47, some 48, some 49, some 50, some 51, some 52] rfl ?_
      simp only [List.nil_append, List.cons_append, true_and, and_true, zz0, true_implies, Nat.reduceLT, Nat.reduceLeDiff, zzI, look_nil, Nat.reduceBEq, implies_true, evS_move, zz21, gr_v, zz25, evS_call, evC_value, zz12, F_sl22, Option.isSome_some, bids, len_map, zz6, Nat.reduceEqDiff, ↓reduceIte]
      refine call_go F_go11 (fun hG => OrderF (decide (q > 0)) pre (by omega)) (by simp [AV.ids, AV.idsL]) (by simp) ?_
      simp only [List.nil_append, List.cons_append, true_and, and_true, zz0, true_implies, Nat.reduceLT, Nat.reduceLeDiff, zzI, look_nil, Nat.reduceBEq, implies_true, evS_move, zz21, gr_v, zz25, evS_call, evC_value, zz12, F_sl22, Option.isSome_some, bids, len_map, zz6, Nat.reduceEqDiff, ↓reduceIte, atsL, oksG, freeN, AV.ren, AV.renL, addRows, ORow.row, Nat.reduceMul, Nat.reduceAdd, zz9, Option.bind_some, Option.map_some, forall_eq', D.sl.injEq, zz16, Option.some.injEq, exists_eq_left', exists_eq_left, exists_eq', exists_eq, zzD, zz2]
      generalize bidOrder (decide (q > 0)) pre = O at hOk hOl e1 e2 ⊢
      have hO6 : O.length ≤ 1000000 := by omega
      refine hK1 _ ?_; try clear hK1 K1
      refine awp_keepL [4, 5, 50, 51, 52] ?_
      simp only [zz20, zzI, look_nil, Nat.reduceBEq]
      refine awp_block ?_
      refine awp_loop (fun m s => ∃ pre post : List BidV, O = pre ++ post ∧ m = post.length ∧ s = S 77 [(4, .ref 4 (fillsF (absQ q) pre).length), (5, .d (iv (restF (absQ q) pre))), (50, .d (bids O)), (51, .d (iv O.length)), (52, .d (iv pre.length))] [(4, grow 33 3 4 ((fillsF (absQ q) pre).map fillC))]) O.length _ (le_SK id [4] rfl (l' := [(4, .ref 4 (fillsF (absQ q) ([] : List BidV)).length), (5, .d (iv (restF (absQ q) ([] : List BidV)))), (50, .d (bids O)), (51, .d (iv O.length)), (52, .d (iv ([] : List BidV).length))]) (m' := [(4, grow 33 3 4 ((fillsF (absQ q) ([] : List BidV)).map fillC))]) ?_ ?_ ?_ ?_) ⟨[], O, rfl, rfl, rfl⟩ ?_
      · simp only [leV, look_cons, Nat.reduceBEq, cond_true, cond_false, bids, len_map]; exact ⟨VLe.nil_ (by decide), VLe.still rfl, VLe.still rfl, VLe.still rfl, VLe.still rfl, trivial⟩
      · exact ⟨fun h => by simp at h, fun _ => rfl, trivial⟩
      · simp [wfV, AV.ids, lookR]
      · simp [wfR, grow, fillsF, AV.idsL, AV.ids]
      clear hOl
      rintro m s ⟨pre, post, rfl, rfl, rfl⟩
      have hpl := fillsF_len (absQ q) pre
      refine awp_seq fun K2 hK2 => ?_
      refine awp_plain F_mixed [some 53] rfl ?_
      simp only [List.nil_append, List.cons_append, true_and, and_true, zz0, true_implies, Nat.reduceLT, Nat.reduceLeDiff, zzI, look_nil, Nat.reduceBEq, implies_true, zz21, gr_v, zz22, zz6, Nat.reduceEqDiff, ↓reduceIte]
      refine hK2 _ ?_; try clear hK2 K2
      refine awp_keepL [4, 5, 50, 51, 52, 53] ?_
      simp only [zz20, zzI, look_nil, Nat.reduceBEq]
      refine awp_seq fun K2 hK2 => ?_
      refine awp_condS _ (by decide) (by simp only [look_cons, Nat.reduceBEq, cond_true, cond_false]; rfl) ?_ ?_
      · intro hb
        obtain ⟨x, post, rfl⟩ := more_of hb; clear hb
        have hmn : (if x.qty < restF (absQ q) pre then x.qty else restF (absQ q) pre) = mn2 (restF (absQ q) pre) x.qty := rfl
        have hOk2 := hOk
        simp only [List.all_append, List.all_cons, Bool.and_eq_true] at hOk2
        have hrn := restF_nn haq.1 haq.2 hOk2.1
        have hxk := hOk2.2.1
        simp only [bidOk, inR, Bool.and_eq_true, decide_eq_true_eq] at hxk
        have hwr : IntKind.wrap .i64 (restF (absQ q) pre - mn2 (restF (absQ q) pre) x.qty) = restF (absQ q) pre - mn2 (restF (absQ q) pre) x.qty := by
          simp only [mn2]
          split <;> exact wrapI (by omega) (by omega)
        refine awp_skip ?_
        simp only [zz6, Nat.reduceEqDiff, ↓reduceIte]
        refine hK2 _ ?_; try clear hK2 K2
        refine awp_keepL [4, 5, 50, 51, 52] ?_
        simp only [zz20, zzI, look_nil, Nat.reduceBEq]
        refine awp_seq fun K2 hK2 => ?_
        refine awp_block ?_
        refine awp_seq fun K3 hK3 => ?_
        refine awp_plain F_mixed [some 54, some 55, some 10, none] rfl ?_
        simp only [List.nil_append, List.cons_append, true_and, and_true, zz0, true_implies, Nat.reduceLT, Nat.reduceLeDiff, zzI, look_nil, Nat.reduceBEq, implies_true, evS_indexAddr, zz23, zz24, F_sl22, F_sz31, Option.map_some, zz16, Option.some.injEq, exists_eq_left', exists_eq_left, eq_self, reduceCtorEq, and_self, F_ok31, F_ag31, zz8, zzD, Nat.reduceAdd, Nat.zero_add, zzF, zzB, zzE, zz32, newRow1, F_zero31, zz10, zz18, splice, List.append_nil, zz1, zzG, bids, bidC, getD_mid, len_map, lt_mid, ge_mid, D.agg.injEq, zz6, Nat.reduceEqDiff, ↓reduceIte]
        refine hK3 _ ?_; try clear hK3 K3
        refine awp_keepL [4, 5, 10, 50, 51, 52] ?_
        simp only [zz20, zzI, look_nil, Nat.reduceBEq]
        refine awp_seq fun K3 hK3 => ?_
        refine awp_plain F_mixed [some 56, some 57, some 58, some 59, some 11] rfl ?_
        simp only [List.nil_append, List.cons_append, true_and, and_true, zz0, true_implies, Nat.reduceLT, Nat.reduceLeDiff, zzI, look_nil, Nat.reduceBEq, implies_true, evS_move, zz19, zz23, F_off31_2, zzB, Nat.zero_add, Nat.reduceAdd, F_ok3, F_ag3, F_sz3, zz8, zzD, zzF, zzE, zz16, Option.some.injEq, exists_eq_left', exists_eq_left, Option.map_some, eq_self, reduceCtorEq, and_self, evS_call, evC_min, mxK_some, mnK_some, grsL, gr_v, Option.bind_some, oksL, pure_min, mn_int, evS_assign, hmn, zz6, Nat.reduceEqDiff, ↓reduceIte]
        refine hK3 _ ?_; try clear hK3 K3
        refine awp_keepL [4, 5, 10, 11, 50, 51, 52] ?_
        simp only [zz20, zzI, look_nil, Nat.reduceBEq]
        refine awp_seq fun K3 hK3 => ?_
        refine awp_seq fun K4 hK4 => ?_
        refine awp_plain F_mixed [some 60, some 61] rfl ?_
        simp only [List.nil_append, List.cons_append, true_and, and_true, zz0, true_implies, Nat.reduceLT, Nat.reduceLeDiff, zzI, look_nil, Nat.reduceBEq, implies_true, evS_move, zz21, gr_v, zz25, zz6, Nat.reduceEqDiff, ↓reduceIte]
        refine hK4 _ ?_; try clear hK4 K4
        refine awp_keepL [4, 5, 10, 11, 50, 51, 52, 61] ?_
        simp only [zz20, zzI, look_nil, Nat.reduceBEq]
        refine awp_condS _ (by decide) (by simp only [look_cons, Nat.reduceBEq, cond_true, cond_false]; rfl) ?_ ?_
        · intro hb
          have hs : decide (mn2 (restF (absQ q) pre) x.qty > 0) = true := hb
          clear hb
          refine awp_plain F_mixed [some 62, some 63, some 64, some 65, some 66, some 67, some 68, some 69, some 70, some 4] rfl ?_
          simp only [List.nil_append, List.cons_append, true_and, and_true, zz0, true_implies, Nat.reduceLT, Nat.reduceLeDiff, zzI, look_nil, Nat.reduceBEq, implies_true, evS_move, zz19, zz23, F_off31_1, zzB, Nat.zero_add, Nat.reduceAdd, F_ok3, F_ag3, F_sz3, zz8, zzD, zzF, zzE, zz16, Option.some.injEq, exists_eq_left', exists_eq_left, Option.map_some, eq_self, reduceCtorEq, and_self, F_off31_3, F_zero33, F_bld33, zz7, splice, Option.getD_some, List.append_nil, zz1, zzG, zz10, F_fld33_0, F_fld33_1, F_fld33_2, F_sl23, F_sz33, zz3, newRow1, maxLen_le, Nat.reduceMul, evS_call, F_by33, zz4, zz9, Option.bind_some, evS_assign, grow, D.agg.injEq, unDs_map, zz6, Nat.reduceEqDiff, ↓reduceIte]
          have hm : (fillsF (absQ q) pre).length + 1 ≤ 1000000 := by simp at hO6; omega
          first | refine ⟨le_maxLen hm, by omega, ?_⟩ | refine ⟨by simp, le_maxLen hm, by omega, ?_⟩
          clear hm
          refine hK3 _ ?_; try clear hK3 K3
          refine awp_keepL [4, 5, 11, 50, 51, 52] ?_
          simp only [zz20, zzI, look_nil, Nat.reduceBEq]
          refine awp_plain F_mixed [some 71, some 72, some 73, some 5] rfl ?_
          simp only [List.nil_append, List.cons_append, true_and, and_true, zz0, true_implies, Nat.reduceLT, Nat.reduceLeDiff, zzI, look_nil, Nat.reduceBEq, implies_true, evS_move, zz21, gr_v, zz33, evS_assign, hwr, zz6, Nat.reduceEqDiff, ↓reduceIte]
          refine hK2 _ ?_; try clear hK2 K2
          refine awp_keepL [4, 5, 50, 51, 52] ?_
          simp only [zz20, zzI, look_nil, Nat.reduceBEq]
          refine awp_plain F_mixed [some 74, some 52] rfl ?_
          simp only [List.nil_append, List.cons_append, true_and, and_true, zz0, true_implies, Nat.reduceLT, Nat.reduceLeDiff, zzI, look_nil, Nat.reduceBEq, implies_true, zz21, gr_v, zz26, evS_move, zz6, Nat.reduceEqDiff, ↓reduceIte]
          refine ⟨post.length, _, by simp, le_SK (fun r => bif r == 4 then 70 else r) [] rfl (l' := [(4, .ref 4 (fillsF (absQ q) (pre ++ [x])).length), (5, .d (iv (restF (absQ q) (pre ++ [x])))), (50, .d (bids (pre ++ x :: post))), (51, .d (iv (pre ++ x :: post).length)), (52, .d (iv (pre ++ [x]).length))]) (m' := [(4, grow 33 3 4 ((fillsF (absQ q) (pre ++ [x])).map fillC))]) ?_ ?_ ?_ ?_, pre ++ [x], post, by simp, rfl, rfl⟩
          · simp only [leV, look_cons, Nat.reduceBEq, cond_true, cond_false, bids, len_map, wrap_len pre x (by simp at hO6; omega), restF_snoc]
            refine ⟨?_, VLe.still rfl, VLe.still rfl, VLe.still rfl, VLe.still rfl, trivial⟩
            rw [fillsF_snoc, hs]
            rw [show (AV.ref 70 _ : AV) = .ref ((fun r => bif r == 4 then 70 else r) 4) (fillsF (absQ q) pre ++ [(⟨x.frm, mn2 (restF (absQ q) pre) x.qty, x.price⟩ : FillV)]).length from by simp]; try exact VLe.ref_ (f := (fun r => bif r == 4 then 70 else r)) (r := 4) (by simp)
          · exact ⟨fun _ => ⟨_, rfl, RowLe.data_ (by rw [fillsF_snoc, hs] <;> simp [fillC])⟩, fun h => by simp at h, trivial⟩
          · simp [wfV, AV.ids, lookR, grow]
          · exact ⟨wf_data _ _, trivial⟩
        · intro hb
          have hs : decide (mn2 (restF (absQ q) pre) x.qty > 0) = false := hb
          clear hb
          refine awp_skip ?_
          simp only [zz6, Nat.reduceEqDiff, ↓reduceIte]
          refine hK3 _ ?_; try clear hK3 K3
          refine awp_keepL [4, 5, 11, 50, 51, 52] ?_
          simp only [zz20, zzI, look_nil, Nat.reduceBEq]
          refine awp_plain F_mixed [some 71, some 72, some 73, some 5] rfl ?_
          simp only [List.nil_append, List.cons_append, true_and, and_true, zz0, true_implies, Nat.reduceLT, Nat.reduceLeDiff, zzI, look_nil, Nat.reduceBEq, implies_true, evS_move, zz21, gr_v, zz33, evS_assign, hwr, zz6, Nat.reduceEqDiff, ↓reduceIte]
          refine hK2 _ ?_; try clear hK2 K2
          refine awp_keepL [4, 5, 50, 51, 52] ?_
          simp only [zz20, zzI, look_nil, Nat.reduceBEq]
          refine awp_plain F_mixed [some 74, some 52] rfl ?_
          simp only [List.nil_append, List.cons_append, true_and, and_true, zz0, true_implies, Nat.reduceLT, Nat.reduceLeDiff, zzI, look_nil, Nat.reduceBEq, implies_true, zz21, gr_v, zz26, evS_move, zz6, Nat.reduceEqDiff, ↓reduceIte]
          refine ⟨post.length, _, by simp, le_SK (fun r => bif r == 4 then 4 else r) [] rfl (l' := [(4, .ref 4 (fillsF (absQ q) (pre ++ [x])).length), (5, .d (iv (restF (absQ q) (pre ++ [x])))), (50, .d (bids (pre ++ x :: post))), (51, .d (iv (pre ++ x :: post).length)), (52, .d (iv (pre ++ [x]).length))]) (m' := [(4, grow 33 3 4 ((fillsF (absQ q) (pre ++ [x])).map fillC))]) ?_ ?_ ?_ ?_, pre ++ [x], post, by simp, rfl, rfl⟩
          · simp only [leV, look_cons, Nat.reduceBEq, cond_true, cond_false, bids, len_map, wrap_len pre x (by simp at hO6; omega), restF_snoc]
            refine ⟨?_, VLe.still rfl, VLe.still rfl, VLe.still rfl, VLe.still rfl, trivial⟩
            rw [fillsF_snoc, hs]
            simp only [cond_false, List.append_nil]; exact VLe.ref_ (f := (fun r => bif r == 4 then 4 else r)) (r := 4) (by simp)
          · exact ⟨fun _ => ⟨_, rfl, RowLe.data_ (by rw [fillsF_snoc, hs] <;> simp [fillC])⟩, fun h => by simp at h, trivial⟩
          · simp [wfV, AV.ids, lookR, grow]
          · exact ⟨wf_data _ _, trivial⟩
      · intro hb
        obtain rfl := none_of hb; clear hb
        try simp only [List.append_nil]
        refine awp_exit ?_
        simp only [zz6, Nat.reduceEqDiff, ↓reduceIte]
        refine hK0 _ ?_; try clear hK0 K0
        refine awp_keepL [4, 5] ?_
        simp only [zz20, zzI, look_nil, Nat.reduceBEq]
        refine awp_seq fun K0 hK0 => ?_
        refine awp_plain F_mixed [some 75, some 76, some 4, some 5, some 6] rfl ?_
        simp only [List.nil_append, List.cons_append, true_and, and_true, zz0, true_implies, Nat.reduceLT, Nat.reduceLeDiff, zzI, look_nil, Nat.reduceBEq, implies_true, evS_move, evS_assign, zz6, Nat.reduceEqDiff, ↓reduceIte]
        refine hK0 _ ?_; try clear hK0 K0
        refine awp_keepL [4, 5, 6] ?_
        simp only [zz20, zzI, look_nil, Nat.reduceBEq]
        refine awp_ret ?_
        simp only [zz6, Nat.reduceEqDiff, ↓reduceIte]
        rw [e3, e1, e2]
        try simp only [List.append_nil]
        refine done1 4 (by simp only [resCs, resC]; trivial) ?_ (by simp [flatA, flatAs, flatD, fillC]) (by simp [AV.ids, AV.idsL, fillC]) (by rfl) trivial rfl rfl ?_ (by simp [flatDs, flatD, fillC])
        · simp only [List.map_cons, List.map_nil, resA, S_getD, Nat.reduceLT, Nat.reduceLeDiff, look_cons, Nat.reduceBEq, cond_true, cond_false, resAll]; rfl
        · rfl
theorem wakes19_ : ACalls Try.prog 10 [] [] (bv true) := by
  refine acalls_S (rs := [.tmp 0]) Try.func10 rfl rfl 37 [] rfl (by simp) rfl ?_
  have cast2N : ((2 : Nat) : Int) = 2 := rfl
  have w1 : filV 5 [⟨0, 0, 2, 3, 9⟩, ⟨0, 0, 3, 4, 10⟩] = [⟨3, 4, 10⟩, ⟨2, 1, 9⟩] := by rfl
  have w2 : filR 5 [⟨0, 0, 2, 3, 9⟩, ⟨0, 0, 3, 4, 10⟩] = 0 := by rfl
  have w3 : filE 5 [⟨0, 0, 2, 3, 9⟩, ⟨0, 0, 3, 4, 10⟩] = 0 := by rfl
  refine awp_seq fun K0 hK0 => ?_
  refine awp_plain F_mixed [some 0] rfl ?_
  simp only [List.nil_append, List.cons_append, true_and, and_true, zz0, true_implies, Nat.reduceLT, Nat.reduceLeDiff, zzI, look_nil, Nat.reduceBEq, implies_true, evS_assign, zz6, Nat.reduceEqDiff, ↓reduceIte]
  refine hK0 _ ?_; try clear hK0 K0
  refine awp_keepL [] ?_
  simp only [zz20, zzI, look_nil, Nat.reduceBEq]
  refine awp_seq fun K0 hK0 => ?_
  refine awp_plain F_mixed [some 5, some 6, some 7, some 8, some 4, some 9, some 10, some 11, some 1, some 2, some 3] rfl ?_
  simp only [List.nil_append, List.cons_append, true_and, and_true, zz0, true_implies, Nat.reduceLT, Nat.reduceLeDiff, zzI, look_nil, Nat.reduceBEq, implies_true, F_zero31, F_bld31, zz7, splice, Option.getD_some, List.append_nil, zz1, zzG, zzD, zz16, Option.some.injEq, exists_eq_left', exists_eq_left, Option.map_some, eq_self, reduceCtorEq, and_self, Nat.reduceAdd, Nat.zero_add, zzF, zzB, zzE, zz10, F_fld31_1, F_fld31_2, F_fld31_3, F_sl22, F_sz31, zz3, newRow1, maxLen_le, Nat.reduceMul, evS_call, evC_value, evS_move, zz14, evS_assign, bids, bidC, List.map_cons, D.sl.injEq, w1, w2, w3, fillC, zz6, Nat.reduceEqDiff, ↓reduceIte]
  refine call_go F_go9 (fun hG => Fill_ 5 [⟨0, 0, 2, 3, 9⟩, ⟨0, 0, 3, 4, 10⟩] (by simp)) (by simp [AV.ids, AV.idsL]) (by simp) ?_
  simp only [List.nil_append, List.cons_append, true_and, and_true, zz0, true_implies, Nat.reduceLT, Nat.reduceLeDiff, zzI, look_nil, Nat.reduceBEq, implies_true, F_zero31, F_bld31, zz7, splice, Option.getD_some, List.append_nil, zz1, zzG, zzD, zz16, Option.some.injEq, exists_eq_left', exists_eq_left, Option.map_some, eq_self, reduceCtorEq, and_self, Nat.reduceAdd, Nat.zero_add, zzF, zzB, zzE, zz10, F_fld31_1, F_fld31_2, F_fld31_3, F_sl22, F_sz31, zz3, newRow1, maxLen_le, Nat.reduceMul, evS_call, evC_value, evS_move, zz14, evS_assign, bids, bidC, List.map_cons, D.sl.injEq, w1, w2, w3, fillC, zz6, Nat.reduceEqDiff, ↓reduceIte, atsL, oksG, freeN, AV.ren, AV.renL, addRows, ORow.row, Nat.reduceMul, Nat.reduceAdd, zz9, Option.bind_some, Option.map_some, forall_eq', D.sl.injEq, S_mem, Option.some.injEq, exists_eq_left', exists_eq_left, exists_eq', exists_eq, List.length_cons, zz2]
  refine hK0 _ ?_; try clear hK0 K0
  refine awp_keepL [1, 2, 3] ?_
  simp only [zz20, zzI, look_nil, Nat.reduceBEq]
  refine awp_seq fun K0 hK0 => ?_
  refine awp_plain F_mixed [some 12, some 13, some 14, some 15, some 16, some 17, some 18, some 19, some 20, some 21, some 22, some 23, some 24, some 25, some 26, some 27, some 28, some 29, some 30, some 31, some 32, some 33, some 34, some 35, some 36, some 0] rfl ?_
  simp only [List.nil_append, List.cons_append, true_and, and_true, zz0, true_implies, Nat.reduceLT, Nat.reduceLeDiff, zzI, look_nil, Nat.reduceBEq, implies_true, Nat.reduceSub, S_getD, zz5, and_imp, imp_and, imp_self, and_self, evS_move, zz21, gr_v, zz34, zz13, evS_call, zz12, F_sl23, Option.isSome_some, evS_indexAddr, zz23, zz24, F_sz33, Option.map_some, zz16, Option.some.injEq, exists_eq_left', exists_eq_left, eq_self, reduceCtorEq, zz19, F_off33_0, zzB, Nat.zero_add, Nat.reduceAdd, F_ok3, F_ag3, F_sz3, zz8, zzD, zzF, zzE, F_off33_1, evS_assign, Int.reduceToNat, Int.reduceLT, Int.reduceLE, Int.reduceBEq, beq_self_eq_true, Bool.and_self, Bool.and_true, cast2N, Nat.lt_add_one, Nat.zero_lt_two, Nat.one_lt_two, Nat.reduceLT, zz6, Nat.reduceEqDiff, ↓reduceIte]
  refine hK0 _ ?_; try clear hK0 K0
  refine awp_keepL [0] ?_
  simp only [zz20, zzI, look_nil, Nat.reduceBEq]
  refine awp_ret ?_
  simp only [zz6, Nat.reduceEqDiff, ↓reduceIte]
  refine done0 (by simp only [resCs, resC]; trivial) ?_ (by simp [flatA, flatAs, flatD]) (by simp [AV.ids, AV.idsL])
  simp only [List.map_cons, List.map_nil, resA, S_getD, Nat.reduceLT, Nat.reduceLeDiff, look_cons, Nat.reduceBEq, cond_true, cond_false, resAll]
  
end Go.Proofs.Ytopifbpibkpmmaa
