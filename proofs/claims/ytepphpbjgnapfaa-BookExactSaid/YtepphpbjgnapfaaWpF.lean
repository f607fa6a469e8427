import Derived.Test.YtepphpbjgnapfaaWpE
namespace Go.Proofs.Ytepphpbjgnapfaa
open Go.RowKit
set_option linter.unusedVariables false
set_option linter.unusedSimpArgs false
theorem F_go25 : goFn Try.prog 25 := ⟨_, Try.func25, rfl, rfl⟩
theorem F_by27 : byT Try.prog 27 = 56 := by kernel_rfl
theorem F_go32 : goFn Try.prog 32 := ⟨_, Try.func32, rfl, rfl⟩
theorem F_go34 : goFn Try.prog 34 := ⟨_, Try.func34, rfl, rfl⟩
theorem F_go13 : goFn Try.prog 13 := ⟨_, Try.func13, rfl, rfl⟩
theorem F_go9 : goFn Try.prog 9 := ⟨_, Try.func9, rfl, rfl⟩
theorem LegsF (t : TradeV) : ACalls Try.prog 30 [.agg (tradeC t)] [] (.d (poss (legs t))) := (Legs_u t).freeze (by simp [frzOk])
theorem UndoF (t : TradeV) : ACalls Try.prog 34 [.agg (tradeC t)] [] (.d (poss (undo t))) := (Undo_u t).freeze (by simp [frzOk, undo])
theorem enter_ (nx : Int) (ts : List TradeV) (ps : List PosV) (t : TradeV) (ht : ts.length ≤ 150000) (hp : ps.length ≤ 150000) : ACalls Try.prog 9 [.agg (bookC ⟨nx, ts, ps⟩), .agg (tradeC t)] [⟨27, 7, (enterV ⟨nx, ts, ps⟩ t).trades.map tradeC⟩, ⟨51, 4, (enterV ⟨nx, ts, ps⟩ t).poss.map posC⟩] (.tp [.ag [.d (iv (enterV ⟨nx, ts, ps⟩ t).next), .ref 0 (enterV ⟨nx, ts, ps⟩ t).trades.length, .ref 1 (enterV ⟨nx, ts, ps⟩ t).poss.length], .d (iv (enterN ⟨nx, ts, ps⟩ t)), .d (iv (enterE ⟨nx, ts, ps⟩ t))]) := by
  refine acalls_S (rs := [.cell 4 25, .tmp 5, .tmp 6]) Try.func9 rfl rfl 59 [(0, .d (.agg (bookC ⟨nx, ts, ps⟩))), (1, .d (.agg (tradeC t)))] rfl (by simp) rfl ?_
  refine awp_seq fun K0 hK0 => ?_
  refine awp_plain F_mixed [some 2, some 3, some 4, some 5, some 6] rfl ?_
  simp only [List.nil_append, List.cons_append, true_and, and_true, zz0, true_implies, Nat.reduceLT, Nat.reduceLeDiff, zzI, look_nil, Nat.reduceBEq, implies_true, zz35, newRow1, zz1, zzG, zzD, zz16, Option.some.injEq, exists_eq_left', exists_eq_left, Option.map_some, eq_self, reduceCtorEq, and_self, Nat.reduceAdd, Nat.zero_add, zzF, zzB, zzE, zz32, F_zero25, zz10, evS_assign, bookC, tradesB, poss, tradeC, zz6, Nat.reduceEqDiff, ↓reduceIte]
  refine hK0 _ ?_; try clear hK0 K0
  refine awp_keepL [2, 3, 4] ?_
  simp only [zz20, zzI, look_nil, Nat.reduceBEq]
  refine awp_seq fun K0 hK0 => ?_
  refine awp_plain F_mixed [some 8, some 9, some 7] rfl ?_
  simp only [List.nil_append, List.cons_append, true_and, and_true, zz0, true_implies, Nat.reduceLT, Nat.reduceLeDiff, zzI, look_nil, Nat.reduceBEq, implies_true, F_ok25, F_ag25, F_sz25, zz8, zz23, zzD, Nat.reduceAdd, Nat.zero_add, zzF, zzB, zzE, zz16, Option.some.injEq, exists_eq_left', exists_eq_left, Option.map_some, eq_self, reduceCtorEq, and_self, evS_call, evC_value, evS_assign, bookC, tradesB, poss, D.agg.injEq, zz6, Nat.reduceEqDiff, ↓reduceIte]
  refine call_go F_go20 (fun hG => bCheck_ nx ts ps (by omega) (by omega)) (by simp [AV.ids, AV.idsL]) (by simp) ?_
  simp only [List.nil_append, List.cons_append, true_and, and_true, zz0, true_implies, Nat.reduceLT, Nat.reduceLeDiff, zzI, look_nil, Nat.reduceBEq, implies_true, F_ok25, F_ag25, F_sz25, zz8, zz23, zzD, Nat.reduceAdd, Nat.zero_add, zzF, zzB, zzE, zz16, Option.some.injEq, exists_eq_left', exists_eq_left, Option.map_some, eq_self, reduceCtorEq, and_self, evS_call, evC_value, evS_assign, bookC, tradesB, poss, D.agg.injEq, zz6, Nat.reduceEqDiff, ↓reduceIte, atsL, oksG, freeN, AV.ren, AV.renL, addRows, ORow.row, Nat.reduceMul, Nat.reduceAdd, zz9, Option.bind_some, Option.map_some, forall_eq', D.sl.injEq, S_mem, Option.some.injEq, exists_eq_left', exists_eq_left, exists_eq', exists_eq, List.length_cons, zz2]
  refine hK0 _ ?_; try clear hK0 K0
  refine awp_keepL [2, 3, 4, 7] ?_
  simp only [zz20, zzI, look_nil, Nat.reduceBEq]
  refine awp_seq fun K0 hK0 => ?_
  refine awp_block ?_
  refine awp_seq fun K1 hK1 => ?_
  refine awp_plain F_mixed [some 11, some 12, some 10] rfl ?_
  simp only [List.nil_append, List.cons_append, true_and, and_true, zz0, true_implies, Nat.reduceLT, Nat.reduceLeDiff, zzI, look_nil, Nat.reduceBEq, implies_true, evS_move, zz21, gr_v, zz28, evS_assign, zz6, Nat.reduceEqDiff, ↓reduceIte]
  refine hK1 _ ?_; try clear hK1 K1
  refine awp_keepL [2, 3, 4, 7, 10] ?_
  simp only [zz20, zzI, look_nil, Nat.reduceBEq]
  refine awp_condS _ (by decide) (by simp only [look_cons, Nat.reduceBEq, cond_true, cond_false]; rfl) ?_ ?_
  · intro hb
    have hn : bookE ⟨nx, ts, ps⟩ ≠ 0 := by simpa using hb
    clear hb
    obtain ⟨ho, hE⟩ := bookE_bad hn
    simp only [hE]
    refine awp_seq fun K2 hK2 => ?_
    refine awp_plain F_mixed [some 13, some 14, none, some 5, some 6] rfl ?_
    simp only [List.nil_append, List.cons_append, true_and, and_true, zz0, true_implies, Nat.reduceLT, Nat.reduceLeDiff, zzI, look_nil, Nat.reduceBEq, implies_true, F_zero25, F_bld25, zz7, splice, Option.getD_some, List.append_nil, zz1, zzG, zzD, zz16, Option.some.injEq, exists_eq_left', exists_eq_left, Option.map_some, eq_self, reduceCtorEq, and_self, Nat.reduceAdd, Nat.zero_add, zzF, zzB, zzE, zz10, evS_move, zz18, F_ok25, F_sz25, evS_assign, zz6, Nat.reduceEqDiff, ↓reduceIte]
    refine hK2 _ ?_; try clear hK2 K2
    refine awp_keepL [4, 5, 6] ?_
    simp only [zz20, zzI, look_nil, Nat.reduceBEq]
    have e : enterE ⟨nx, ts, ps⟩ t = 14 := by rw [enterE_def, ho]; try rfl
    obtain ⟨ev, en⟩ := enter_no (b := ⟨nx, ts, ps⟩) (t := t) (by rw [e]; first | decide | assumption)
    refine awp_le (le_SK id [0, 1] rfl (l' := [(4, .ptr 4 0 0), (5, .d (iv 0)), (6, .d (iv 14))]) (m' := [(4, (⟨True, 25, 3, true, false, 4, [[.d (.v (.int .i64 0)), .ref 0 0, .ref 1 0]]⟩ : ARow)), (0, (⟨True, 27, 7, true, true, 0, []⟩ : ARow)), (1, (⟨True, 51, 4, true, true, 1, []⟩ : ARow))]) ?_ ?_ ?_ ?_) ?_
    · simp only [leV, look_cons, Nat.reduceBEq, cond_true, cond_false]; exact ⟨VLe.ptr_ (f := id) (by decide), VLe.still rfl, VLe.still rfl, trivial⟩
    · exact ⟨fun _ => ⟨_, rfl, RowLe.cells (VLess.one_ (VLes.cons_ (VLe.still rfl) (VLes.cons_ (VLe.nil_ (by decide)) (VLes.cons_ (VLe.nil_ (by decide)) VLes.nil_))))⟩, fun h => by simp at h, fun h => by simp at h, fun _ => rfl, fun h => by simp at h, fun _ => rfl, trivial⟩
    · simp [wfV, AV.ids, lookR]
    · simp [wfR, AV.idsL, AV.ids, lookR]
    refine awp_ret ?_
    simp only [zz6, Nat.reduceEqDiff, ↓reduceIte]
    rw [ev, e, en]
    refine doneN [0, 1] (by simp [resCs, resC, S, List.getD, look_cons, lookR, F_ag25, F_sz25, F_ok25]) ?_ (by simp [flatA, flatAs, flatD, ]) (by simp [AV.ids, AV.idsL, ]) (by decide) ?_
    · simp only [List.map_cons, List.map_nil, resA, S_getD, S_mem, lookR_cons, lookR_nil, Nat.reduceLT, Nat.reduceLeDiff, look_cons, Nat.reduceBEq, cond_true, cond_false, resAll, List.getD_cons_zero, List.getD_cons_succ, List.drop_zero, List.drop_succ_cons, List.take_succ_cons, List.take_zero, F_ag25, F_sz25, F_ok25]; rfl
    · exact ⟨⟨_, rfl, trivial, rfl, rfl, rfl, rfl⟩, by simp [flatDs, flatD, tradeC], ⟨_, rfl, trivial, rfl, rfl, rfl, rfl⟩, by simp [flatDs, flatD, posC], trivial⟩
  · intro hb
    have ho : bookOk ⟨nx, ts, ps⟩ = true := bookE_ok (by simpa using hb)
    clear hb
    refine awp_seq fun K2 hK2 => ?_
    refine awp_plain F_mixed [some 16, some 17, some 18, some 15] rfl ?_
    simp only [List.nil_append, List.cons_append, true_and, and_true, zz0, true_implies, Nat.reduceLT, Nat.reduceLeDiff, zzI, look_nil, Nat.reduceBEq, implies_true, F_ok27, F_ag27, F_sz27, zz8, zz23, zzD, Nat.reduceAdd, Nat.zero_add, zzF, zzB, zzE, zz16, Option.some.injEq, exists_eq_left', exists_eq_left, Option.map_some, eq_self, reduceCtorEq, and_self, evS_call, evC_value, zz29, gr_v, zz30, evS_assign, tradeC, D.agg.injEq, zz6, Nat.reduceEqDiff, ↓reduceIte]
    refine call_go F_go29 (fun hG => rtOk_ t) (by simp [AV.ids, AV.idsL]) (by simp) ?_
    simp only [List.nil_append, List.cons_append, true_and, and_true, zz0, true_implies, Nat.reduceLT, Nat.reduceLeDiff, zzI, look_nil, Nat.reduceBEq, implies_true, F_ok27, F_ag27, F_sz27, zz8, zz23, zzD, Nat.reduceAdd, Nat.zero_add, zzF, zzB, zzE, zz16, Option.some.injEq, exists_eq_left', exists_eq_left, Option.map_some, eq_self, reduceCtorEq, and_self, evS_call, evC_value, zz29, gr_v, zz30, evS_assign, tradeC, D.agg.injEq, zz6, Nat.reduceEqDiff, ↓reduceIte, atsL, oksG, freeN, AV.ren, AV.renL, addRows, ORow.row, Nat.reduceMul, Nat.reduceAdd, zz9, Option.bind_some, Option.map_some, forall_eq', D.sl.injEq, S_mem, Option.some.injEq, exists_eq_left', exists_eq_left, exists_eq', exists_eq, List.length_cons, zz2]
    refine hK2 _ ?_; try clear hK2 K2
    refine awp_keepL [2, 3, 4, 15] ?_
    simp only [zz20, zzI, look_nil, Nat.reduceBEq]
    refine awp_condS _ (by decide) (by simp only [look_cons, Nat.reduceBEq, cond_true, cond_false]; rfl) ?_ ?_
    · intro hb
      have hr : rtOk t = false := by simpa using hb
      clear hb
      refine awp_seq fun K3 hK3 => ?_
      refine awp_plain F_mixed [some 19, none, some 5, some 6] rfl ?_
      simp only [List.nil_append, List.cons_append, true_and, and_true, zz0, true_implies, Nat.reduceLT, Nat.reduceLeDiff, zzI, look_nil, Nat.reduceBEq, implies_true, F_zero25, F_bld25, zz7, splice, Option.getD_some, List.append_nil, zz1, zzG, zzD, zz16, Option.some.injEq, exists_eq_left', exists_eq_left, Option.map_some, eq_self, reduceCtorEq, and_self, Nat.reduceAdd, Nat.zero_add, zzF, zzB, zzE, zz10, zz18, F_ok25, F_sz25, evS_assign, zz6, Nat.reduceEqDiff, ↓reduceIte]
      refine hK3 _ ?_; try clear hK3 K3
      refine awp_keepL [4, 5, 6] ?_
      simp only [zz20, zzI, look_nil, Nat.reduceBEq]
      have e : enterE ⟨nx, ts, ps⟩ t = 3 := by rw [enterE_def, ho, hr]; try rfl
      obtain ⟨ev, en⟩ := enter_no (b := ⟨nx, ts, ps⟩) (t := t) (by rw [e]; first | decide | assumption)
      refine awp_le (le_SK id [0, 1] rfl (l' := [(4, .ptr 4 0 0), (5, .d (iv 0)), (6, .d (iv 3))]) (m' := [(4, (⟨True, 25, 3, true, false, 4, [[.d (.v (.int .i64 0)), .ref 0 0, .ref 1 0]]⟩ : ARow)), (0, (⟨True, 27, 7, true, true, 0, []⟩ : ARow)), (1, (⟨True, 51, 4, true, true, 1, []⟩ : ARow))]) ?_ ?_ ?_ ?_) ?_
      · simp only [leV, look_cons, Nat.reduceBEq, cond_true, cond_false]; exact ⟨VLe.ptr_ (f := id) (by decide), VLe.still rfl, VLe.still rfl, trivial⟩
      · exact ⟨fun _ => ⟨_, rfl, RowLe.cells (VLess.one_ (VLes.cons_ (VLe.still rfl) (VLes.cons_ (VLe.nil_ (by decide)) (VLes.cons_ (VLe.nil_ (by decide)) VLes.nil_))))⟩, fun h => by simp at h, fun h => by simp at h, fun _ => rfl, fun h => by simp at h, fun _ => rfl, trivial⟩
      · simp [wfV, AV.ids, lookR]
      · simp [wfR, AV.idsL, AV.ids, lookR]
      refine awp_ret ?_
      simp only [zz6, Nat.reduceEqDiff, ↓reduceIte]
      rw [ev, e, en]
      refine doneN [0, 1] (by simp [resCs, resC, S, List.getD, look_cons, lookR, F_ag25, F_sz25, F_ok25]) ?_ (by simp [flatA, flatAs, flatD, ]) (by simp [AV.ids, AV.idsL, ]) (by decide) ?_
      · simp only [List.map_cons, List.map_nil, resA, S_getD, S_mem, lookR_cons, lookR_nil, Nat.reduceLT, Nat.reduceLeDiff, look_cons, Nat.reduceBEq, cond_true, cond_false, resAll, List.getD_cons_zero, List.getD_cons_succ, List.drop_zero, List.drop_succ_cons, List.take_succ_cons, List.take_zero, F_ag25, F_sz25, F_ok25]; rfl
      · exact ⟨⟨_, rfl, trivial, rfl, rfl, rfl, rfl⟩, by simp [flatDs, flatD, tradeC], ⟨_, rfl, trivial, rfl, rfl, rfl, rfl⟩, by simp [flatDs, flatD, posC], trivial⟩
    · intro hb
      have hr : rtOk t = true := by simpa using hb
      clear hb
      refine awp_seq fun K3 hK3 => ?_
      refine awp_plain F_mixed [some 21, some 22, some 23, some 24, some 20] rfl ?_
      simp only [List.nil_append, List.cons_append, true_and, and_true, zz0, true_implies, Nat.reduceLT, Nat.reduceLeDiff, zzI, look_nil, Nat.reduceBEq, implies_true, zz19, zz23, F_off25_1, zzB, Nat.zero_add, Nat.reduceAdd, F_ok22, F_ag22, F_sz22, zz8, zzD, zzF, zzE, zz16, Option.some.injEq, exists_eq_left', exists_eq_left, Option.map_some, eq_self, reduceCtorEq, and_self, evS_call, zz12, F_sl22, Option.isSome_some, zz21, gr_v, zz31, evS_assign, len_map, zz6, Nat.reduceEqDiff, ↓reduceIte]
      refine hK3 _ ?_; try clear hK3 K3
      refine awp_keepL [2, 3, 4, 20] ?_
      simp only [zz20, zzI, look_nil, Nat.reduceBEq]
      refine awp_condS _ (by decide) (by simp only [look_cons, Nat.reduceBEq, cond_true, cond_false]; rfl) ?_ ?_
      · intro hb
        have hf : decide ((ts.length : Int) ≥ 128) = true := hb
        clear hb
        refine awp_seq fun K4 hK4 => ?_
        refine awp_plain F_mixed [some 25, none, some 5, some 6] rfl ?_
        simp only [List.nil_append, List.cons_append, true_and, and_true, zz0, true_implies, Nat.reduceLT, Nat.reduceLeDiff, zzI, look_nil, Nat.reduceBEq, implies_true, F_zero25, F_bld25, zz7, splice, Option.getD_some, List.append_nil, zz1, zzG, zzD, zz16, Option.some.injEq, exists_eq_left', exists_eq_left, Option.map_some, eq_self, reduceCtorEq, and_self, Nat.reduceAdd, Nat.zero_add, zzF, zzB, zzE, zz10, zz18, F_ok25, F_sz25, evS_assign, zz6, Nat.reduceEqDiff, ↓reduceIte]
        refine hK4 _ ?_; try clear hK4 K4
        refine awp_keepL [4, 5, 6] ?_
        simp only [zz20, zzI, look_nil, Nat.reduceBEq]
        have e : enterE ⟨nx, ts, ps⟩ t = 9 := by rw [enterE_def, ho, hr, hf]; try rfl
        obtain ⟨ev, en⟩ := enter_no (b := ⟨nx, ts, ps⟩) (t := t) (by rw [e]; first | decide | assumption)
        refine awp_le (le_SK id [0, 1] rfl (l' := [(4, .ptr 4 0 0), (5, .d (iv 0)), (6, .d (iv 9))]) (m' := [(4, (⟨True, 25, 3, true, false, 4, [[.d (.v (.int .i64 0)), .ref 0 0, .ref 1 0]]⟩ : ARow)), (0, (⟨True, 27, 7, true, true, 0, []⟩ : ARow)), (1, (⟨True, 51, 4, true, true, 1, []⟩ : ARow))]) ?_ ?_ ?_ ?_) ?_
        · simp only [leV, look_cons, Nat.reduceBEq, cond_true, cond_false]; exact ⟨VLe.ptr_ (f := id) (by decide), VLe.still rfl, VLe.still rfl, trivial⟩
        · exact ⟨fun _ => ⟨_, rfl, RowLe.cells (VLess.one_ (VLes.cons_ (VLe.still rfl) (VLes.cons_ (VLe.nil_ (by decide)) (VLes.cons_ (VLe.nil_ (by decide)) VLes.nil_))))⟩, fun h => by simp at h, fun h => by simp at h, fun _ => rfl, fun h => by simp at h, fun _ => rfl, trivial⟩
        · simp [wfV, AV.ids, lookR]
        · simp [wfR, AV.idsL, AV.ids, lookR]
        refine awp_ret ?_
        simp only [zz6, Nat.reduceEqDiff, ↓reduceIte]
        rw [ev, e, en]
        refine doneN [0, 1] (by simp [resCs, resC, S, List.getD, look_cons, lookR, F_ag25, F_sz25, F_ok25]) ?_ (by simp [flatA, flatAs, flatD, ]) (by simp [AV.ids, AV.idsL, ]) (by decide) ?_
        · simp only [List.map_cons, List.map_nil, resA, S_getD, S_mem, lookR_cons, lookR_nil, Nat.reduceLT, Nat.reduceLeDiff, look_cons, Nat.reduceBEq, cond_true, cond_false, resAll, List.getD_cons_zero, List.getD_cons_succ, List.drop_zero, List.drop_succ_cons, List.take_succ_cons, List.take_zero, F_ag25, F_sz25, F_ok25]; rfl
        · exact ⟨⟨_, rfl, trivial, rfl, rfl, rfl, rfl⟩, by simp [flatDs, flatD, tradeC], ⟨_, rfl, trivial, rfl, rfl, rfl, rfl⟩, by simp [flatDs, flatD, posC], trivial⟩
      · intro hb
        have hf : decide ((ts.length : Int) ≥ 128) = false := hb
        clear hb
        refine awp_seq fun K4 hK4 => ?_
        refine awp_plain F_mixed [some 27, some 28, some 29, some 26] rfl ?_
        simp only [List.nil_append, List.cons_append, true_and, and_true, zz0, true_implies, Nat.reduceLT, Nat.reduceLeDiff, zzI, look_nil, Nat.reduceBEq, implies_true, zz19, zz23, F_off25_0, zzB, Nat.zero_add, Nat.reduceAdd, F_ok3, F_ag3, F_sz3, zz8, zzD, zzF, zzE, zz16, Option.some.injEq, exists_eq_left', exists_eq_left, Option.map_some, eq_self, reduceCtorEq, and_self, zz21, gr_v, zz31, evS_assign, zz6, Nat.reduceEqDiff, ↓reduceIte]
        refine hK4 _ ?_; try clear hK4 K4
        refine awp_keepL [2, 3, 4, 26] ?_
        simp only [zz20, zzI, look_nil, Nat.reduceBEq]
        refine awp_condS _ (by decide) (by simp only [look_cons, Nat.reduceBEq, cond_true, cond_false]; rfl) ?_ ?_
        · intro hb
          have hx : decide (nx ≥ 1099511627776) = true := hb
          clear hb
          refine awp_seq fun K5 hK5 => ?_
          refine awp_plain F_mixed [some 30, none, some 5, some 6] rfl ?_
          simp only [List.nil_append, List.cons_append, true_and, and_true, zz0, true_implies, Nat.reduceLT, Nat.reduceLeDiff, zzI, look_nil, Nat.reduceBEq, implies_true, F_zero25, F_bld25, zz7, splice, Option.getD_some, List.append_nil, zz1, zzG, zzD, zz16, Option.some.injEq, exists_eq_left', exists_eq_left, Option.map_some, eq_self, reduceCtorEq, and_self, Nat.reduceAdd, Nat.zero_add, zzF, zzB, zzE, zz10, zz18, F_ok25, F_sz25, evS_assign, zz6, Nat.reduceEqDiff, ↓reduceIte]
          refine hK5 _ ?_; try clear hK5 K5
          refine awp_keepL [4, 5, 6] ?_
          simp only [zz20, zzI, look_nil, Nat.reduceBEq]
          have e : enterE ⟨nx, ts, ps⟩ t = 1 := by rw [enterE_def, ho, hr, hf, hx]; try rfl
          obtain ⟨ev, en⟩ := enter_no (b := ⟨nx, ts, ps⟩) (t := t) (by rw [e]; first | decide | assumption)
          refine awp_le (le_SK id [0, 1] rfl (l' := [(4, .ptr 4 0 0), (5, .d (iv 0)), (6, .d (iv 1))]) (m' := [(4, (⟨True, 25, 3, true, false, 4, [[.d (.v (.int .i64 0)), .ref 0 0, .ref 1 0]]⟩ : ARow)), (0, (⟨True, 27, 7, true, true, 0, []⟩ : ARow)), (1, (⟨True, 51, 4, true, true, 1, []⟩ : ARow))]) ?_ ?_ ?_ ?_) ?_
          · simp only [leV, look_cons, Nat.reduceBEq, cond_true, cond_false]; exact ⟨VLe.ptr_ (f := id) (by decide), VLe.still rfl, VLe.still rfl, trivial⟩
          · exact ⟨fun _ => ⟨_, rfl, RowLe.cells (VLess.one_ (VLes.cons_ (VLe.still rfl) (VLes.cons_ (VLe.nil_ (by decide)) (VLes.cons_ (VLe.nil_ (by decide)) VLes.nil_))))⟩, fun h => by simp at h, fun h => by simp at h, fun _ => rfl, fun h => by simp at h, fun _ => rfl, trivial⟩
          · simp [wfV, AV.ids, lookR]
          · simp [wfR, AV.idsL, AV.ids, lookR]
          refine awp_ret ?_
          simp only [zz6, Nat.reduceEqDiff, ↓reduceIte]
          rw [ev, e, en]
          refine doneN [0, 1] (by simp [resCs, resC, S, List.getD, look_cons, lookR, F_ag25, F_sz25, F_ok25]) ?_ (by simp [flatA, flatAs, flatD, ]) (by simp [AV.ids, AV.idsL, ]) (by decide) ?_
          · simp only [List.map_cons, List.map_nil, resA, S_getD, S_mem, lookR_cons, lookR_nil, Nat.reduceLT, Nat.reduceLeDiff, look_cons, Nat.reduceBEq, cond_true, cond_false, resAll, List.getD_cons_zero, List.getD_cons_succ, List.drop_zero, List.drop_succ_cons, List.take_succ_cons, List.take_zero, F_ag25, F_sz25, F_ok25]; rfl
          · exact ⟨⟨_, rfl, trivial, rfl, rfl, rfl, rfl⟩, by simp [flatDs, flatD, tradeC], ⟨_, rfl, trivial, rfl, rfl, rfl, rfl⟩, by simp [flatDs, flatD, posC], trivial⟩
        · intro hb
          have hx : decide (nx ≥ 1099511627776) = false := hb
          clear hb
          have hll := legs_len2 t
          refine awp_skip ?_
          simp only [zz6, Nat.reduceEqDiff, ↓reduceIte]
          refine hK0 _ ?_; try clear hK0 K0
          refine awp_keepL [2, 3, 4] ?_
          simp only [zz20, zzI, look_nil, Nat.reduceBEq]
          refine awp_seq fun K0 hK0 => ?_
          refine awp_draw F_mixed [some 32, some 33, some 34, some 35, some 31, some 36, some 37, none, some 7] rfl (by kernel_rfl) ?_
          simp only [List.nil_append, List.cons_append, true_and, and_true, zz0, true_implies, Nat.reduceLT, Nat.reduceLeDiff, zzI, look_nil, Nat.reduceBEq, implies_true, F_ok25, F_ag25, F_sz25, zz8, zz23, zzD, Nat.reduceAdd, Nat.zero_add, zzF, zzB, zzE, zz16, Option.some.injEq, exists_eq_left', exists_eq_left, Option.map_some, eq_self, reduceCtorEq, and_self, F_ok27, F_ag27, F_sz27, evS_call, evC_value, evS_move, zz14, zz18, splice, List.append_nil, zz1, zzG, evS_assign, bookC, tradesB, poss, tradeC, D.agg.injEq, zz6, Nat.reduceEqDiff, ↓reduceIte]
          refine call_go F_go30 (fun hG => LegsF t) (by simp [AV.ids, AV.idsL]) (by simp) ?_
          simp only [List.nil_append, List.cons_append, true_and, and_true, zz0, true_implies, Nat.reduceLT, Nat.reduceLeDiff, zzI, look_nil, Nat.reduceBEq, implies_true, F_ok25, F_ag25, F_sz25, zz8, zz23, zzD, Nat.reduceAdd, Nat.zero_add, zzF, zzB, zzE, zz16, Option.some.injEq, exists_eq_left', exists_eq_left, Option.map_some, eq_self, reduceCtorEq, and_self, F_ok27, F_ag27, F_sz27, evS_call, evC_value, evS_move, zz14, zz18, splice, List.append_nil, zz1, zzG, evS_assign, bookC, tradesB, poss, tradeC, D.agg.injEq, zz6, Nat.reduceEqDiff, ↓reduceIte, atsL, oksG, freeN, AV.ren, AV.renL, addRows, ORow.row, Nat.reduceMul, Nat.reduceAdd, zz9, Option.bind_some, Option.map_some, forall_eq', D.sl.injEq, S_mem, Option.some.injEq, exists_eq_left', exists_eq_left, exists_eq', exists_eq, List.length_cons, zz2]
          refine call_go F_go25 (fun hG => add_ nx ts ps (legs t) (by omega) (by omega) (by omega)) (by simp [AV.ids, AV.idsL]) (by simp) ?_
          simp only [List.nil_append, List.cons_append, true_and, and_true, zz0, true_implies, Nat.reduceLT, Nat.reduceLeDiff, zzI, look_nil, Nat.reduceBEq, implies_true, F_ok25, F_ag25, F_sz25, zz8, zz23, zzD, Nat.reduceAdd, Nat.zero_add, zzF, zzB, zzE, zz16, Option.some.injEq, exists_eq_left', exists_eq_left, Option.map_some, eq_self, reduceCtorEq, and_self, F_ok27, F_ag27, F_sz27, evS_call, evC_value, evS_move, zz14, zz18, splice, List.append_nil, zz1, zzG, evS_assign, bookC, tradesB, poss, tradeC, D.agg.injEq, zz6, Nat.reduceEqDiff, ↓reduceIte, atsL, oksG, freeN, AV.ren, AV.renL, addRows, ORow.row, Nat.reduceMul, Nat.reduceAdd, zz9, Option.bind_some, Option.map_some, forall_eq', D.sl.injEq, S_mem, Option.some.injEq, exists_eq_left', exists_eq_left, exists_eq', exists_eq, List.length_cons, zz2]
          refine hK0 _ ?_; try clear hK0 K0
          refine awp_keepL [2, 3, 4, 7] ?_
          simp only [zz20, zzI, look_nil, Nat.reduceBEq]
          refine awp_seq fun K0 hK0 => ?_
          refine awp_seq fun K1 hK1 => ?_
          refine awp_plain F_mixed [some 38, some 39] rfl ?_
          simp only [List.nil_append, List.cons_append, true_and, and_true, zz0, true_implies, Nat.reduceLT, Nat.reduceLeDiff, zzI, look_nil, Nat.reduceBEq, implies_true, evS_move, zz21, gr_v, zz28, zz6, Nat.reduceEqDiff, ↓reduceIte]
          refine hK1 _ ?_; try clear hK1 K1
          refine awp_keepL [2, 3, 4, 7, 39] ?_
          simp only [zz20, zzI, look_nil, Nat.reduceBEq]
          refine awp_condS _ (by decide) (by simp only [look_cons, Nat.reduceBEq, cond_true, cond_false]; rfl) ?_ ?_
          · intro hb
            have he : addE ⟨nx, ts, ps⟩ (legs t) ≠ 0 := by simpa using hb
            clear hb
            refine awp_seq fun K2 hK2 => ?_
            refine awp_plain F_mixed [some 40, some 41, none, some 5, some 6] rfl ?_
            simp only [List.nil_append, List.cons_append, true_and, and_true, zz0, true_implies, Nat.reduceLT, Nat.reduceLeDiff, zzI, look_nil, Nat.reduceBEq, implies_true, F_zero25, F_bld25, zz7, splice, Option.getD_some, List.append_nil, zz1, zzG, zzD, zz16, Option.some.injEq, exists_eq_left', exists_eq_left, Option.map_some, eq_self, reduceCtorEq, and_self, Nat.reduceAdd, Nat.zero_add, zzF, zzB, zzE, zz10, evS_move, zz18, F_ok25, F_sz25, evS_assign, zz6, Nat.reduceEqDiff, ↓reduceIte]
            refine hK2 _ ?_; try clear hK2 K2
            refine awp_keepL [4, 5, 6] ?_
            simp only [zz20, zzI, look_nil, Nat.reduceBEq]
            have e : enterE ⟨nx, ts, ps⟩ t = addE ⟨nx, ts, ps⟩ (legs t) := by rw [enterE_def, ho, hr, hf, hx]; try rfl
            obtain ⟨ev, en⟩ := enter_no (b := ⟨nx, ts, ps⟩) (t := t) (by rw [e]; first | decide | assumption)
            refine awp_le (le_SK id [0, 1] rfl (l' := [(4, .ptr 4 0 0), (5, .d (iv 0)), (6, .d (iv (addE ⟨nx, ts, ps⟩ (legs t))))]) (m' := [(4, (⟨True, 25, 3, true, false, 4, [[.d (.v (.int .i64 0)), .ref 0 0, .ref 1 0]]⟩ : ARow)), (0, (⟨True, 27, 7, true, true, 0, []⟩ : ARow)), (1, (⟨True, 51, 4, true, true, 1, []⟩ : ARow))]) ?_ ?_ ?_ ?_) ?_
            · simp only [leV, look_cons, Nat.reduceBEq, cond_true, cond_false]; exact ⟨VLe.ptr_ (f := id) (by decide), VLe.still rfl, VLe.still rfl, trivial⟩
            · exact ⟨fun _ => ⟨_, rfl, RowLe.cells (VLess.one_ (VLes.cons_ (VLe.still rfl) (VLes.cons_ (VLe.nil_ (by decide)) (VLes.cons_ (VLe.nil_ (by decide)) VLes.nil_))))⟩, fun h => by simp at h, fun h => by simp at h, fun _ => rfl, fun h => by simp at h, fun _ => rfl, trivial⟩
            · simp [wfV, AV.ids, lookR]
            · simp [wfR, AV.idsL, AV.ids, lookR]
            refine awp_ret ?_
            simp only [zz6, Nat.reduceEqDiff, ↓reduceIte]
            rw [ev, e, en]
            refine doneN [0, 1] (by simp [resCs, resC, S, List.getD, look_cons, lookR, F_ag25, F_sz25, F_ok25]) ?_ (by simp [flatA, flatAs, flatD, ]) (by simp [AV.ids, AV.idsL, ]) (by decide) ?_
            · simp only [List.map_cons, List.map_nil, resA, S_getD, S_mem, lookR_cons, lookR_nil, Nat.reduceLT, Nat.reduceLeDiff, look_cons, Nat.reduceBEq, cond_true, cond_false, resAll, List.getD_cons_zero, List.getD_cons_succ, List.drop_zero, List.drop_succ_cons, List.take_succ_cons, List.take_zero, F_ag25, F_sz25, F_ok25]; rfl
            · exact ⟨⟨_, rfl, trivial, rfl, rfl, rfl, rfl⟩, by simp [flatDs, flatD, tradeC], ⟨_, rfl, trivial, rfl, rfl, rfl, rfl⟩, by simp [flatDs, flatD, posC], trivial⟩
          · intro hb
            have he : addE ⟨nx, ts, ps⟩ (legs t) = 0 := by simpa using hb
            clear hb
            have hav := add_val he
            have hav1 : (addV ⟨nx, ts, ps⟩ (legs t)).next = nx := by rw [hav]
            have hav2 : (addV ⟨nx, ts, ps⟩ (legs t)).trades = ts := by rw [hav]
            simp only [hav1, hav2]
            have hG := (bookOk_iff _).1 ho
            have hg0 := hG.nx0
            have hg1 := hG.nx1
            simp only at hg0 hg1
            have hwn : IntKind.wrap .i64 (nx + 1) = nx + 1 := wrapI (by omega) (by omega)
            have hpl := addV_len ⟨nx, ts, ps⟩ (legs t)
            refine awp_skip ?_
            simp only [zz6, Nat.reduceEqDiff, ↓reduceIte]
            refine hK0 _ ?_; try clear hK0 K0
            refine awp_keepL [2, 3, 4] ?_
            simp only [zz20, zzI, look_nil, Nat.reduceBEq]
            refine awp_seq fun K0 hK0 => ?_
            refine awp_plain F_mixed [some 42, some 43, some 44, some 45, none] rfl ?_
            simp only [List.nil_append, List.cons_append, true_and, and_true, zz0, true_implies, Nat.reduceLT, Nat.reduceLeDiff, zzI, look_nil, Nat.reduceBEq, implies_true, zz19, zz23, F_off25_0, zzB, Nat.zero_add, Nat.reduceAdd, F_ok3, F_ag3, F_sz3, zz8, zzD, zzF, zzE, zz16, Option.some.injEq, exists_eq_left', exists_eq_left, Option.map_some, eq_self, reduceCtorEq, and_self, zz21, gr_v, zz26, zz18, splice, List.append_nil, zz1, zzG, hwn, zz6, Nat.reduceEqDiff, ↓reduceIte]
            refine hK0 _ ?_; try clear hK0 K0
            refine awp_keepL [2, 3, 4] ?_
            simp only [zz20, zzI, look_nil, Nat.reduceBEq]
            refine awp_seq fun K0 hK0 => ?_
            refine awp_plain F_mixed [some 46, some 47, some 48, none, some 49, none] rfl ?_
            simp only [List.nil_append, List.cons_append, true_and, and_true, zz0, true_implies, Nat.reduceLT, Nat.reduceLeDiff, zzI, look_nil, Nat.reduceBEq, implies_true, zz19, zz23, F_off25_0, zzB, Nat.zero_add, Nat.reduceAdd, F_ok3, F_ag3, F_sz3, zz8, zzD, zzF, zzE, zz16, Option.some.injEq, exists_eq_left', exists_eq_left, Option.map_some, eq_self, reduceCtorEq, and_self, F_off27_0, zz18, splice, List.append_nil, zz1, zzG, F_off27_6, F_ok4, F_sz4, zz6, Nat.reduceEqDiff, ↓reduceIte]
            refine hK0 _ ?_; try clear hK0 K0
            refine awp_keepL [2, 3, 4] ?_
            simp only [zz20, zzI, look_nil, Nat.reduceBEq]
            refine awp_seq fun K0 hK0 => ?_
            refine awp_plain F_mixed [some 50, some 51, some 52, some 53, some 54, some 55, none] rfl ?_
            simp only [List.nil_append, List.cons_append, true_and, and_true, zz0, true_implies, Nat.reduceLT, Nat.reduceLeDiff, zzI, look_nil, Nat.reduceBEq, implies_true, zz19, zz23, F_off25_1, zzB, Nat.zero_add, Nat.reduceAdd, F_ok22, F_ag22, F_sz22, zz8, zzD, zzF, zzE, zz16, Option.some.injEq, exists_eq_left', exists_eq_left, Option.map_some, eq_self, reduceCtorEq, and_self, F_ok27, F_ag27, F_sz27, F_sl22, F_zero27, zz3, newRow1, zz1, zzG, maxLen_le, Nat.reduceMul, evS_call, F_by27, zz4, zz9, Option.bind_some, zz18, splice, List.append_nil, tradeC, grow, unDs_map, D.agg.injEq, len_map, zz6, Nat.reduceEqDiff, ↓reduceIte]
            have hm : ts.length + 1 ≤ 1000000 := by first | omega | (simp; omega)
            first | refine ⟨le_maxLen hm, by omega, ?_⟩ | refine ⟨by simp, le_maxLen hm, by omega, ?_⟩
            clear hm
            refine hK0 _ ?_; try clear hK0 K0
            refine awp_keepL [2, 3, 4] ?_
            simp only [zz20, zzI, look_nil, Nat.reduceBEq]
            refine awp_seq fun K0 hK0 => ?_
            refine awp_tree F_mixed [some 56, some 57, some 58, none, some 5, some 6] rfl (.one 0 (.one 1 (.two (.one 2 (.one 3 (.one 4 (.one 5 .nil)))) (.one 3 (.one 2 (.one 4 (.one 5 .nil))))))) (by kernel_rfl) ?_
            simp only [List.nil_append, List.cons_append, true_and, and_true, zz0, true_implies, Nat.reduceLT, Nat.reduceLeDiff, zzI, look_nil, Nat.reduceBEq, implies_true, F_ok25, F_ag25, F_sz25, zz8, zz23, zzD, Nat.reduceAdd, Nat.zero_add, zzF, zzB, zzE, zz16, Option.some.injEq, exists_eq_left', exists_eq_left, Option.map_some, eq_self, reduceCtorEq, and_self, zz19, F_off27_0, F_ok3, F_ag3, F_sz3, zz18, splice, List.append_nil, zz1, zzG, evS_assign, zz6, Nat.reduceEqDiff, ↓reduceIte, evT, List.getElem?_cons_zero, List.getElem?_cons_succ, and_self]
            refine hK0 _ ?_; try clear hK0 K0
            refine awp_keepL [4, 5, 6] ?_
            simp only [zz20, zzI, look_nil, Nat.reduceBEq]
            have e : enterE ⟨nx, ts, ps⟩ t = 0 := by rw [enterE_def, ho, hr, hf, hx, he]; rfl
            obtain ⟨ev, en⟩ := enter_val e
            simp only at ev en
            refine awp_le (le_SK id [] rfl (l' := [(4, .ptr 4 0 0), (5, .d (iv (nx + 1))), (6, .d (iv 0))]) (m' := [(4, (⟨True, 25, 3, true, false, 4, [[.d (iv (nx + 1)), .ref 54 (ts ++ [setNo t (nx + 1)]).length, .ref 36001 (addV ⟨nx, ts, ps⟩ (legs t)).poss.length]]⟩ : ARow)), (54, (⟨True, 27, 7, true, true, 36000, ((ts ++ [setNo t (nx + 1)]).map tradeC).map (·.map .d)⟩ : ARow)), (36001, (⟨True, 51, 4, true, true, 36001, ((addV ⟨nx, ts, ps⟩ (legs t)).poss.map posC).map (·.map .d)⟩ : ARow))]) ?_ ?_ ?_ ?_) ?_
            · simp only [leV, look_cons, Nat.reduceBEq, cond_true, cond_false]; exact ⟨(by first | exact VLe.still rfl | exact VLe.nil_ (by decide) | exact VLe.nild_ | exact VLe.refl _ | exact VLe.ptrE (by simp) (by rfl) | exact VLe.refE (by simp) (by rfl) (by first | rfl | (simp; done) | (simp; omega)) | exact VLe.dE (by first | rfl | simp)), (by first | exact VLe.still rfl | exact VLe.nil_ (by decide) | exact VLe.nild_ | exact VLe.refl _ | exact VLe.ptrE (by simp) (by rfl) | exact VLe.refE (by simp) (by rfl) (by first | rfl | (simp; done) | (simp; omega)) | exact VLe.dE (by first | rfl | simp)), (by first | exact VLe.still rfl | exact VLe.nil_ (by decide) | exact VLe.nild_ | exact VLe.refl _ | exact VLe.ptrE (by simp) (by rfl) | exact VLe.refE (by simp) (by rfl) (by first | rfl | (simp; done) | (simp; omega)) | exact VLe.dE (by first | rfl | simp)), trivial⟩
            · exact ⟨fun _ => ⟨_, rfl, RowLe.cells (VLess.one_ (VLes.cons_ (VLe.dE rfl) (VLes.cons_ (VLe.refE (by simp) rfl (by simp)) (VLes.cons_ (VLe.refE (by simp) rfl (rfl)) (VLes.nil_)))))⟩, fun h => by simp at h, fun _ => ⟨_, rfl, (by exact RowLe.uq_ (by rfl) (by simp [tradeC, posC, setNo]) ids_data)⟩, fun h => by simp at h, fun _ => ⟨_, rfl, (by first | exact RowLe.data_ (by first | rfl | simp) | exact RowLe.uq2 (by first | rfl | simp) (by simp) ids_data | exact RowLe.still (by simp [AV.idsL, AV.ids]) | exact RowLe.same (by simp) (by simp [AV.idsL, AV.ids]))⟩, fun h => by simp at h, trivial⟩
            · simp [wfV, AV.ids, AV.idsL, lookR, grow]
            · exact ⟨by simp [AV.idsL, AV.ids, lookR], wf_data _ _, wf_data _ _, trivial⟩
            refine awp_ret ?_
            simp only [zz6, Nat.reduceEqDiff, ↓reduceIte]
            rw [ev, e, en]
            refine doneN [54, 36001] (by simp [resCs, resC, S, List.getD, look_cons, lookR, F_ag25, F_sz25, F_ok25]) ?_ (by simp [flatA, flatAs, flatD, ]) (by simp [AV.ids, AV.idsL, ]) (by decide) ?_
            · simp only [List.map_cons, List.map_nil, resA, S_getD, S_mem, lookR_cons, lookR_nil, Nat.reduceLT, Nat.reduceLeDiff, look_cons, Nat.reduceBEq, cond_true, cond_false, resAll, List.getD_cons_zero, List.getD_cons_succ, List.drop_zero, List.drop_succ_cons, List.take_succ_cons, List.take_zero, F_ag25, F_sz25, F_ok25]; rfl
            · exact ⟨⟨_, rfl, trivial, rfl, rfl, rfl, rfl⟩, tr_flat _, ⟨_, rfl, trivial, rfl, rfl, rfl, rfl⟩, by simp [flatDs, flatD, posC], trivial⟩
theorem enterF (b : BookV) (t : TradeV) (ht : b.trades.length ≤ 150000) (hp : b.poss.length ≤ 150000) : ACalls Try.prog 9 [.agg (bookC b), .agg (tradeC t)] [] (.tp [.d (.agg (bookC (enterV b t))), .d (iv (enterN b t)), .d (iv (enterE b t))]) := by
  obtain ⟨nx, ts, ps⟩ := b
  exact (enter_ nx ts ps t ht hp).freezeT (by simp [frzOk, frzOkL])
theorem cancel_ (nx : Int) (ts : List TradeV) (ps : List PosV) (no : Int) (ht : ts.length ≤ 150000) (hp : ps.length ≤ 150000) : ACalls Try.prog 13 [.agg (bookC ⟨nx, ts, ps⟩), iv no] [⟨27, 7, (cancelV ⟨nx, ts, ps⟩ no).trades.map tradeC⟩, ⟨51, 4, (cancelV ⟨nx, ts, ps⟩ no).poss.map posC⟩] (.tp [.ag [.d (iv (cancelV ⟨nx, ts, ps⟩ no).next), .ref 0 (cancelV ⟨nx, ts, ps⟩ no).trades.length, .ref 1 (cancelV ⟨nx, ts, ps⟩ no).poss.length], .d (iv (cancelE ⟨nx, ts, ps⟩ no))]) := by
  refine acalls_S (rs := [.cell 4 25, .tmp 5]) Try.func13 rfl rfl 42 [(0, .d (.agg (bookC ⟨nx, ts, ps⟩))), (1, .d (iv no))] rfl (by simp) rfl ?_
  refine awp_seq fun K0 hK0 => ?_
  refine awp_plain F_mixed [some 2, some 3, some 4, some 5] rfl ?_
  simp only [List.nil_append, List.cons_append, true_and, and_true, zz0, true_implies, Nat.reduceLT, Nat.reduceLeDiff, zzI, look_nil, Nat.reduceBEq, implies_true, zz35, newRow1, zz1, zzG, zzD, zz16, Option.some.injEq, exists_eq_left', exists_eq_left, Option.map_some, eq_self, reduceCtorEq, and_self, Nat.reduceAdd, Nat.zero_add, zzF, zzB, zzE, zz32, F_zero25, zz10, evS_assign, bookC, tradesB, poss, zz6, Nat.reduceEqDiff, ↓reduceIte]
  refine hK0 _ ?_; try clear hK0 K0
  refine awp_keepL [2, 3, 4] ?_
  simp only [zz20, zzI, look_nil, Nat.reduceBEq]
  refine awp_seq fun K0 hK0 => ?_
  refine awp_plain F_mixed [some 8, some 9, some 6] rfl ?_
  simp only [List.nil_append, List.cons_append, true_and, and_true, zz0, true_implies, Nat.reduceLT, Nat.reduceLeDiff, zzI, look_nil, Nat.reduceBEq, implies_true, F_ok25, F_ag25, F_sz25, zz8, zz23, zzD, Nat.reduceAdd, Nat.zero_add, zzF, zzB, zzE, zz16, Option.some.injEq, exists_eq_left', exists_eq_left, Option.map_some, eq_self, reduceCtorEq, and_self, evS_call, evC_value, evS_assign, bookC, tradesB, poss, D.agg.injEq, zz6, Nat.reduceEqDiff, ↓reduceIte]
  refine call_go F_go20 (fun hG => bCheck_ nx ts ps (by omega) (by omega)) (by simp [AV.ids, AV.idsL]) (by simp) ?_
  simp only [List.nil_append, List.cons_append, true_and, and_true, zz0, true_implies, Nat.reduceLT, Nat.reduceLeDiff, zzI, look_nil, Nat.reduceBEq, implies_true, F_ok25, F_ag25, F_sz25, zz8, zz23, zzD, Nat.reduceAdd, Nat.zero_add, zzF, zzB, zzE, zz16, Option.some.injEq, exists_eq_left', exists_eq_left, Option.map_some, eq_self, reduceCtorEq, and_self, evS_call, evC_value, evS_assign, bookC, tradesB, poss, D.agg.injEq, zz6, Nat.reduceEqDiff, ↓reduceIte, atsL, oksG, freeN, AV.ren, AV.renL, addRows, ORow.row, Nat.reduceMul, Nat.reduceAdd, zz9, Option.bind_some, Option.map_some, forall_eq', D.sl.injEq, S_mem, Option.some.injEq, exists_eq_left', exists_eq_left, exists_eq', exists_eq, List.length_cons, zz2]
  refine hK0 _ ?_; try clear hK0 K0
  refine awp_keepL [2, 3, 4, 6] ?_
  simp only [zz20, zzI, look_nil, Nat.reduceBEq]
  refine awp_seq fun K0 hK0 => ?_
  refine awp_seq fun K1 hK1 => ?_
  refine awp_plain F_mixed [some 10, some 11] rfl ?_
  simp only [List.nil_append, List.cons_append, true_and, and_true, zz0, true_implies, Nat.reduceLT, Nat.reduceLeDiff, zzI, look_nil, Nat.reduceBEq, implies_true, evS_move, zz21, gr_v, zz28, zz6, Nat.reduceEqDiff, ↓reduceIte]
  refine hK1 _ ?_; try clear hK1 K1
  refine awp_keepL [2, 3, 4, 6, 11] ?_
  simp only [zz20, zzI, look_nil, Nat.reduceBEq]
  refine awp_condS _ (by decide) (by simp only [look_cons, Nat.reduceBEq, cond_true, cond_false]; rfl) ?_ ?_
  · intro hb
    have hn : bookE ⟨nx, ts, ps⟩ ≠ 0 := by simpa using hb
    clear hb
    obtain ⟨ho, hE⟩ := bookE_bad hn
    simp only [hE]
    refine awp_seq fun K2 hK2 => ?_
    refine awp_plain F_mixed [some 12, some 13, none, some 5] rfl ?_
    simp only [List.nil_append, List.cons_append, true_and, and_true, zz0, true_implies, Nat.reduceLT, Nat.reduceLeDiff, zzI, look_nil, Nat.reduceBEq, implies_true, F_zero25, F_bld25, zz7, splice, Option.getD_some, List.append_nil, zz1, zzG, zzD, zz16, Option.some.injEq, exists_eq_left', exists_eq_left, Option.map_some, eq_self, reduceCtorEq, and_self, Nat.reduceAdd, Nat.zero_add, zzF, zzB, zzE, zz10, evS_move, zz18, F_ok25, F_sz25, evS_assign, zz6, Nat.reduceEqDiff, ↓reduceIte]
    refine hK2 _ ?_; try clear hK2 K2
    refine awp_keepL [4, 5] ?_
    simp only [zz20, zzI, look_nil, Nat.reduceBEq]
    have e : cancelE ⟨nx, ts, ps⟩ no = 14 := by rw [cancelE_def, ho]; try rfl
    have ev := cancel_no (b := ⟨nx, ts, ps⟩) (no := no) (by rw [e]; first | decide | assumption)
    refine awp_le (le_SK id [0, 1] rfl (l' := [(4, .ptr 4 0 0), (5, .d (iv 14))]) (m' := [(4, (⟨True, 25, 3, true, false, 4, [[.d (.v (.int .i64 0)), .ref 0 0, .ref 1 0]]⟩ : ARow)), (0, (⟨True, 27, 7, true, true, 0, []⟩ : ARow)), (1, (⟨True, 51, 4, true, true, 1, []⟩ : ARow))]) ?_ ?_ ?_ ?_) ?_
    · simp only [leV, look_cons, Nat.reduceBEq, cond_true, cond_false]; exact ⟨VLe.ptr_ (f := id) (by decide), VLe.still rfl, trivial⟩
    · exact ⟨fun _ => ⟨_, rfl, RowLe.cells (VLess.one_ (VLes.cons_ (VLe.still rfl) (VLes.cons_ (VLe.nil_ (by decide)) (VLes.cons_ (VLe.nil_ (by decide)) VLes.nil_))))⟩, fun h => by simp at h, fun h => by simp at h, fun _ => rfl, fun h => by simp at h, fun _ => rfl, trivial⟩
    · simp [wfV, AV.ids, lookR]
    · simp [wfR, AV.idsL, AV.ids, lookR]
    refine awp_ret ?_
    simp only [zz6, Nat.reduceEqDiff, ↓reduceIte]
    rw [ev, e]
    refine doneN [0, 1] (by simp [resCs, resC, S, List.getD, look_cons, lookR, F_ag25, F_sz25, F_ok25]) ?_ (by simp [flatA, flatAs, flatD, ]) (by simp [AV.ids, AV.idsL, ]) (by decide) ?_
    · simp only [List.map_cons, List.map_nil, resA, S_getD, S_mem, lookR_cons, lookR_nil, Nat.reduceLT, Nat.reduceLeDiff, look_cons, Nat.reduceBEq, cond_true, cond_false, resAll, List.getD_cons_zero, List.getD_cons_succ, List.drop_zero, List.drop_succ_cons, List.take_succ_cons, List.take_zero, F_ag25, F_sz25, F_ok25]; rfl
    · exact ⟨⟨_, rfl, trivial, rfl, rfl, rfl, rfl⟩, by simp [flatDs, flatD, tradeC], ⟨_, rfl, trivial, rfl, rfl, rfl, rfl⟩, by simp [flatDs, flatD, posC], trivial⟩
  · intro hb
    have ho : bookOk ⟨nx, ts, ps⟩ = true := bookE_ok (by simpa using hb)
    clear hb
    refine awp_skip ?_
    simp only [zz6, Nat.reduceEqDiff, ↓reduceIte]
    refine hK0 _ ?_; try clear hK0 K0
    refine awp_keepL [2, 3, 4] ?_
    simp only [zz20, zzI, look_nil, Nat.reduceBEq]
    refine awp_seq fun K0 hK0 => ?_
    refine awp_plain F_mixed [some 14, some 15, some 16, some 17, some 7] rfl ?_
    simp only [List.nil_append, List.cons_append, true_and, and_true, zz0, true_implies, Nat.reduceLT, Nat.reduceLeDiff, zzI, look_nil, Nat.reduceBEq, implies_true, zz19, zz23, F_off25_1, zzB, Nat.zero_add, Nat.reduceAdd, F_ok22, F_ag22, F_sz22, zz8, zzD, zzF, zzE, zz16, Option.some.injEq, exists_eq_left', exists_eq_left, Option.map_some, eq_self, reduceCtorEq, and_self, evS_makeFunc, mkK_func, oksL, cell1s_cons, cell1s_nil, cell1_ptr, bare_cl, ok_cl, zzG, evS_call, evC_value, evS_assign, tradesB, asE_ptr, asE_cl, asF_ptr, asF_cl, asEc_cons, asEc_nil, asD_ptr, asG_ptr, List.mem_singleton, forall_eq, List.mem_cons, List.not_mem_nil, or_false, unE_cons, unE_nil, unDs_cons, unDs_nil, Option.bind_some, Option.map_some, List.cons.injEq, D.fn.injEq, zz6, Nat.reduceEqDiff, ↓reduceIte]
    refine call_goE F_go32 (fun hG => idxC_ ts no (by omega)) (by simp [AV.ids, AV.idsL]) (by simp) ?_
    simp only [List.nil_append, List.cons_append, true_and, and_true, zz0, true_implies, Nat.reduceLT, Nat.reduceLeDiff, zzI, look_nil, Nat.reduceBEq, implies_true, zz19, zz23, F_off25_1, zzB, Nat.zero_add, Nat.reduceAdd, F_ok22, F_ag22, F_sz22, zz8, zzD, zzF, zzE, zz16, Option.some.injEq, exists_eq_left', exists_eq_left, Option.map_some, eq_self, reduceCtorEq, and_self, evS_makeFunc, mkK_func, oksL, cell1s_cons, cell1s_nil, cell1_ptr, bare_cl, ok_cl, zzG, evS_call, evC_value, evS_assign, tradesB, asE_ptr, asE_cl, asF_ptr, asF_cl, asEc_cons, asEc_nil, asD_ptr, asG_ptr, List.mem_singleton, forall_eq, List.mem_cons, List.not_mem_nil, or_false, zz9, Option.bind_some, Option.map_some, List.cons.injEq, D.fn.injEq, zz6, Nat.reduceEqDiff, ↓reduceIte, asEs_cons, asEs_nil, asE_ag, asE_d, asE_ref, asEc_cons, asEc_nil, asF_d, asF_ref, asF_ag, asGs, oksF, atsL, oksG, freeN, AV.ren, AV.renL, addRows, ORow.row, Nat.reduceMul, Nat.reduceAdd, unDs_cons, Option.bind_some, Option.map_some, forall_eq', D.sl.injEq, S_mem, Option.some.injEq, exists_eq_left', exists_eq_left, exists_eq', exists_eq, List.length_cons, zz2]
    refine hK0 _ ?_; try clear hK0 K0
    refine awp_keepL [2, 4, 7] ?_
    simp only [zz20, zzI, look_nil, Nat.reduceBEq]
    refine awp_seq fun K0 hK0 => ?_
    refine awp_seq fun K1 hK1 => ?_
    refine awp_plain F_mixed [some 18, some 19] rfl ?_
    simp only [List.nil_append, List.cons_append, true_and, and_true, zz0, true_implies, Nat.reduceLT, Nat.reduceLeDiff, zzI, look_nil, Nat.reduceBEq, implies_true, evS_move, zz21, gr_v, zz22, idxF_neg, zz6, Nat.reduceEqDiff, ↓reduceIte]
    refine hK1 _ ?_; try clear hK1 K1
    refine awp_keepL [2, 4, 7, 19] ?_
    simp only [zz20, zzI, look_nil, Nat.reduceBEq]
    refine awp_condS _ (by decide) (by simp only [look_cons, Nat.reduceBEq, cond_true, cond_false]; rfl) ?_ ?_
    · intro hb
      have han : ts.any (hit no) = false := by simpa using hb
      clear hb
      refine awp_seq fun K2 hK2 => ?_
      refine awp_plain F_mixed [some 20, none, some 5] rfl ?_
      simp only [List.nil_append, List.cons_append, true_and, and_true, zz0, true_implies, Nat.reduceLT, Nat.reduceLeDiff, zzI, look_nil, Nat.reduceBEq, implies_true, F_zero25, F_bld25, zz7, splice, Option.getD_some, List.append_nil, zz1, zzG, zzD, zz16, Option.some.injEq, exists_eq_left', exists_eq_left, Option.map_some, eq_self, reduceCtorEq, and_self, Nat.reduceAdd, Nat.zero_add, zzF, zzB, zzE, zz10, zz18, F_ok25, F_sz25, evS_assign, zz6, Nat.reduceEqDiff, ↓reduceIte]
      refine hK2 _ ?_; try clear hK2 K2
      refine awp_keepL [4, 5] ?_
      simp only [zz20, zzI, look_nil, Nat.reduceBEq]
      have e : cancelE ⟨nx, ts, ps⟩ no = 10 := by rw [cancelE_def, ho, han]; try rfl
      have ev := cancel_no (b := ⟨nx, ts, ps⟩) (no := no) (by rw [e]; first | decide | assumption)
      refine awp_le (le_SK id [0, 1] rfl (l' := [(4, .ptr 4 0 0), (5, .d (iv 10))]) (m' := [(4, (⟨True, 25, 3, true, false, 4, [[.d (.v (.int .i64 0)), .ref 0 0, .ref 1 0]]⟩ : ARow)), (0, (⟨True, 27, 7, true, true, 0, []⟩ : ARow)), (1, (⟨True, 51, 4, true, true, 1, []⟩ : ARow))]) ?_ ?_ ?_ ?_) ?_
      · simp only [leV, look_cons, Nat.reduceBEq, cond_true, cond_false]; exact ⟨VLe.ptr_ (f := id) (by decide), VLe.still rfl, trivial⟩
      · exact ⟨fun _ => ⟨_, rfl, RowLe.cells (VLess.one_ (VLes.cons_ (VLe.still rfl) (VLes.cons_ (VLe.nil_ (by decide)) (VLes.cons_ (VLe.nil_ (by decide)) VLes.nil_))))⟩, fun h => by simp at h, fun h => by simp at h, fun _ => rfl, fun h => by simp at h, fun _ => rfl, trivial⟩
      · simp [wfV, AV.ids, lookR]
      · simp [wfR, AV.idsL, AV.ids, lookR]
      refine awp_ret ?_
      simp only [zz6, Nat.reduceEqDiff, ↓reduceIte]
      rw [ev, e]
      refine doneN [0, 1] (by simp [resCs, resC, S, List.getD, look_cons, lookR, F_ag25, F_sz25, F_ok25]) ?_ (by simp [flatA, flatAs, flatD, ]) (by simp [AV.ids, AV.idsL, ]) (by decide) ?_
      · simp only [List.map_cons, List.map_nil, resA, S_getD, S_mem, lookR_cons, lookR_nil, Nat.reduceLT, Nat.reduceLeDiff, look_cons, Nat.reduceBEq, cond_true, cond_false, resAll, List.getD_cons_zero, List.getD_cons_succ, List.drop_zero, List.drop_succ_cons, List.take_succ_cons, List.take_zero, F_ag25, F_sz25, F_ok25]; rfl
      · exact ⟨⟨_, rfl, trivial, rfl, rfl, rfl, rfl⟩, by simp [flatDs, flatD, tradeC], ⟨_, rfl, trivial, rfl, rfl, rfl, rfl⟩, by simp [flatDs, flatD, posC], trivial⟩
    · intro hb
      have han : ts.any (hit no) = true := by simpa using hb
      clear hb
      obtain ⟨pre, x, post, rfl, hpa, hhx⟩ := any_split han
      have hfx := firstT_hit (post := post) hpa hhx
      have hix := idxF_hit (post := post) hpa hhx
      simp only [hix]
      have hll := legs_len2 x
      refine awp_skip ?_
      simp only [zz6, Nat.reduceEqDiff, ↓reduceIte]
      refine hK0 _ ?_; try clear hK0 K0
      refine awp_keepL [2, 4, 7] ?_
      simp only [zz20, zzI, look_nil, Nat.reduceBEq]
      refine awp_seq fun K0 hK0 => ?_
      refine awp_draw F_mixed [some 22, some 23, some 24, some 25, some 26, some 27, some 28, some 29, some 21, some 30, some 31, none, some 6] rfl (by kernel_rfl) ?_
      simp only [List.nil_append, List.cons_append, true_and, and_true, zz0, true_implies, Nat.reduceLT, Nat.reduceLeDiff, zzI, look_nil, Nat.reduceBEq, implies_true, F_ok25, F_ag25, F_sz25, zz8, zz23, zzD, Nat.reduceAdd, Nat.zero_add, zzF, zzB, zzE, zz16, Option.some.injEq, exists_eq_left', exists_eq_left, Option.map_some, eq_self, reduceCtorEq, and_self, zz19, F_off25_1, F_ok22, F_ag22, F_sz22, evS_move, evS_indexAddr, zz24, F_sl22, F_sz27, F_ok27, F_ag27, evS_call, evC_value, zz14, zz18, splice, List.append_nil, zz1, zzG, evS_assign, bookC, tradesB, poss, tradeC, D.agg.injEq, getD_mid, len_map, lt_mid, ge_mid, zz6, Nat.reduceEqDiff, ↓reduceIte]
      refine call_go F_go34 (fun hG => UndoF x) (by simp [AV.ids, AV.idsL]) (by simp) ?_
      simp only [List.nil_append, List.cons_append, true_and, and_true, zz0, true_implies, Nat.reduceLT, Nat.reduceLeDiff, zzI, look_nil, Nat.reduceBEq, implies_true, F_ok25, F_ag25, F_sz25, zz8, zz23, zzD, Nat.reduceAdd, Nat.zero_add, zzF, zzB, zzE, zz16, Option.some.injEq, exists_eq_left', exists_eq_left, Option.map_some, eq_self, reduceCtorEq, and_self, zz19, F_off25_1, F_ok22, F_ag22, F_sz22, evS_move, evS_indexAddr, zz24, F_sl22, F_sz27, F_ok27, F_ag27, evS_call, evC_value, zz14, zz18, splice, List.append_nil, zz1, zzG, evS_assign, bookC, tradesB, poss, tradeC, D.agg.injEq, getD_mid, len_map, lt_mid, ge_mid, zz6, Nat.reduceEqDiff, ↓reduceIte, atsL, oksG, freeN, AV.ren, AV.renL, addRows, ORow.row, Nat.reduceMul, Nat.reduceAdd, zz9, Option.bind_some, Option.map_some, forall_eq', D.sl.injEq, S_mem, Option.some.injEq, exists_eq_left', exists_eq_left, exists_eq', exists_eq, List.length_cons, zz2]
      refine call_go F_go25 (fun hG => add_ nx (pre ++ x :: post) ps (undo x) (by omega) (by omega) (by omega)) (by simp [AV.ids, AV.idsL]) (by simp) ?_
      simp only [List.nil_append, List.cons_append, true_and, and_true, zz0, true_implies, Nat.reduceLT, Nat.reduceLeDiff, zzI, look_nil, Nat.reduceBEq, implies_true, F_ok25, F_ag25, F_sz25, zz8, zz23, zzD, Nat.reduceAdd, Nat.zero_add, zzF, zzB, zzE, zz16, Option.some.injEq, exists_eq_left', exists_eq_left, Option.map_some, eq_self, reduceCtorEq, and_self, zz19, F_off25_1, F_ok22, F_ag22, F_sz22, evS_move, evS_indexAddr, zz24, F_sl22, F_sz27, F_ok27, F_ag27, evS_call, evC_value, zz14, zz18, splice, List.append_nil, zz1, zzG, evS_assign, bookC, tradesB, poss, tradeC, D.agg.injEq, getD_mid, len_map, lt_mid, ge_mid, zz6, Nat.reduceEqDiff, ↓reduceIte, atsL, oksG, freeN, AV.ren, AV.renL, addRows, ORow.row, Nat.reduceMul, Nat.reduceAdd, zz9, Option.bind_some, Option.map_some, forall_eq', D.sl.injEq, S_mem, Option.some.injEq, exists_eq_left', exists_eq_left, exists_eq', exists_eq, List.length_cons, zz2]
      refine hK0 _ ?_; try clear hK0 K0
      refine awp_keepL [2, 4, 6, 7] ?_
      simp only [zz20, zzI, look_nil, Nat.reduceBEq]
      refine awp_seq fun K0 hK0 => ?_
      refine awp_seq fun K1 hK1 => ?_
      refine awp_plain F_mixed [some 32, some 33] rfl ?_
      simp only [List.nil_append, List.cons_append, true_and, and_true, zz0, true_implies, Nat.reduceLT, Nat.reduceLeDiff, zzI, look_nil, Nat.reduceBEq, implies_true, evS_move, zz21, gr_v, zz28, zz6, Nat.reduceEqDiff, ↓reduceIte]
      refine hK1 _ ?_; try clear hK1 K1
      refine awp_keepL [2, 4, 6, 7, 33] ?_
      simp only [zz20, zzI, look_nil, Nat.reduceBEq]
      refine awp_condS _ (by decide) (by simp only [look_cons, Nat.reduceBEq, cond_true, cond_false]; rfl) ?_ ?_
      · intro hb
        have he : addE ⟨nx, (pre ++ x :: post), ps⟩ (undo x) ≠ 0 := by simpa using hb
        clear hb
        refine awp_seq fun K2 hK2 => ?_
        refine awp_plain F_mixed [some 34, some 35, none, some 5] rfl ?_
        simp only [List.nil_append, List.cons_append, true_and, and_true, zz0, true_implies, Nat.reduceLT, Nat.reduceLeDiff, zzI, look_nil, Nat.reduceBEq, implies_true, F_zero25, F_bld25, zz7, splice, Option.getD_some, List.append_nil, zz1, zzG, zzD, zz16, Option.some.injEq, exists_eq_left', exists_eq_left, Option.map_some, eq_self, reduceCtorEq, and_self, Nat.reduceAdd, Nat.zero_add, zzF, zzB, zzE, zz10, evS_move, zz18, F_ok25, F_sz25, evS_assign, zz6, Nat.reduceEqDiff, ↓reduceIte]
        refine hK2 _ ?_; try clear hK2 K2
        refine awp_keepL [4, 5] ?_
        simp only [zz20, zzI, look_nil, Nat.reduceBEq]
        have e : cancelE ⟨nx, (pre ++ x :: post), ps⟩ no = addE ⟨nx, (pre ++ x :: post), ps⟩ (undo x) := by rw [cancelE_def, ho, han, hfx]; try rfl
        have ev := cancel_no (b := ⟨nx, (pre ++ x :: post), ps⟩) (no := no) (by rw [e]; first | decide | assumption)
        refine awp_le (le_SK id [0, 1] rfl (l' := [(4, .ptr 4 0 0), (5, .d (iv (addE ⟨nx, (pre ++ x :: post), ps⟩ (undo x))))]) (m' := [(4, (⟨True, 25, 3, true, false, 4, [[.d (.v (.int .i64 0)), .ref 0 0, .ref 1 0]]⟩ : ARow)), (0, (⟨True, 27, 7, true, true, 0, []⟩ : ARow)), (1, (⟨True, 51, 4, true, true, 1, []⟩ : ARow))]) ?_ ?_ ?_ ?_) ?_
        · simp only [leV, look_cons, Nat.reduceBEq, cond_true, cond_false]; exact ⟨VLe.ptr_ (f := id) (by decide), VLe.still rfl, trivial⟩
        · exact ⟨fun _ => ⟨_, rfl, RowLe.cells (VLess.one_ (VLes.cons_ (VLe.still rfl) (VLes.cons_ (VLe.nil_ (by decide)) (VLes.cons_ (VLe.nil_ (by decide)) VLes.nil_))))⟩, fun h => by simp at h, fun h => by simp at h, fun _ => rfl, fun h => by simp at h, fun _ => rfl, trivial⟩
        · simp [wfV, AV.ids, lookR]
        · simp [wfR, AV.idsL, AV.ids, lookR]
        refine awp_ret ?_
        simp only [zz6, Nat.reduceEqDiff, ↓reduceIte]
        rw [ev, e]
        refine doneN [0, 1] (by simp [resCs, resC, S, List.getD, look_cons, lookR, F_ag25, F_sz25, F_ok25]) ?_ (by simp [flatA, flatAs, flatD, ]) (by simp [AV.ids, AV.idsL, ]) (by decide) ?_
        · simp only [List.map_cons, List.map_nil, resA, S_getD, S_mem, lookR_cons, lookR_nil, Nat.reduceLT, Nat.reduceLeDiff, look_cons, Nat.reduceBEq, cond_true, cond_false, resAll, List.getD_cons_zero, List.getD_cons_succ, List.drop_zero, List.drop_succ_cons, List.take_succ_cons, List.take_zero, F_ag25, F_sz25, F_ok25]; rfl
        · exact ⟨⟨_, rfl, trivial, rfl, rfl, rfl, rfl⟩, by simp [flatDs, flatD, tradeC], ⟨_, rfl, trivial, rfl, rfl, rfl, rfl⟩, by simp [flatDs, flatD, posC], trivial⟩
      · intro hb
        have he : addE ⟨nx, (pre ++ x :: post), ps⟩ (undo x) = 0 := by simpa using hb
        clear hb
        have hav := add_val he
        have hav1 : (addV ⟨nx, (pre ++ x :: post), ps⟩ (undo x)).next = nx := by rw [hav]
        have hav2 : (addV ⟨nx, (pre ++ x :: post), ps⟩ (undo x)).trades = (pre ++ x :: post) := by rw [hav]
        simp only [hav1, hav2, avC_map]
        refine awp_skip ?_
        simp only [zz6, Nat.reduceEqDiff, ↓reduceIte]
        refine hK0 _ ?_; try clear hK0 K0
        refine awp_keepL [2, 4, 7] ?_
        simp only [zz20, zzI, look_nil, Nat.reduceBEq]
        refine awp_seq fun K0 hK0 => ?_
        refine awp_plain F_mixed [some 36, some 37, some 38, some 39, some 40, none] rfl ?_
        simp only [List.nil_append, List.cons_append, true_and, and_true, zz0, true_implies, Nat.reduceLT, Nat.reduceLeDiff, zzI, look_nil, Nat.reduceBEq, implies_true, zz19, zz23, F_off25_1, zzB, Nat.zero_add, Nat.reduceAdd, F_ok22, F_ag22, F_sz22, zz8, zzD, zzF, zzE, zz16, Option.some.injEq, exists_eq_left', exists_eq_left, Option.map_some, eq_self, reduceCtorEq, and_self, evS_move, evS_indexAddr, zz24, F_sl22, F_sz27, F_off27_6, zz18, F_ok4, F_sz4, splice, List.append_nil, zz1, zzG, getD_mid, len_map, lt_mid, ge_mid, lt_midN, set_mid, avC, tradeC, List.map_cons, zz6, Nat.reduceEqDiff, ↓reduceIte]
        refine hK0 _ ?_; try clear hK0 K0
        refine awp_keepL [2, 4] ?_
        simp only [zz20, zzI, look_nil, Nat.reduceBEq]
        refine awp_seq fun K0 hK0 => ?_
        refine awp_plain F_mixed [some 41, none, some 5] rfl ?_
        simp only [List.nil_append, List.cons_append, true_and, and_true, zz0, true_implies, Nat.reduceLT, Nat.reduceLeDiff, zzI, look_nil, Nat.reduceBEq, implies_true, F_ok25, F_ag25, F_sz25, zz8, zz23, zzD, Nat.reduceAdd, Nat.zero_add, zzF, zzB, zzE, zz16, Option.some.injEq, exists_eq_left', exists_eq_left, Option.map_some, eq_self, reduceCtorEq, and_self, zz18, splice, List.append_nil, zz1, zzG, evS_assign, zz6, Nat.reduceEqDiff, ↓reduceIte]
        refine hK0 _ ?_; try clear hK0 K0
        refine awp_keepL [4, 5] ?_
        simp only [zz20, zzI, look_nil, Nat.reduceBEq]
        have e : cancelE ⟨nx, (pre ++ x :: post), ps⟩ no = 0 := by rw [cancelE_def, ho, han, hfx, he]; rfl
        have ev := cancel_val e
        simp only [markOff_hit hpa hhx, hfx] at ev
        refine awp_le (le_SK id [] rfl (l' := [(4, .ptr 4 0 0), (5, .d (iv 0))]) (m' := [(4, (⟨True, 25, 3, true, false, 4, [[.d (iv nx), .ref 30000 (pre ++ offTr x :: post).length, .ref 30001 (addV ⟨nx, (pre ++ x :: post), ps⟩ (undo x)).poss.length]]⟩ : ARow)), (30000, (⟨True, 27, 7, true, true, 30000, ((pre ++ offTr x :: post).map tradeC).map (·.map .d)⟩ : ARow)), (30001, (⟨True, 51, 4, true, true, 30001, ((addV ⟨nx, (pre ++ x :: post), ps⟩ (undo x)).poss.map posC).map (·.map .d)⟩ : ARow))]) ?_ ?_ ?_ ?_) ?_
        · simp only [leV, look_cons, Nat.reduceBEq, cond_true, cond_false]; exact ⟨(by first | exact VLe.still rfl | exact VLe.nil_ (by decide) | exact VLe.nild_ | exact VLe.refl _ | exact VLe.ptrE (by simp) (by rfl) | exact VLe.refE (by simp) (by rfl) (by first | rfl | (simp; done) | (simp; omega)) | exact VLe.dE (by first | rfl | simp)), (by first | exact VLe.still rfl | exact VLe.nil_ (by decide) | exact VLe.nild_ | exact VLe.refl _ | exact VLe.ptrE (by simp) (by rfl) | exact VLe.refE (by simp) (by rfl) (by first | rfl | (simp; done) | (simp; omega)) | exact VLe.dE (by first | rfl | simp)), trivial⟩
        · exact ⟨fun _ => ⟨_, rfl, RowLe.cells (VLess.one_ (VLes.cons_ (VLe.dE rfl) (VLes.cons_ (VLe.refE (by simp) rfl (by simp)) (VLes.cons_ (VLe.refE (by simp) rfl (rfl)) (VLes.nil_)))))⟩, fun h => by simp at h, fun _ => ⟨_, rfl, RowLe.same (by rw [avC_map, List.map_append, List.map_cons]; rfl) (by
            intro e he
            rcases List.mem_append.1 he with he | he
            · exact idsL_avC _ _ e he
            · rcases List.mem_cons.1 he with rfl | he
              · simp [AV.idsL, AV.ids]
              · exact idsL_avC _ _ e he)⟩, fun h => by simp at h, fun _ => ⟨_, rfl, RowLe.same (avC_map _ _) (idsL_avC _ _)⟩, fun h => by simp at h, trivial⟩
        · simp [wfV, AV.ids, AV.idsL, lookR, grow]
        · exact ⟨by simp [AV.idsL, AV.ids, lookR], wf_data _ _, wf_data _ _, trivial⟩
        refine awp_ret ?_
        simp only [zz6, Nat.reduceEqDiff, ↓reduceIte]
        rw [ev, e]
        refine doneN [30000, 30001] (by simp [resCs, resC, S, List.getD, look_cons, lookR, F_ag25, F_sz25, F_ok25]) ?_ (by simp [flatA, flatAs, flatD, ]) (by simp [AV.ids, AV.idsL, ]) (by decide) ?_
        · simp only [List.map_cons, List.map_nil, resA, S_getD, S_mem, lookR_cons, lookR_nil, Nat.reduceLT, Nat.reduceLeDiff, look_cons, Nat.reduceBEq, cond_true, cond_false, resAll, List.getD_cons_zero, List.getD_cons_succ, List.drop_zero, List.drop_succ_cons, List.take_succ_cons, List.take_zero, F_ag25, F_sz25, F_ok25]; rfl
        · exact ⟨⟨_, rfl, trivial, rfl, rfl, rfl, rfl⟩, tr_flat _, ⟨_, rfl, trivial, rfl, rfl, rfl, rfl⟩, by simp [flatDs, flatD, posC], trivial⟩
theorem cancelF (b : BookV) (no : Int) (ht : b.trades.length ≤ 150000) (hp : b.poss.length ≤ 150000) : ACalls Try.prog 13 [.agg (bookC b), iv no] [] (.tp [.d (.agg (bookC (cancelV b no))), .d (iv (cancelE b no))]) := by
  obtain ⟨nx, ts, ps⟩ := b
  exact (cancel_ nx ts ps no ht hp).freezeT (by simp [frzOk, frzOkL])
theorem correct_ (nx : Int) (ts : List TradeV) (ps : List PosV) (no q p : Int) (ht : ts.length ≤ 150000) (hp : ps.length ≤ 150000) : ACalls Try.prog 14 [.agg (bookC ⟨nx, ts, ps⟩), iv no, iv q, iv p] [⟨27, 7, (correctV ⟨nx, ts, ps⟩ no q p).trades.map tradeC⟩, ⟨51, 4, (correctV ⟨nx, ts, ps⟩ no q p).poss.map posC⟩] (.tp [.ag [.d (iv (correctV ⟨nx, ts, ps⟩ no q p).next), .ref 0 (correctV ⟨nx, ts, ps⟩ no q p).trades.length, .ref 1 (correctV ⟨nx, ts, ps⟩ no q p).poss.length], .d (iv (correctN ⟨nx, ts, ps⟩ no q p)), .d (iv (correctE ⟨nx, ts, ps⟩ no q p))]) := by
  refine acalls_S (rs := [.cell 8 25, .tmp 9, .tmp 10]) Try.func14 rfl rfl 43 [(0, .d (.agg (bookC ⟨nx, ts, ps⟩))), (1, .d (iv no)), (2, .d (iv q)), (3, .d (iv p))] rfl (by simp) rfl ?_
  refine awp_seq fun K0 hK0 => ?_
  refine awp_plain F_mixed [some 4, some 5, some 8, some 9, some 10] rfl ?_
  simp only [List.nil_append, List.cons_append, true_and, and_true, zz0, true_implies, Nat.reduceLT, Nat.reduceLeDiff, zzI, look_nil, Nat.reduceBEq, implies_true, zz35, newRow1, zz1, zzG, zzD, zz16, Option.some.injEq, exists_eq_left', exists_eq_left, Option.map_some, eq_self, reduceCtorEq, and_self, Nat.reduceAdd, Nat.zero_add, zzF, zzB, zzE, zz32, F_zero25, zz10, evS_assign, bookC, tradesB, poss, zz6, Nat.reduceEqDiff, ↓reduceIte]
  refine hK0 _ ?_; try clear hK0 K0
  refine awp_keepL [2, 3, 4, 5, 8] ?_
  simp only [zz20, zzI, look_nil, Nat.reduceBEq]
  refine awp_seq fun K0 hK0 => ?_
  refine awp_plain F_mixed [some 15, some 16, some 17, some 14, some 18, some 19, none, some 11] rfl ?_
  simp only [List.nil_append, List.cons_append, true_and, and_true, zz0, true_implies, Nat.reduceLT, Nat.reduceLeDiff, zzI, look_nil, Nat.reduceBEq, implies_true, F_ok25, F_ag25, F_sz25, zz8, zz23, zzD, Nat.reduceAdd, Nat.zero_add, zzF, zzB, zzE, zz16, Option.some.injEq, exists_eq_left', exists_eq_left, Option.map_some, eq_self, reduceCtorEq, and_self, F_ok3, F_ag3, F_sz3, evS_call, evC_value, evS_move, zz14, zz18, splice, List.append_nil, zz1, zzG, evS_assign, bookC, tradesB, poss, D.agg.injEq, zz6, Nat.reduceEqDiff, ↓reduceIte]
  refine call_go F_go13 (fun hG => cancelF ⟨nx, ts, ps⟩ no (by simp only; omega) (by simp only; omega)) (by simp [AV.ids, AV.idsL]) (by simp) ?_
  simp only [List.nil_append, List.cons_append, true_and, and_true, zz0, true_implies, Nat.reduceLT, Nat.reduceLeDiff, zzI, look_nil, Nat.reduceBEq, implies_true, F_ok25, F_ag25, F_sz25, zz8, zz23, zzD, Nat.reduceAdd, Nat.zero_add, zzF, zzB, zzE, zz16, Option.some.injEq, exists_eq_left', exists_eq_left, Option.map_some, eq_self, reduceCtorEq, and_self, F_ok3, F_ag3, F_sz3, evS_call, evC_value, evS_move, zz14, zz18, splice, List.append_nil, zz1, zzG, evS_assign, bookC, tradesB, poss, D.agg.injEq, zz6, Nat.reduceEqDiff, ↓reduceIte, atsL, oksG, freeN, AV.ren, AV.renL, addRows, ORow.row, Nat.reduceMul, Nat.reduceAdd, zz9, Option.bind_some, Option.map_some, forall_eq', D.sl.injEq, S_mem, Option.some.injEq, exists_eq_left', exists_eq_left, exists_eq', exists_eq, List.length_cons, zz2]
  refine hK0 _ ?_; try clear hK0 K0
  refine awp_keepL [2, 3, 4, 5, 8, 11] ?_
  simp only [zz20, zzI, look_nil, Nat.reduceBEq]
  refine awp_seq fun K0 hK0 => ?_
  refine awp_seq fun K1 hK1 => ?_
  refine awp_plain F_mixed [some 20, some 21] rfl ?_
  simp only [List.nil_append, List.cons_append, true_and, and_true, zz0, true_implies, Nat.reduceLT, Nat.reduceLeDiff, zzI, look_nil, Nat.reduceBEq, implies_true, evS_move, zz21, gr_v, zz28, zz6, Nat.reduceEqDiff, ↓reduceIte]
  refine hK1 _ ?_; try clear hK1 K1
  refine awp_keepL [2, 3, 4, 5, 8, 11, 21] ?_
  simp only [zz20, zzI, look_nil, Nat.reduceBEq]
  refine awp_condS _ (by decide) (by simp only [look_cons, Nat.reduceBEq, cond_true, cond_false]; rfl) ?_ ?_
  · intro hb
    have he : cancelE ⟨nx, ts, ps⟩ no ≠ 0 := by simpa using hb
    clear hb
    obtain ⟨e1, e2, e3⟩ := correct_no (q := q) (p := p) he
    refine awp_seq fun K2 hK2 => ?_
    refine awp_plain F_mixed [some 22, some 23, none, some 9, some 10] rfl ?_
    simp only [List.nil_append, List.cons_append, true_and, and_true, zz0, true_implies, Nat.reduceLT, Nat.reduceLeDiff, zzI, look_nil, Nat.reduceBEq, implies_true, F_zero25, F_bld25, zz7, splice, Option.getD_some, List.append_nil, zz1, zzG, zzD, zz16, Option.some.injEq, exists_eq_left', exists_eq_left, Option.map_some, eq_self, reduceCtorEq, and_self, Nat.reduceAdd, Nat.zero_add, zzF, zzB, zzE, zz10, evS_move, zz18, F_ok25, F_sz25, evS_assign, zz6, Nat.reduceEqDiff, ↓reduceIte]
    refine hK2 _ ?_; try clear hK2 K2
    refine awp_keepL [8, 9, 10] ?_
    simp only [zz20, zzI, look_nil, Nat.reduceBEq]
    refine awp_le (le_SK id [0, 1] rfl (l' := [(8, .ptr 8 0 0), (9, .d (iv 0)), (10, .d (iv (cancelE ⟨nx, ts, ps⟩ no)))]) (m' := [(8, (⟨True, 25, 3, true, false, 8, [[.d (.v (.int .i64 0)), .ref 0 0, .ref 1 0]]⟩ : ARow)), (0, (⟨True, 27, 7, true, true, 0, []⟩ : ARow)), (1, (⟨True, 51, 4, true, true, 1, []⟩ : ARow))]) ?_ ?_ ?_ ?_) ?_
    · simp only [leV, look_cons, Nat.reduceBEq, cond_true, cond_false]; exact ⟨VLe.ptr_ (f := id) (by decide), VLe.still rfl, VLe.still rfl, trivial⟩
    · exact ⟨fun _ => ⟨_, rfl, RowLe.cells (VLess.one_ (VLes.cons_ (VLe.still rfl) (VLes.cons_ (VLe.nil_ (by decide)) (VLes.cons_ (VLe.nil_ (by decide)) VLes.nil_))))⟩, fun h => by simp at h, fun h => by simp at h, fun _ => rfl, fun h => by simp at h, fun _ => rfl, trivial⟩
    · simp [wfV, AV.ids, lookR]
    · simp [wfR, AV.idsL, AV.ids, lookR]
    refine awp_ret ?_
    simp only [zz6, Nat.reduceEqDiff, ↓reduceIte]
    rw [e1, e2, e3]
    refine doneN [0, 1] (by simp [resCs, resC, S, List.getD, look_cons, lookR, F_ag25, F_sz25, F_ok25]) ?_ (by simp [flatA, flatAs, flatD, ]) (by simp [AV.ids, AV.idsL, ]) (by decide) ?_
    · simp only [List.map_cons, List.map_nil, resA, S_getD, S_mem, lookR_cons, lookR_nil, Nat.reduceLT, Nat.reduceLeDiff, look_cons, Nat.reduceBEq, cond_true, cond_false, resAll, List.getD_cons_zero, List.getD_cons_succ, List.drop_zero, List.drop_succ_cons, List.take_succ_cons, List.take_zero, F_ag25, F_sz25, F_ok25]; rfl
    · exact ⟨⟨_, rfl, trivial, rfl, rfl, rfl, rfl⟩, by simp [flatDs, flatD, tradeC], ⟨_, rfl, trivial, rfl, rfl, rfl, rfl⟩, by simp [flatDs, flatD, posC], trivial⟩
  · intro hb
    have he : cancelE ⟨nx, ts, ps⟩ no = 0 := by simpa using hb
    clear hb
    obtain ⟨e1, e2, e3⟩ := correct_val (q := q) (p := p) he
    obtain ⟨A, y, D_, hAC, hA, hy⟩ := any_split (noIs_any he)
    have hix : idxF (noIs no) (cancelV ⟨nx, ts, ps⟩ no).trades = (A.length : Int) := by rw [hAC]; exact idxF_hit hA hy
    have hfy : firstT (noIs no) (cancelV ⟨nx, ts, ps⟩ no).trades = y := by rw [hAC]; exact firstT_hit hA hy
    have hcl := cancel_len ⟨nx, ts, ps⟩ no
    simp only at hcl
    have gy : ((cancelV ⟨nx, ts, ps⟩ no).trades.map tradeC).getD A.length [] = [iv y.no, iv y.buyer, iv y.seller, iv y.inst, iv y.qty, iv y.price, .v (.bool y.gone)] := by
      rw [hAC, List.map_append]; exact gd_mid' (A := A.map tradeC) _ _ (by simp)
    have by_ := ltI (show A.length < (cancelV ⟨nx, ts, ps⟩ no).trades.length by rw [hAC]; simp)
    have hct : correctT ⟨nx, ts, ps⟩ no q p = chg y q p := by rw [correctT, hfy]
    refine awp_skip ?_
    simp only [zz6, Nat.reduceEqDiff, ↓reduceIte]
    refine hK0 _ ?_; try clear hK0 K0
    refine awp_keepL [2, 3, 4, 5, 8] ?_
    simp only [zz20, zzI, look_nil, Nat.reduceBEq]
    refine awp_seq fun K0 hK0 => ?_
    refine awp_plain F_mixed [some 24, some 25, some 26, some 27, some 12] rfl ?_
    simp only [List.nil_append, List.cons_append, true_and, and_true, zz0, true_implies, Nat.reduceLT, Nat.reduceLeDiff, zzI, look_nil, Nat.reduceBEq, implies_true, zz19, zz23, F_off25_1, zzB, Nat.zero_add, Nat.reduceAdd, F_ok22, F_ag22, F_sz22, zz8, zzD, zzF, zzE, zz16, Option.some.injEq, exists_eq_left', exists_eq_left, Option.map_some, eq_self, reduceCtorEq, and_self, evS_makeFunc, mkK_func, oksL, cell1s_cons, cell1s_nil, cell1_ptr, bare_cl, ok_cl, zzG, evS_call, evC_value, evS_assign, tradesB, asE_ptr, asE_cl, asF_ptr, asF_cl, asEc_cons, asEc_nil, asD_ptr, asG_ptr, List.mem_singleton, forall_eq, List.mem_cons, List.not_mem_nil, or_false, unE_cons, unE_nil, unDs_cons, unDs_nil, Option.bind_some, Option.map_some, List.cons.injEq, D.fn.injEq, zz6, Nat.reduceEqDiff, ↓reduceIte]
    refine call_goE F_go32 (fun hG => idxN_ (cancelV ⟨nx, ts, ps⟩ no).trades no (by omega)) (by simp [AV.ids, AV.idsL]) (by simp) ?_
    simp only [List.nil_append, List.cons_append, true_and, and_true, zz0, true_implies, Nat.reduceLT, Nat.reduceLeDiff, zzI, look_nil, Nat.reduceBEq, implies_true, zz19, zz23, F_off25_1, zzB, Nat.zero_add, Nat.reduceAdd, F_ok22, F_ag22, F_sz22, zz8, zzD, zzF, zzE, zz16, Option.some.injEq, exists_eq_left', exists_eq_left, Option.map_some, eq_self, reduceCtorEq, and_self, evS_makeFunc, mkK_func, oksL, cell1s_cons, cell1s_nil, cell1_ptr, bare_cl, ok_cl, zzG, evS_call, evC_value, evS_assign, tradesB, asE_ptr, asE_cl, asF_ptr, asF_cl, asEc_cons, asEc_nil, asD_ptr, asG_ptr, List.mem_singleton, forall_eq, List.mem_cons, List.not_mem_nil, or_false, zz9, Option.bind_some, Option.map_some, List.cons.injEq, D.fn.injEq, zz6, Nat.reduceEqDiff, ↓reduceIte, asEs_cons, asEs_nil, asE_ag, asE_d, asE_ref, asEc_cons, asEc_nil, asF_d, asF_ref, asF_ag, asGs, oksF, atsL, oksG, freeN, AV.ren, AV.renL, addRows, ORow.row, Nat.reduceMul, Nat.reduceAdd, unDs_cons, Option.bind_some, Option.map_some, forall_eq', D.sl.injEq, S_mem, Option.some.injEq, exists_eq_left', exists_eq_left, exists_eq', exists_eq, List.length_cons, zz2]
    refine hK0 _ ?_; try clear hK0 K0
    refine awp_keepL [2, 3, 4, 8, 12] ?_
    simp only [zz20, zzI, look_nil, Nat.reduceBEq]
    refine awp_seq fun K0 hK0 => ?_
    refine awp_plain F_mixed [some 28, some 29, some 30, some 31, some 32, some 13, none] rfl ?_
    simp only [List.nil_append, List.cons_append, true_and, and_true, zz0, true_implies, Nat.reduceLT, Nat.reduceLeDiff, zzI, look_nil, Nat.reduceBEq, implies_true, zz19, zz23, F_off25_1, zzB, Nat.zero_add, Nat.reduceAdd, F_ok22, F_ag22, F_sz22, zz8, zzD, zzF, zzE, zz16, Option.some.injEq, exists_eq_left', exists_eq_left, Option.map_some, eq_self, reduceCtorEq, and_self, evS_move, evS_indexAddr, zz24, F_sl22, F_sz27, F_ok27, F_ag27, zz32, newRow1, F_zero27, zz10, zz18, splice, List.append_nil, zz1, zzG, hix, gy, by_, ge0, Int.toNat_natCast, len_map, zz6, Nat.reduceEqDiff, ↓reduceIte]
    refine hK0 _ ?_; try clear hK0 K0
    refine awp_keepL [2, 3, 4, 8, 13] ?_
    simp only [zz20, zzI, look_nil, Nat.reduceBEq]
    refine awp_seq fun K0 hK0 => ?_
    refine awp_plain F_mixed [some 33, some 34, some 35, none, some 36, none] rfl ?_
    simp only [List.nil_append, List.cons_append, true_and, and_true, zz0, true_implies, Nat.reduceLT, Nat.reduceLeDiff, zzI, look_nil, Nat.reduceBEq, implies_true, evS_move, zz19, zz23, F_off27_4, zzB, Nat.zero_add, Nat.reduceAdd, zz18, F_ok3, F_sz3, splice, List.append_nil, zzD, zzF, zzE, zz16, Option.some.injEq, exists_eq_left', exists_eq_left, Option.map_some, eq_self, reduceCtorEq, and_self, zz1, zzG, F_off27_5, zz6, Nat.reduceEqDiff, ↓reduceIte]
    refine hK0 _ ?_; try clear hK0 K0
    refine awp_keepL [4, 8, 13] ?_
    simp only [zz20, zzI, look_nil, Nat.reduceBEq]
    refine awp_seq fun K0 hK0 => ?_
    refine awp_plain F_mixed [some 37, some 38, some 39, some 40, some 41, some 42, none, some 9, some 10] rfl ?_
    simp only [List.nil_append, List.cons_append, true_and, and_true, zz0, true_implies, Nat.reduceLT, Nat.reduceLeDiff, zzI, look_nil, Nat.reduceBEq, implies_true, F_ok25, F_ag25, F_sz25, zz8, zz23, zzD, Nat.reduceAdd, Nat.zero_add, zzF, zzB, zzE, zz16, Option.some.injEq, exists_eq_left', exists_eq_left, Option.map_some, eq_self, reduceCtorEq, and_self, F_ok27, F_ag27, F_sz27, evS_call, evC_value, zz14, zz18, splice, List.append_nil, zz1, zzG, evS_assign, bookC, tradesB, poss, tradeC, chg, D.agg.injEq, zz6, Nat.reduceEqDiff, ↓reduceIte]
    refine call_go F_go9 (fun hG => enter_ (cancelV ⟨nx, ts, ps⟩ no).next (cancelV ⟨nx, ts, ps⟩ no).trades (cancelV ⟨nx, ts, ps⟩ no).poss (chg y q p) (by omega) (by omega)) (by simp [AV.ids, AV.idsL]) (by simp) ?_
    simp only [List.nil_append, List.cons_append, true_and, and_true, zz0, true_implies, Nat.reduceLT, Nat.reduceLeDiff, zzI, look_nil, Nat.reduceBEq, implies_true, F_ok25, F_ag25, F_sz25, zz8, zz23, zzD, Nat.reduceAdd, Nat.zero_add, zzF, zzB, zzE, zz16, Option.some.injEq, exists_eq_left', exists_eq_left, Option.map_some, eq_self, reduceCtorEq, and_self, F_ok27, F_ag27, F_sz27, evS_call, evC_value, zz14, zz18, splice, List.append_nil, zz1, zzG, evS_assign, bookC, tradesB, poss, tradeC, chg, D.agg.injEq, zz6, Nat.reduceEqDiff, ↓reduceIte, atsL, oksG, freeN, AV.ren, AV.renL, addRows, ORow.row, Nat.reduceMul, Nat.reduceAdd, zz9, Option.bind_some, Option.map_some, forall_eq', D.sl.injEq, S_mem, Option.some.injEq, exists_eq_left', exists_eq_left, exists_eq', exists_eq, List.length_cons, zz2]
    refine hK0 _ ?_; try clear hK0 K0
    refine awp_keepL [8, 9, 10] ?_
    simp only [zz20, zzI, look_nil, Nat.reduceBEq]
    refine awp_ret ?_
    simp only [zz6, Nat.reduceEqDiff, ↓reduceIte]
    rw [e1, e2, e3, hct]
    refine doneN [40000, 40001] (by simp [resCs, resC, S, List.getD, look_cons, lookR, F_ag25, F_sz25, F_ok25]) ?_ (by simp [flatA, flatAs, flatD, ]) (by simp [AV.ids, AV.idsL, ]) (by decide) ?_
    · simp only [List.map_cons, List.map_nil, resA, S_getD, S_mem, lookR_cons, lookR_nil, Nat.reduceLT, Nat.reduceLeDiff, look_cons, Nat.reduceBEq, cond_true, cond_false, resAll, List.getD_cons_zero, List.getD_cons_succ, List.drop_zero, List.drop_succ_cons, List.take_succ_cons, List.take_zero, F_ag25, F_sz25, F_ok25]; rfl
    · exact ⟨⟨_, rfl, trivial, rfl, rfl, rfl, rfl⟩, by simp [flatDs, flatD, tradeC], ⟨_, rfl, trivial, rfl, rfl, rfl, rfl⟩, by simp [flatDs, flatD, posC], trivial⟩
theorem correctF (b : BookV) (no q p : Int) (ht : b.trades.length ≤ 150000) (hp : b.poss.length ≤ 150000) : ACalls Try.prog 14 [.agg (bookC b), iv no, iv q, iv p] [] (.tp [.d (.agg (bookC (correctV b no q p))), .d (iv (correctN b no q p)), .d (iv (correctE b no q p))]) := by
  obtain ⟨nx, ts, ps⟩ := b
  exact (correct_ nx ts ps no q p ht hp).freezeT (by simp [frzOk, frzOkL])
theorem clear_ (nx : Int) (ts : List TradeV) (ps : List PosV) (ht : ts.length ≤ 150000) (hp : ps.length ≤ 150000) : ACalls Try.prog 15 [.agg (bookC ⟨nx, ts, ps⟩)] [⟨27, 7, []⟩, ⟨51, 4, ps.map posC⟩] (.ag [.d (iv nx), .ref 0 0, .ref 1 ps.length]) := by
  refine acalls_S (rs := [.cell 2 25]) Try.func15 rfl rfl 7 [(0, .d (.agg (bookC ⟨nx, ts, ps⟩)))] rfl (by simp) rfl ?_
  refine awp_seq fun K0 hK0 => ?_
  refine awp_plain F_mixed [some 1, some 2] rfl ?_
  simp only [List.nil_append, List.cons_append, true_and, and_true, zz0, true_implies, Nat.reduceLT, Nat.reduceLeDiff, zzI, look_nil, Nat.reduceBEq, implies_true, zz35, newRow1, zz1, zzG, zzD, zz16, Option.some.injEq, exists_eq_left', exists_eq_left, Option.map_some, eq_self, reduceCtorEq, and_self, Nat.reduceAdd, Nat.zero_add, zzF, zzB, zzE, zz32, F_zero25, zz10, bookC, tradesB, poss, zz6, Nat.reduceEqDiff, ↓reduceIte]
  refine hK0 _ ?_; try clear hK0 K0
  refine awp_keepL [1, 2] ?_
  simp only [zz20, zzI, look_nil, Nat.reduceBEq]
  refine awp_seq fun K0 hK0 => ?_
  refine awp_plain F_mixed [some 3, some 4, none] rfl ?_
  simp only [List.nil_append, List.cons_append, true_and, and_true, zz0, true_implies, Nat.reduceLT, Nat.reduceLeDiff, zzI, look_nil, Nat.reduceBEq, implies_true, F_ok25, F_ag25, F_sz25, zz8, zz23, zzD, Nat.reduceAdd, Nat.zero_add, zzF, zzB, zzE, zz16, Option.some.injEq, exists_eq_left', exists_eq_left, Option.map_some, eq_self, reduceCtorEq, and_self, evS_call, evC_value, zz18, splice, List.append_nil, zz1, zzG, bookC, tradesB, poss, D.agg.injEq, zz6, Nat.reduceEqDiff, ↓reduceIte]
  refine call_go F_go36 (fun hG => twinB_ nx ts ps (by omega) (by omega)) (by simp [AV.ids, AV.idsL]) (by simp) ?_
  simp only [List.nil_append, List.cons_append, true_and, and_true, zz0, true_implies, Nat.reduceLT, Nat.reduceLeDiff, zzI, look_nil, Nat.reduceBEq, implies_true, F_ok25, F_ag25, F_sz25, zz8, zz23, zzD, Nat.reduceAdd, Nat.zero_add, zzF, zzB, zzE, zz16, Option.some.injEq, exists_eq_left', exists_eq_left, Option.map_some, eq_self, reduceCtorEq, and_self, evS_call, evC_value, zz18, splice, List.append_nil, zz1, zzG, bookC, tradesB, poss, D.agg.injEq, zz6, Nat.reduceEqDiff, ↓reduceIte, atsL, oksG, freeN, AV.ren, AV.renL, addRows, ORow.row, Nat.reduceMul, Nat.reduceAdd, zz9, Option.bind_some, Option.map_some, forall_eq', D.sl.injEq, S_mem, Option.some.injEq, exists_eq_left', exists_eq_left, exists_eq', exists_eq, List.length_cons, zz2]
  refine hK0 _ ?_; try clear hK0 K0
  refine awp_keepL [1, 2] ?_
  simp only [zz20, zzI, look_nil, Nat.reduceBEq]
  refine awp_seq fun K0 hK0 => ?_
  refine awp_plain F_mixed [some 5, none] rfl ?_
  simp only [List.nil_append, List.cons_append, true_and, and_true, zz0, true_implies, Nat.reduceLT, Nat.reduceLeDiff, zzI, look_nil, Nat.reduceBEq, implies_true, zz19, zz23, F_off25_1, zzB, Nat.zero_add, Nat.reduceAdd, zz18, F_ok22, F_sz22, splice, List.append_nil, zzD, zzF, zzE, zz16, Option.some.injEq, exists_eq_left', exists_eq_left, Option.map_some, eq_self, reduceCtorEq, and_self, zz1, zzG, zz6, Nat.reduceEqDiff, ↓reduceIte]
  refine hK0 _ ?_; try clear hK0 K0
  refine awp_keepL [1, 2] ?_
  simp only [zz20, zzI, look_nil, Nat.reduceBEq]
  refine awp_seq fun K0 hK0 => ?_
  refine awp_plain F_mixed [some 6, none] rfl ?_
  simp only [List.nil_append, List.cons_append, true_and, and_true, zz0, true_implies, Nat.reduceLT, Nat.reduceLeDiff, zzI, look_nil, Nat.reduceBEq, implies_true, F_ok25, F_ag25, F_sz25, zz8, zz23, zzD, Nat.reduceAdd, Nat.zero_add, zzF, zzB, zzE, zz16, Option.some.injEq, exists_eq_left', exists_eq_left, Option.map_some, eq_self, reduceCtorEq, and_self, zz18, splice, List.append_nil, zz1, zzG, zz6, Nat.reduceEqDiff, ↓reduceIte]
  refine hK0 _ ?_; try clear hK0 K0
  refine awp_keepL [2] ?_
  simp only [zz20, zzI, look_nil, Nat.reduceBEq]
  refine awp_le (le_SK (fun r => bif r == 1 then 5001 else r) [0] rfl (l' := [(2, .ptr 2 0 0)]) (m' := [(2, (⟨True, 25, 3, true, false, 2, [[.d (iv nx), .ref 0 0, .ref 1 ps.length]]⟩ : ARow)), (0, (⟨True, 27, 7, true, true, 0, []⟩ : ARow)), (1, (⟨True, 51, 4, true, true, 1, (ps.map posC).map (·.map .d)⟩ : ARow))]) ?_ ?_ ?_ ?_) ?_
  · simp only [leV, look_cons, Nat.reduceBEq, cond_true, cond_false]; exact ⟨VLe.ptrE (by simp) (by rfl), trivial⟩
  · exact ⟨fun _ => ⟨_, rfl, RowLe.cells (VLess.one_ (VLes.cons_ (VLe.dE rfl) (VLes.cons_ (VLe.nil_ (by decide)) (VLes.cons_ (VLe.refE (by simp) rfl (rfl)) (VLes.nil_)))))⟩, fun h => by simp at h, fun h => by simp at h, fun _ => rfl, fun _ => ⟨_, rfl, RowLe.uq2 rfl (by simp) ids_data⟩, fun h => by simp at h, trivial⟩
  · simp [wfV, AV.ids, lookR]
  · exact ⟨by simp [AV.idsL, AV.ids, lookR], by simp, wf_data _ _, trivial⟩
  refine awp_ret ?_
  simp only [zz6, Nat.reduceEqDiff, ↓reduceIte]
  refine doneN [0, 1] (by simp [resCs, resC, S, List.getD, look_cons, lookR, F_ag25, F_sz25, F_ok25]) ?_ (by simp [flatA, flatAs, flatD, ]) (by simp [AV.ids, AV.idsL, ]) (by decide) ?_
  · simp only [List.map_cons, List.map_nil, resA, S_getD, S_mem, lookR_cons, lookR_nil, Nat.reduceLT, Nat.reduceLeDiff, look_cons, Nat.reduceBEq, cond_true, cond_false, resAll, List.getD_cons_zero, List.getD_cons_succ, List.drop_zero, List.drop_succ_cons, List.take_succ_cons, List.take_zero, F_ag25, F_sz25, F_ok25]; rfl
  · exact ⟨⟨_, rfl, trivial, rfl, rfl, rfl, rfl⟩, by simp [flatDs, flatD, tradeC], ⟨_, rfl, trivial, rfl, rfl, rfl, rfl⟩, by simp [flatDs, flatD, posC], trivial⟩
end Go.Proofs.Ytepphpbjgnapfaa
