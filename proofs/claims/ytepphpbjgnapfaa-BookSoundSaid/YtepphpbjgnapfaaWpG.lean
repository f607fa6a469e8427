import Derived.Test.YtepphpbjgnapfaaWpF
namespace Go.Proofs.Ytepphpbjgnapfaa
open Go.RowKit
set_option linter.unusedVariables false
set_option linter.unusedSimpArgs false
theorem F_off64_0 : offT Try.prog 64 0 = some 0 := by kernel_rfl
theorem F_cv3_40 : ∀ (k : IntKind) (x : Int), pureCv Try.prog 3 40 (.int k x) = True := fun _ _ => pure_cv (by kernel_rfl) (by kernel_rfl)
theorem F_cvV40 : ∀ (k : IntKind) (x : Int), cvV Try.prog 40 (.int k x) = .int .u64 (IntKind.wrap .u64 x) := fun _ _ => by rw [show cvV Try.prog 40 = fun a => (match a with | .int _ n => .int (Try.prog.intKind 40) ((Try.prog.intKind 40).wrap n) | _ => undef) from rfl, show Try.prog.intKind 40 = .u64 from by kernel_rfl]
theorem F_off64_1 : offT Try.prog 64 1 = some 1 := by kernel_rfl
theorem F_off64_2 : offT Try.prog 64 2 = some 2 := by kernel_rfl
theorem F_off64_3 : offT Try.prog 64 3 = some 3 := by kernel_rfl
theorem F_go14 : goFn Try.prog 14 := ⟨_, Try.func14, rfl, rfl⟩
theorem F_go15 : goFn Try.prog 15 := ⟨_, Try.func15, rfl, rfl⟩
theorem F_off64_4 : offT Try.prog 64 4 = some 4 := by kernel_rfl
theorem F_sl34 : sliceT Try.prog 34 = some 64 := by kernel_rfl
theorem F_sz64 : szT Try.prog 64 = 11 := by kernel_rfl
theorem F_ok64 : tyOk Try.prog 64 = true := by kernel_rfl
theorem F_ag64 : aggT Try.prog 64 = true := by kernel_rfl
theorem F_go31 : goFn Try.prog 31 := ⟨_, Try.func31, rfl, rfl⟩
theorem F_bld27 : bldT Try.prog 27 = true := by kernel_rfl
theorem F_fld27_1 : fldT Try.prog 27 1 = some (1, 1) := by kernel_rfl
theorem F_fld27_2 : fldT Try.prog 27 2 = some (2, 1) := by kernel_rfl
theorem F_fld27_3 : fldT Try.prog 27 3 = some (3, 1) := by kernel_rfl
theorem F_fld27_4 : fldT Try.prog 27 4 = some (4, 1) := by kernel_rfl
theorem F_fld27_5 : fldT Try.prog 27 5 = some (5, 1) := by kernel_rfl
theorem do_ (nx : Int) (ts : List TradeV) (ps : List PosV) (a : ActV) (ht : ts.length ≤ 150000) (hp : ps.length ≤ 150000) : ACalls Try.prog 31 [.agg (bookC ⟨nx, ts, ps⟩), .agg (actC a)] [⟨27, 7, (doV ⟨nx, ts, ps⟩ a).trades.map tradeC⟩, ⟨51, 4, (doV ⟨nx, ts, ps⟩ a).poss.map posC⟩] (.tp [.ag [.d (iv (doV ⟨nx, ts, ps⟩ a).next), .ref 0 (doV ⟨nx, ts, ps⟩ a).trades.length, .ref 1 (doV ⟨nx, ts, ps⟩ a).poss.length], .d (iv (doE ⟨nx, ts, ps⟩ a))]) := by
  refine acalls_S (rs := [.cell 4 25, .tmp 5]) Try.func31 rfl rfl 54 [(0, .d (.agg (bookC ⟨nx, ts, ps⟩))), (1, .d (.agg (actC a)))] rfl (by simp) rfl ?_
  refine awp_seq fun K0 hK0 => ?_
  refine awp_plain F_mixed [some 2, some 3, some 4, some 5] rfl ?_
  simp only [List.nil_append, List.cons_append, true_and, and_true, zz0, true_implies, Nat.reduceLT, Nat.reduceLeDiff, zzI, look_nil, Nat.reduceBEq, implies_true, zz35, newRow1, zz1, zzG, zzD, zz16, Option.some.injEq, exists_eq_left', exists_eq_left, Option.map_some, eq_self, reduceCtorEq, and_self, Nat.reduceAdd, Nat.zero_add, zzF, zzB, zzE, zz32, F_zero25, zz10, evS_assign, bookC, tradesB, poss, actC, zz6, Nat.reduceEqDiff, ↓reduceIte]
  refine hK0 _ ?_; try clear hK0 K0
  refine awp_keepL [2, 3, 4] ?_
  simp only [zz20, zzI, look_nil, Nat.reduceBEq]
  refine awp_seq fun K0 hK0 => ?_
  refine awp_seq fun K1 hK1 => ?_
  refine awp_plain F_mixed [some 12, some 13, some 14, some 15] rfl ?_
  simp only [List.nil_append, List.cons_append, true_and, and_true, zz0, true_implies, Nat.reduceLT, Nat.reduceLeDiff, zzI, look_nil, Nat.reduceBEq, implies_true, zz19, zz23, F_off64_0, zzB, Nat.zero_add, Nat.reduceAdd, F_ok3, F_ag3, F_sz3, zz8, zzD, zzF, zzE, zz16, Option.some.injEq, exists_eq_left', exists_eq_left, Option.map_some, eq_self, reduceCtorEq, and_self, zz27, gr_v, F_cv3_40, F_cvV40, zz21, b_rem, pure_rem, ne_eq, Int.reduceEq, not_false_eq_true, doK_b, zz6, Nat.reduceEqDiff, ↓reduceIte]
  refine hK1 _ ?_; try clear hK1 K1
  refine awp_keepL [2, 3, 4, 15] ?_
  simp only [zz20, zzI, look_nil, Nat.reduceBEq]
  refine awp_block ?_
  refine awp_seq fun K1 hK1 => ?_
  refine awp_plain F_mixed [some 17, some 16] rfl ?_
  simp only [List.nil_append, List.cons_append, true_and, and_true, zz0, true_implies, Nat.reduceLT, Nat.reduceLeDiff, zzI, look_nil, Nat.reduceBEq, implies_true, zz21, gr_v, zz34, evS_assign, zz6, Nat.reduceEqDiff, ↓reduceIte]
  refine hK1 _ ?_; try clear hK1 K1
  refine awp_keepL [2, 3, 4, 15, 16] ?_
  simp only [zz20, zzI, look_nil, Nat.reduceBEq]
  refine awp_condS _ (by decide) (by simp only [look_cons, Nat.reduceBEq, cond_true, cond_false]; rfl) ?_ ?_
  · intro hb
    have h3 : (doK a == 3) = true := hb
    clear hb
    refine awp_seq fun K2 hK2 => ?_
    refine awp_plain F_mixed [some 18, some 19, some 20, some 21, some 22, some 23, none, some 5] rfl ?_
    simp only [List.nil_append, List.cons_append, true_and, and_true, zz0, true_implies, Nat.reduceLT, Nat.reduceLeDiff, zzI, look_nil, Nat.reduceBEq, implies_true, F_ok25, F_ag25, F_sz25, zz8, zz23, zzD, Nat.reduceAdd, Nat.zero_add, zzF, zzB, zzE, zz16, Option.some.injEq, exists_eq_left', exists_eq_left, Option.map_some, eq_self, reduceCtorEq, and_self, zz19, F_off64_1, F_ok3, F_ag3, F_sz3, evS_call, evC_value, zz14, zz18, splice, List.append_nil, zz1, zzG, evS_assign, bookC, tradesB, poss, D.agg.injEq, zz6, Nat.reduceEqDiff, ↓reduceIte]
    refine call_go F_go13 (fun hG => cancel_ nx ts ps a.no (by omega) (by omega)) (by simp [AV.ids, AV.idsL]) (by simp) ?_
    simp only [List.nil_append, List.cons_append, true_and, and_true, zz0, true_implies, Nat.reduceLT, Nat.reduceLeDiff, zzI, look_nil, Nat.reduceBEq, implies_true, F_ok25, F_ag25, F_sz25, zz8, zz23, zzD, Nat.reduceAdd, Nat.zero_add, zzF, zzB, zzE, zz16, Option.some.injEq, exists_eq_left', exists_eq_left, Option.map_some, eq_self, reduceCtorEq, and_self, zz19, F_off64_1, F_ok3, F_ag3, F_sz3, evS_call, evC_value, zz14, zz18, splice, List.append_nil, zz1, zzG, evS_assign, bookC, tradesB, poss, D.agg.injEq, zz6, Nat.reduceEqDiff, ↓reduceIte, atsL, oksG, freeN, AV.ren, AV.renL, addRows, ORow.row, Nat.reduceMul, Nat.reduceAdd, zz9, Option.bind_some, Option.map_some, forall_eq', D.sl.injEq, S_mem, Option.some.injEq, exists_eq_left', exists_eq_left, exists_eq', exists_eq, List.length_cons, zz2]
    refine hK2 _ ?_; try clear hK2 K2
    refine awp_keepL [4, 5] ?_
    simp only [zz20, zzI, look_nil, Nat.reduceBEq]
    refine awp_ret ?_
    simp only [zz6, Nat.reduceEqDiff, ↓reduceIte]
    simp only [doV, doE, h3, cond_true, cond_false]
    refine doneN [22000, 22001] (by simp [resCs, resC, S, List.getD, look_cons, lookR, F_ag25, F_sz25, F_ok25]) ?_ (by simp [flatA, flatAs, flatD, ]) (by simp [AV.ids, AV.idsL, ]) (by decide) ?_
    · simp only [List.map_cons, List.map_nil, resA, S_getD, S_mem, lookR_cons, lookR_nil, Nat.reduceLT, Nat.reduceLeDiff, look_cons, Nat.reduceBEq, cond_true, cond_false, resAll, List.getD_cons_zero, List.getD_cons_succ, List.drop_zero, List.drop_succ_cons, List.take_succ_cons, List.take_zero, F_ag25, F_sz25, F_ok25]; rfl
    · exact ⟨⟨_, rfl, trivial, rfl, rfl, rfl, rfl⟩, by simp [flatDs, flatD, tradeC], ⟨_, rfl, trivial, rfl, rfl, rfl, rfl⟩, by simp [flatDs, flatD, posC], trivial⟩
  · intro hb
    have h3 : (doK a == 3) = false := hb
    clear hb
    refine awp_seq fun K2 hK2 => ?_
    refine awp_plain F_mixed [some 25, some 24] rfl ?_
    simp only [List.nil_append, List.cons_append, true_and, and_true, zz0, true_implies, Nat.reduceLT, Nat.reduceLeDiff, zzI, look_nil, Nat.reduceBEq, implies_true, zz21, gr_v, zz34, evS_assign, zz6, Nat.reduceEqDiff, ↓reduceIte]
    refine hK2 _ ?_; try clear hK2 K2
    refine awp_keepL [2, 3, 4, 15, 24] ?_
    simp only [zz20, zzI, look_nil, Nat.reduceBEq]
    refine awp_condS _ (by decide) (by simp only [look_cons, Nat.reduceBEq, cond_true, cond_false]; rfl) ?_ ?_
    · intro hb
      have h4 : (doK a == 4) = true := hb
      clear hb
      refine awp_seq fun K3 hK3 => ?_
      refine awp_plain F_mixed [some 27, some 28, some 29, some 30, some 31, some 32, some 33, some 34, some 26, some 35, some 36, some 37, some 6, none, some 7, some 8] rfl ?_
      simp only [List.nil_append, List.cons_append, true_and, and_true, zz0, true_implies, Nat.reduceLT, Nat.reduceLeDiff, zzI, look_nil, Nat.reduceBEq, implies_true, F_ok25, F_ag25, F_sz25, zz8, zz23, zzD, Nat.reduceAdd, Nat.zero_add, zzF, zzB, zzE, zz16, Option.some.injEq, exists_eq_left', exists_eq_left, Option.map_some, eq_self, reduceCtorEq, and_self, zz19, F_off64_1, F_ok3, F_ag3, F_sz3, F_off64_2, F_off64_3, evS_call, evC_value, evS_move, zz14, zz32, newRow1, F_zero25, zz10, zz18, splice, List.append_nil, zz1, zzG, evS_assign, bookC, tradesB, poss, D.agg.injEq, zz6, Nat.reduceEqDiff, ↓reduceIte]
      refine call_go F_go14 (fun hG => correct_ nx ts ps a.no a.qty a.price (by omega) (by omega)) (by simp [AV.ids, AV.idsL]) (by simp) ?_
      simp only [List.nil_append, List.cons_append, true_and, and_true, zz0, true_implies, Nat.reduceLT, Nat.reduceLeDiff, zzI, look_nil, Nat.reduceBEq, implies_true, F_ok25, F_ag25, F_sz25, zz8, zz23, zzD, Nat.reduceAdd, Nat.zero_add, zzF, zzB, zzE, zz16, Option.some.injEq, exists_eq_left', exists_eq_left, Option.map_some, eq_self, reduceCtorEq, and_self, zz19, F_off64_1, F_ok3, F_ag3, F_sz3, F_off64_2, F_off64_3, evS_call, evC_value, evS_move, zz14, zz32, newRow1, F_zero25, zz10, zz18, splice, List.append_nil, zz1, zzG, evS_assign, bookC, tradesB, poss, D.agg.injEq, zz6, Nat.reduceEqDiff, ↓reduceIte, atsL, oksG, freeN, AV.ren, AV.renL, addRows, ORow.row, Nat.reduceMul, Nat.reduceAdd, zz9, Option.bind_some, Option.map_some, forall_eq', D.sl.injEq, S_mem, Option.some.injEq, exists_eq_left', exists_eq_left, exists_eq', exists_eq, List.length_cons, zz2]
      refine hK3 _ ?_; try clear hK3 K3
      refine awp_keepL [4, 6, 8] ?_
      simp only [zz20, zzI, look_nil, Nat.reduceBEq]
      refine awp_seq fun K3 hK3 => ?_
      refine awp_plain F_mixed [some 38, some 39, none, some 5] rfl ?_
      simp only [List.nil_append, List.cons_append, true_and, and_true, zz0, true_implies, Nat.reduceLT, Nat.reduceLeDiff, zzI, look_nil, Nat.reduceBEq, implies_true, F_ok25, F_ag25, F_sz25, zz8, zz23, zzD, Nat.reduceAdd, Nat.zero_add, zzF, zzB, zzE, zz16, Option.some.injEq, exists_eq_left', exists_eq_left, Option.map_some, eq_self, reduceCtorEq, and_self, evS_move, zz18, splice, List.append_nil, zz1, zzG, evS_assign, zz6, Nat.reduceEqDiff, ↓reduceIte]
      refine hK3 _ ?_; try clear hK3 K3
      refine awp_keepL [4, 5] ?_
      simp only [zz20, zzI, look_nil, Nat.reduceBEq]
      refine awp_ret ?_
      simp only [zz6, Nat.reduceEqDiff, ↓reduceIte]
      simp only [doV, doE, h3, h4, cond_true, cond_false]
      refine doneN [35000, 35001] (by simp [resCs, resC, S, List.getD, look_cons, lookR, F_ag25, F_sz25, F_ok25]) ?_ (by simp [flatA, flatAs, flatD, ]) (by simp [AV.ids, AV.idsL, ]) (by decide) ?_
      · simp only [List.map_cons, List.map_nil, resA, S_getD, S_mem, lookR_cons, lookR_nil, Nat.reduceLT, Nat.reduceLeDiff, look_cons, Nat.reduceBEq, cond_true, cond_false, resAll, List.getD_cons_zero, List.getD_cons_succ, List.drop_zero, List.drop_succ_cons, List.take_succ_cons, List.take_zero, F_ag25, F_sz25, F_ok25]; rfl
      · exact ⟨⟨_, rfl, trivial, rfl, rfl, rfl, rfl⟩, by simp [flatDs, flatD, tradeC], ⟨_, rfl, trivial, rfl, rfl, rfl, rfl⟩, by simp [flatDs, flatD, posC], trivial⟩
    · intro hb
      have h4 : (doK a == 4) = false := hb
      clear hb
      refine awp_seq fun K3 hK3 => ?_
      refine awp_plain F_mixed [some 41, some 40] rfl ?_
      simp only [List.nil_append, List.cons_append, true_and, and_true, zz0, true_implies, Nat.reduceLT, Nat.reduceLeDiff, zzI, look_nil, Nat.reduceBEq, implies_true, zz21, gr_v, zz34, evS_assign, zz6, Nat.reduceEqDiff, ↓reduceIte]
      refine hK3 _ ?_; try clear hK3 K3
      refine awp_keepL [2, 3, 4, 40] ?_
      simp only [zz20, zzI, look_nil, Nat.reduceBEq]
      refine awp_condS _ (by decide) (by simp only [look_cons, Nat.reduceBEq, cond_true, cond_false]; rfl) ?_ ?_
      · intro hb
        have h5 : (doK a == 5) = true := hb
        clear hb
        refine awp_seq fun K4 hK4 => ?_
        refine awp_plain F_mixed [some 42, some 43, none, some 5] rfl ?_
        simp only [List.nil_append, List.cons_append, true_and, and_true, zz0, true_implies, Nat.reduceLT, Nat.reduceLeDiff, zzI, look_nil, Nat.reduceBEq, implies_true, F_ok25, F_ag25, F_sz25, zz8, zz23, zzD, Nat.reduceAdd, Nat.zero_add, zzF, zzB, zzE, zz16, Option.some.injEq, exists_eq_left', exists_eq_left, Option.map_some, eq_self, reduceCtorEq, and_self, evS_call, evC_value, zz18, splice, List.append_nil, zz1, zzG, evS_assign, bookC, tradesB, poss, D.agg.injEq, zz6, Nat.reduceEqDiff, ↓reduceIte]
        refine call_go F_go15 (fun hG => clear_ nx ts ps (by omega) (by omega)) (by simp [AV.ids, AV.idsL]) (by simp) ?_
        simp only [List.nil_append, List.cons_append, true_and, and_true, zz0, true_implies, Nat.reduceLT, Nat.reduceLeDiff, zzI, look_nil, Nat.reduceBEq, implies_true, F_ok25, F_ag25, F_sz25, zz8, zz23, zzD, Nat.reduceAdd, Nat.zero_add, zzF, zzB, zzE, zz16, Option.some.injEq, exists_eq_left', exists_eq_left, Option.map_some, eq_self, reduceCtorEq, and_self, evS_call, evC_value, zz18, splice, List.append_nil, zz1, zzG, evS_assign, bookC, tradesB, poss, D.agg.injEq, zz6, Nat.reduceEqDiff, ↓reduceIte, atsL, oksG, freeN, AV.ren, AV.renL, addRows, ORow.row, Nat.reduceMul, Nat.reduceAdd, zz9, Option.bind_some, Option.map_some, forall_eq', D.sl.injEq, S_mem, Option.some.injEq, exists_eq_left', exists_eq_left, exists_eq', exists_eq, List.length_cons, zz2]
        refine hK4 _ ?_; try clear hK4 K4
        refine awp_keepL [4, 5] ?_
        simp only [zz20, zzI, look_nil, Nat.reduceBEq]
        refine awp_ret ?_
        simp only [zz6, Nat.reduceEqDiff, ↓reduceIte]
        simp only [doV, doE, h3, h4, h5, cond_true, cond_false]
        refine doneN [44000, 44001] (by simp [resCs, resC, S, List.getD, look_cons, lookR, F_ag25, F_sz25, F_ok25]) ?_ (by simp [flatA, flatAs, flatD, ]) (by simp [AV.ids, AV.idsL, ]) (by decide) ?_
        · simp only [List.map_cons, List.map_nil, resA, S_getD, S_mem, lookR_cons, lookR_nil, Nat.reduceLT, Nat.reduceLeDiff, look_cons, Nat.reduceBEq, cond_true, cond_false, resAll, List.getD_cons_zero, List.getD_cons_succ, List.drop_zero, List.drop_succ_cons, List.take_succ_cons, List.take_zero, F_ag25, F_sz25, F_ok25]; rfl
        · exact ⟨⟨_, rfl, trivial, rfl, rfl, rfl, rfl⟩, by simp [flatDs, flatD, tradeC], ⟨_, rfl, trivial, rfl, rfl, rfl, rfl⟩, by simp [flatDs, flatD, posC], trivial⟩
      · intro hb
        have h5 : (doK a == 5) = false := hb
        clear hb
        refine awp_skip ?_
        simp only [zz6, Nat.reduceEqDiff, ↓reduceIte]
        refine hK0 _ ?_; try clear hK0 K0
        refine awp_keepL [2, 3, 4] ?_
        simp only [zz20, zzI, look_nil, Nat.reduceBEq]
        refine awp_seq fun K0 hK0 => ?_
        refine awp_plain F_mixed [some 45, some 46, some 47, some 48, some 44, some 49, some 50, some 51, some 9, none, some 10, some 11] rfl ?_
        simp only [List.nil_append, List.cons_append, true_and, and_true, zz0, true_implies, Nat.reduceLT, Nat.reduceLeDiff, zzI, look_nil, Nat.reduceBEq, implies_true, F_ok25, F_ag25, F_sz25, zz8, zz23, zzD, Nat.reduceAdd, Nat.zero_add, zzF, zzB, zzE, zz16, Option.some.injEq, exists_eq_left', exists_eq_left, Option.map_some, eq_self, reduceCtorEq, and_self, zz19, F_off64_4, F_ok27, F_ag27, F_sz27, evS_call, evC_value, evS_move, zz14, zz32, newRow1, F_zero25, zz10, zz18, splice, List.append_nil, zz1, zzG, evS_assign, bookC, tradesB, poss, tradeC, D.agg.injEq, zz6, Nat.reduceEqDiff, ↓reduceIte]
        refine call_go F_go9 (fun hG => enter_ nx ts ps a.t (by omega) (by omega)) (by simp [AV.ids, AV.idsL]) (by simp) ?_
        simp only [List.nil_append, List.cons_append, true_and, and_true, zz0, true_implies, Nat.reduceLT, Nat.reduceLeDiff, zzI, look_nil, Nat.reduceBEq, implies_true, F_ok25, F_ag25, F_sz25, zz8, zz23, zzD, Nat.reduceAdd, Nat.zero_add, zzF, zzB, zzE, zz16, Option.some.injEq, exists_eq_left', exists_eq_left, Option.map_some, eq_self, reduceCtorEq, and_self, zz19, F_off64_4, F_ok27, F_ag27, F_sz27, evS_call, evC_value, evS_move, zz14, zz32, newRow1, F_zero25, zz10, zz18, splice, List.append_nil, zz1, zzG, evS_assign, bookC, tradesB, poss, tradeC, D.agg.injEq, zz6, Nat.reduceEqDiff, ↓reduceIte, atsL, oksG, freeN, AV.ren, AV.renL, addRows, ORow.row, Nat.reduceMul, Nat.reduceAdd, zz9, Option.bind_some, Option.map_some, forall_eq', D.sl.injEq, S_mem, Option.some.injEq, exists_eq_left', exists_eq_left, exists_eq', exists_eq, List.length_cons, zz2]
        refine hK0 _ ?_; try clear hK0 K0
        refine awp_keepL [4, 9, 11] ?_
        simp only [zz20, zzI, look_nil, Nat.reduceBEq]
        refine awp_seq fun K0 hK0 => ?_
        refine awp_plain F_mixed [some 52, some 53, none, some 5] rfl ?_
        simp only [List.nil_append, List.cons_append, true_and, and_true, zz0, true_implies, Nat.reduceLT, Nat.reduceLeDiff, zzI, look_nil, Nat.reduceBEq, implies_true, F_ok25, F_ag25, F_sz25, zz8, zz23, zzD, Nat.reduceAdd, Nat.zero_add, zzF, zzB, zzE, zz16, Option.some.injEq, exists_eq_left', exists_eq_left, Option.map_some, eq_self, reduceCtorEq, and_self, evS_move, zz18, splice, List.append_nil, zz1, zzG, evS_assign, zz6, Nat.reduceEqDiff, ↓reduceIte]
        refine hK0 _ ?_; try clear hK0 K0
        refine awp_keepL [4, 5] ?_
        simp only [zz20, zzI, look_nil, Nat.reduceBEq]
        refine awp_ret ?_
        simp only [zz6, Nat.reduceEqDiff, ↓reduceIte]
        simp only [doV, doE, h3, h4, h5, cond_true, cond_false]
        refine doneN [49000, 49001] (by simp [resCs, resC, S, List.getD, look_cons, lookR, F_ag25, F_sz25, F_ok25]) ?_ (by simp [flatA, flatAs, flatD, ]) (by simp [AV.ids, AV.idsL, ]) (by decide) ?_
        · simp only [List.map_cons, List.map_nil, resA, S_getD, S_mem, lookR_cons, lookR_nil, Nat.reduceLT, Nat.reduceLeDiff, look_cons, Nat.reduceBEq, cond_true, cond_false, resAll, List.getD_cons_zero, List.getD_cons_succ, List.drop_zero, List.drop_succ_cons, List.take_succ_cons, List.take_zero, F_ag25, F_sz25, F_ok25]; rfl
        · exact ⟨⟨_, rfl, trivial, rfl, rfl, rfl, rfl⟩, by simp [flatDs, flatD, tradeC], ⟨_, rfl, trivial, rfl, rfl, rfl, rfl⟩, by simp [flatDs, flatD, posC], trivial⟩
theorem doS (b : BookV) (a : ActV) (ht : b.trades.length ≤ 150000) (hp : b.poss.length ≤ 150000) : ACalls Try.prog 31 [.agg (bookC b), .agg (actC a)] [⟨27, 7, (doV b a).trades.map tradeC⟩, ⟨51, 4, (doV b a).poss.map posC⟩] (.tp [.ag [.d (iv (doV b a).next), .ref 0 (doV b a).trades.length, .ref 1 (doV b a).poss.length], .d (iv (doE b a))]) := by
  obtain ⟨nx, ts, ps⟩ := b
  exact do_ nx ts ps a ht hp
theorem clearF (b : BookV) (ht : b.trades.length ≤ 150000) (hp : b.poss.length ≤ 150000) : ACalls Try.prog 15 [.agg (bookC b)] [] (.d (.agg (bookC (clearB b)))) := by
  obtain ⟨nx, ts, ps⟩ := b
  exact (clear_ nx ts ps ht hp).freeze (by simp [frzOk, frzOkL])
theorem grownB_ (l : List ActV) : ACalls Try.prog 12 [acts l] [⟨27, 7, (grownB l).trades.map tradeC⟩, ⟨51, 4, (grownB l).poss.map posC⟩] (.ag [.d (iv (grownB l).next), .ref 0 (grownB l).trades.length, .ref 1 (grownB l).poss.length]) := by
  refine acalls_S (rs := [.cell 2 25]) Try.func12 rfl rfl 31 [(0, .d (acts l))] rfl (by simp) rfl ?_
  refine awp_seq fun K0 hK0 => ?_
  refine awp_plain F_mixed [some 2] rfl ?_
  simp only [List.nil_append, List.cons_append, true_and, and_true, zz0, true_implies, Nat.reduceLT, Nat.reduceLeDiff, zzI, look_nil, Nat.reduceBEq, implies_true, zz32, newRow1, F_zero25, zz16, Option.some.injEq, exists_eq_left', exists_eq_left, Option.map_some, eq_self, reduceCtorEq, and_self, zzD, Nat.reduceAdd, Nat.zero_add, zzF, zzB, zzE, zz10, zz6, Nat.reduceEqDiff, ↓reduceIte]
  refine hK0 _ ?_; try clear hK0 K0
  refine awp_keepL [0, 2] ?_
  simp only [zz20, zzI, look_nil, Nat.reduceBEq]
  refine awp_seq fun K0 hK0 => ?_
  refine awp_plain F_mixed [some 7, some 3, none] rfl ?_
  simp only [List.nil_append, List.cons_append, true_and, and_true, zz0, true_implies, Nat.reduceLT, Nat.reduceLeDiff, zzI, look_nil, Nat.reduceBEq, implies_true, F_zero25, F_bld25, zz7, splice, Option.getD_some, List.append_nil, zz1, zzG, zzD, zz16, Option.some.injEq, exists_eq_left', exists_eq_left, Option.map_some, eq_self, reduceCtorEq, and_self, Nat.reduceAdd, Nat.zero_add, zzF, zzB, zzE, zz10, zz32, newRow1, zz18, F_ok25, F_sz25, zz6, Nat.reduceEqDiff, ↓reduceIte]
  refine hK0 _ ?_; try clear hK0 K0
  refine awp_keepL [0, 2, 3] ?_
  simp only [zz20, zzI, look_nil, Nat.reduceBEq]
  refine awp_seq fun K0 hK0 => ?_
  refine awp_seq fun K1 hK1 => ?_
  refine awp_plain F_mixed [some 4] rfl ?_
  simp only [List.nil_append, List.cons_append, true_and, and_true, zz0, true_implies, Nat.reduceLT, Nat.reduceLeDiff, zzI, look_nil, Nat.reduceBEq, implies_true, evS_assign, zz6, Nat.reduceEqDiff, ↓reduceIte]
  refine hK1 _ ?_; try clear hK1 K1
  refine awp_keepL [0, 2, 3, 4] ?_
  simp only [zz20, zzI, look_nil, Nat.reduceBEq]
  refine awp_block ?_
  refine awp_loop (fun m s => ∃ (pre : List ActV) (post : List ActV), (l = pre ++ post) ∧ (pre.length ≤ 100) ∧ m = post.length ∧ s = S 31 [(0, .d (acts l)), (2, .ptr 2 0 0), (3, .ptr 3 0 0), (4, .d (iv pre.length))] [(2, (⟨True, 25, 3, true, false, 2, [[.d (.v (.int .i64 0)), .d (.v (.slice none 0 0)), .d (.v (.slice none 0 0))]]⟩ : ARow)), (3, (⟨True, 25, 3, true, false, 3, [[.d (iv (growB pre).next), .ref 500 (growB pre).trades.length, .ref 501 (growB pre).poss.length]]⟩ : ARow)), (500, (⟨True, 27, 7, true, true, 500, ((growB pre).trades.map tradeC).map (·.map .d)⟩ : ARow)), (501, (⟨True, 51, 4, true, true, 501, ((growB pre).poss.map posC).map (·.map .d)⟩ : ARow))]) (l.length) _ (le_SK id [500, 501] rfl (l' := [(0, .d (acts l)), (2, .ptr 2 0 0), (3, .ptr 3 0 0), (4, .d (iv [].length))]) (m' := [(2, (⟨True, 25, 3, true, false, 2, [[.d (.v (.int .i64 0)), .d (.v (.slice none 0 0)), .d (.v (.slice none 0 0))]]⟩ : ARow)), (3, (⟨True, 25, 3, true, false, 3, [[.d (iv (growB []).next), .ref 500 (growB []).trades.length, .ref 501 (growB []).poss.length]]⟩ : ARow)), (500, (⟨True, 27, 7, true, true, 500, ((growB []).trades.map tradeC).map (·.map .d)⟩ : ARow)), (501, (⟨True, 51, 4, true, true, 501, ((growB []).poss.map posC).map (·.map .d)⟩ : ARow))]) ?_ ?_ ?_ ?_) ⟨[], l, rfl, by simp, rfl, rfl⟩ ?_
  · simp only [leV, look_cons, Nat.reduceBEq, cond_true, cond_false]; exact ⟨(by first | exact VLe.still rfl | exact VLe.nil_ (by decide) | exact VLe.nild_ | exact VLe.refl _ | exact VLe.ptrE (by simp) (by rfl) | exact VLe.refE (by simp) (by rfl) (by first | rfl | (simp; done) | (simp; omega)) | exact VLe.dE (by first | rfl | simp)), (by first | exact VLe.still rfl | exact VLe.nil_ (by decide) | exact VLe.nild_ | exact VLe.refl _ | exact VLe.ptrE (by simp) (by rfl) | exact VLe.refE (by simp) (by rfl) (by first | rfl | (simp; done) | (simp; omega)) | exact VLe.dE (by first | rfl | simp)), (by first | exact VLe.still rfl | exact VLe.nil_ (by decide) | exact VLe.nild_ | exact VLe.refl _ | exact VLe.ptrE (by simp) (by rfl) | exact VLe.refE (by simp) (by rfl) (by first | rfl | (simp; done) | (simp; omega)) | exact VLe.dE (by first | rfl | simp)), (by first | exact VLe.still rfl | exact VLe.nil_ (by decide) | exact VLe.nild_ | exact VLe.refl _ | exact VLe.ptrE (by simp) (by rfl) | exact VLe.refE (by simp) (by rfl) (by first | rfl | (simp; done) | (simp; omega)) | exact VLe.dE (by first | rfl | simp)), trivial⟩
  · exact ⟨fun _ => ⟨_, rfl, (by first | exact RowLe.data_ (by first | rfl | simp) | exact RowLe.uq2 (by first | rfl | simp) (by simp) ids_data | exact RowLe.still (by simp [AV.idsL, AV.ids]) | exact RowLe.same (by simp) (by simp [AV.idsL, AV.ids]))⟩, fun h => by simp at h, fun _ => ⟨_, rfl, RowLe.cells (VLess.one_ (VLes.cons_ (VLe.dE rfl) (VLes.cons_ (VLe.nil_ (by decide)) (VLes.cons_ (VLe.nil_ (by decide)) (VLes.nil_)))))⟩, fun h => by simp at h, fun h => by simp at h, fun _ => rfl, fun h => by simp at h, fun _ => rfl, trivial⟩
  · simp [wfV, AV.ids, AV.idsL, lookR, grow]
  · exact ⟨by simp [AV.idsL, AV.ids, lookR], by simp [AV.idsL, AV.ids, lookR], wf_data _ _, wf_data _ _, trivial⟩
  rintro m s ⟨pre, post, hsp, h40, rfl, rfl⟩
  have hspl := congrArg List.length hsp
  simp only [List.length_append] at hspl
  refine awp_seq fun K2 hK2 => ?_
  refine awp_seq fun K3 hK3 => ?_
  refine awp_plain F_mixed [some 8, some 9, some 10, some 11, some 12, some 13, some 14, some 15] rfl ?_
  simp only [List.nil_append, List.cons_append, true_and, and_true, zz0, true_implies, Nat.reduceLT, Nat.reduceLeDiff, zzI, look_nil, Nat.reduceBEq, implies_true, Nat.reduceSub, S_getD, zz5, and_imp, imp_and, imp_self, and_self, evS_move, evS_call, zz12, F_sl34, Option.isSome_some, zz21, gr_v, zz22, zz13, pickK_l, pickK_r, acts, len_map, zz6, Nat.reduceEqDiff, ↓reduceIte]
  refine hK3 _ ?_; try clear hK3 K3
  refine awp_keepL [0, 2, 3, 4, 15] ?_
  simp only [zz20, zzI, look_nil, Nat.reduceBEq]
  refine awp_condS _ (by decide) (by simp only [look_cons, Nat.reduceBEq, cond_true, cond_false]; rfl) ?_ ?_
  · intro hb
    have hb2 := hb
    clear hb
    simp only [Bool.and_eq_true, decide_eq_true_eq] at hb2
    obtain ⟨hb1, h41⟩ := hb2
    have hb := decide_eq_true hb1
    obtain ⟨x, post2, rfl⟩ : ∃ x t, post = x :: t := by
      cases post with
      | nil => have := of_decide_eq_true hb; simp at hspl; omega
      | cons x t => exact ⟨x, t, rfl⟩
    clear hb
    simp only [List.length_cons] at hspl
    have gx : (l.map actC).getD pre.length [] = [iv x.act, iv x.no, iv x.qty, iv x.price, iv x.t.no, iv x.t.buyer, iv x.t.seller, iv x.t.inst, iv x.t.qty, iv x.t.price, .v (.bool x.t.gone)] := by
      rw [hsp, List.map_append]; exact gd_mid' (A := pre.map actC) _ _ (by simp)
    have bx := ltI (show pre.length < l.length by omega)
    have hwx : IntKind.wrap .i64 ((pre.length : Int) + 1) = ((pre ++ [x]).length : Int) := by rw [wrapI (by omega) (by omega)]; simp
    have hgl := grow_len (inv_pre pre).good
    refine awp_skip ?_
    simp only [zz6, Nat.reduceEqDiff, ↓reduceIte]
    refine hK2 _ ?_; try clear hK2 K2
    refine awp_keepL [0, 2, 3, 4] ?_
    simp only [zz20, zzI, look_nil, Nat.reduceBEq]
    refine awp_seq fun K2 hK2 => ?_
    refine awp_block ?_
    refine awp_seq fun K3 hK3 => ?_
    refine awp_draw F_mixed [some 19, some 20, some 21, some 22, some 23, some 24, some 18, some 25, some 26, some 5, none, some 6] rfl (by kernel_rfl) ?_
    simp only [List.nil_append, List.cons_append, true_and, and_true, zz0, true_implies, Nat.reduceLT, Nat.reduceLeDiff, zzI, look_nil, Nat.reduceBEq, implies_true, F_ok25, F_ag25, F_sz25, zz8, zz23, zzD, Nat.reduceAdd, Nat.zero_add, zzF, zzB, zzE, zz16, Option.some.injEq, exists_eq_left', exists_eq_left, Option.map_some, eq_self, reduceCtorEq, and_self, evS_move, evS_indexAddr, zz24, F_sl34, F_sz64, F_ok64, F_ag64, evS_call, evC_value, zz14, zz32, newRow1, F_zero25, zz10, zz18, splice, List.append_nil, zz1, zzG, evS_assign, acts, actC, bookC, tradesB, poss, gx, bx, hwx, len_map, ge0, Int.toNat_natCast, D.agg.injEq, zz6, Nat.reduceEqDiff, ↓reduceIte]
    refine call_goE F_go31 (fun hG => doS (growB pre) x (by omega) (by omega)) (by simp [AV.ids, AV.idsL]) (by simp) ?_
    simp only [List.nil_append, List.cons_append, true_and, and_true, zz0, true_implies, Nat.reduceLT, Nat.reduceLeDiff, zzI, look_nil, Nat.reduceBEq, implies_true, F_ok25, F_ag25, F_sz25, zz8, zz23, zzD, Nat.reduceAdd, Nat.zero_add, zzF, zzB, zzE, zz16, Option.some.injEq, exists_eq_left', exists_eq_left, Option.map_some, eq_self, reduceCtorEq, and_self, evS_move, evS_indexAddr, zz24, F_sl34, F_sz64, F_ok64, F_ag64, evS_call, evC_value, zz14, zz32, newRow1, F_zero25, zz10, zz18, splice, List.append_nil, zz1, zzG, evS_assign, acts, actC, bookC, tradesB, poss, gx, bx, hwx, len_map, ge0, Int.toNat_natCast, D.agg.injEq, zz6, Nat.reduceEqDiff, ↓reduceIte, asEs_cons, asEs_nil, asE_ag, asE_d, asE_ref, asEc_cons, asEc_nil, asF_d, asF_ref, asF_ag, asGs, oksF, atsL, oksG, freeN, AV.ren, AV.renL, addRows, ORow.row, Nat.reduceMul, Nat.reduceAdd, zz9, Option.bind_some, Option.map_some, forall_eq', D.sl.injEq, S_mem, Option.some.injEq, exists_eq_left', exists_eq_left, exists_eq', exists_eq, List.length_cons, zz2]
    refine hK3 _ ?_; try clear hK3 K3
    refine awp_keepL [0, 2, 3, 4, 5, 6] ?_
    simp only [zz20, zzI, look_nil, Nat.reduceBEq]
    refine awp_seq fun K3 hK3 => ?_
    refine awp_plain F_mixed [some 27, some 28] rfl ?_
    simp only [List.nil_append, List.cons_append, true_and, and_true, zz0, true_implies, Nat.reduceLT, Nat.reduceLeDiff, zzI, look_nil, Nat.reduceBEq, implies_true, evS_move, zz21, gr_v, zz34, zz6, Nat.reduceEqDiff, ↓reduceIte]
    refine hK3 _ ?_; try clear hK3 K3
    refine awp_keepL [0, 2, 3, 4, 5, 28] ?_
    simp only [zz20, zzI, look_nil, Nat.reduceBEq]
    refine awp_condS _ (by decide) (by simp only [look_cons, Nat.reduceBEq, cond_true, cond_false]; rfl) ?_ ?_
    · intro hb
      have hgr : growB (pre ++ [x]) = doV (growB pre) x := by rw [growB_snoc, grow1B, show (doE (growB pre) x == 0) = true from hb]; rfl
      clear hb
      refine awp_plain F_mixed [some 29, none] rfl ?_
      simp only [List.nil_append, List.cons_append, true_and, and_true, zz0, true_implies, Nat.reduceLT, Nat.reduceLeDiff, zzI, look_nil, Nat.reduceBEq, implies_true, F_ok25, F_ag25, F_sz25, zz8, zz23, zzD, Nat.reduceAdd, Nat.zero_add, zzF, zzB, zzE, zz16, Option.some.injEq, exists_eq_left', exists_eq_left, Option.map_some, eq_self, reduceCtorEq, and_self, zz18, splice, List.append_nil, zz1, zzG, zz6, Nat.reduceEqDiff, ↓reduceIte]
      refine hK2 _ ?_; try clear hK2 K2
      refine awp_keepL [0, 2, 3, 4] ?_
      simp only [zz20, zzI, look_nil, Nat.reduceBEq]
      refine awp_plain F_mixed [some 16, some 17, some 4] rfl ?_
      simp only [List.nil_append, List.cons_append, true_and, and_true, zz0, true_implies, Nat.reduceLT, Nat.reduceLeDiff, zzI, look_nil, Nat.reduceBEq, implies_true, evS_move, zz21, gr_v, zz26, evS_assign, hwx, zz6, Nat.reduceEqDiff, ↓reduceIte]
      refine ⟨post2.length, _, by simp, le_SK (fun r => bif r == 501 then 25001 else bif r == 500 then 25000 else r) [] rfl (l' := [(0, .d (acts l)), (2, .ptr 2 0 0), (3, .ptr 3 0 0), (4, .d (iv (pre ++ [x]).length))]) (m' := [(2, (⟨True, 25, 3, true, false, 2, [[.d (.v (.int .i64 0)), .d (.v (.slice none 0 0)), .d (.v (.slice none 0 0))]]⟩ : ARow)), (3, (⟨True, 25, 3, true, false, 3, [[.d (iv (growB (pre ++ [x])).next), .ref 500 (growB (pre ++ [x])).trades.length, .ref 501 (growB (pre ++ [x])).poss.length]]⟩ : ARow)), (500, (⟨True, 27, 7, true, true, 500, ((growB (pre ++ [x])).trades.map tradeC).map (·.map .d)⟩ : ARow)), (501, (⟨True, 51, 4, true, true, 501, ((growB (pre ++ [x])).poss.map posC).map (·.map .d)⟩ : ARow))]) ?_ ?_ ?_ ?_, (pre ++ [x]), post2, by simp [hsp], by simp; omega, rfl, rfl⟩
      · simp only [leV, look_cons, Nat.reduceBEq, cond_true, cond_false, hwx]; exact ⟨(by first | exact VLe.still rfl | exact VLe.nil_ (by decide) | exact VLe.nild_ | exact VLe.refl _ | exact VLe.ptrE (by simp) (by rfl) | exact VLe.refE (by simp) (by rfl) (by first | rfl | (simp; done) | (simp; omega)) | exact VLe.dE (by first | rfl | simp)), (by first | exact VLe.still rfl | exact VLe.nil_ (by decide) | exact VLe.nild_ | exact VLe.refl _ | exact VLe.ptrE (by simp) (by rfl) | exact VLe.refE (by simp) (by rfl) (by first | rfl | (simp; done) | (simp; omega)) | exact VLe.dE (by first | rfl | simp)), (by first | exact VLe.still rfl | exact VLe.nil_ (by decide) | exact VLe.nild_ | exact VLe.refl _ | exact VLe.ptrE (by simp) (by rfl) | exact VLe.refE (by simp) (by rfl) (by first | rfl | (simp; done) | (simp; omega)) | exact VLe.dE (by first | rfl | simp)), (by first | exact VLe.still rfl | exact VLe.nil_ (by decide) | exact VLe.nild_ | exact VLe.refl _ | exact VLe.ptrE (by simp) (by rfl) | exact VLe.refE (by simp) (by rfl) (by first | rfl | (simp; done) | (simp; omega)) | exact VLe.dE (by first | rfl | simp)), trivial⟩
      · exact ⟨fun _ => ⟨_, rfl, (by first | exact RowLe.data_ (by first | rfl | simp) | exact RowLe.uq2 (by first | rfl | simp) (by simp) ids_data | exact RowLe.still (by simp [AV.idsL, AV.ids]) | exact RowLe.same (by simp) (by simp [AV.idsL, AV.ids]))⟩, fun h => by simp at h, fun _ => ⟨_, rfl, RowLe.cells (VLess.one_ (VLes.cons_ (VLe.dE (by rw [hgr])) (VLes.cons_ (VLe.refE (by simp) rfl (by rw [hgr])) (VLes.cons_ (VLe.refE (by simp) rfl (by rw [hgr])) (VLes.nil_)))))⟩, fun h => by simp at h, fun _ => ⟨_, rfl, RowLe.uq2 (by rw [hgr]) (by simp) ids_data⟩, fun h => by simp at h, fun _ => ⟨_, rfl, RowLe.uq2 (by rw [hgr]) (by simp) ids_data⟩, fun h => by simp at h, trivial⟩
      · simp [wfV, AV.ids, AV.idsL, lookR, grow]
      · exact ⟨by simp [AV.idsL, AV.ids, lookR], by simp [AV.idsL, AV.ids, lookR], wf_data _ _, wf_data _ _, trivial⟩
    · intro hb
      have hgr : growB (pre ++ [x]) = growB pre := by rw [growB_snoc, grow1B, show (doE (growB pre) x == 0) = false from hb]; rfl
      clear hb
      refine awp_skip ?_
      simp only [zz6, Nat.reduceEqDiff, ↓reduceIte]
      refine hK2 _ ?_; try clear hK2 K2
      refine awp_keepL [0, 2, 3, 4] ?_
      simp only [zz20, zzI, look_nil, Nat.reduceBEq]
      refine awp_plain F_mixed [some 16, some 17, some 4] rfl ?_
      simp only [List.nil_append, List.cons_append, true_and, and_true, zz0, true_implies, Nat.reduceLT, Nat.reduceLeDiff, zzI, look_nil, Nat.reduceBEq, implies_true, evS_move, zz21, gr_v, zz26, evS_assign, hwx, zz6, Nat.reduceEqDiff, ↓reduceIte]
      refine ⟨post2.length, _, by simp, le_SK id [] rfl (l' := [(0, .d (acts l)), (2, .ptr 2 0 0), (3, .ptr 3 0 0), (4, .d (iv (pre ++ [x]).length))]) (m' := [(2, (⟨True, 25, 3, true, false, 2, [[.d (.v (.int .i64 0)), .d (.v (.slice none 0 0)), .d (.v (.slice none 0 0))]]⟩ : ARow)), (3, (⟨True, 25, 3, true, false, 3, [[.d (iv (growB (pre ++ [x])).next), .ref 500 (growB (pre ++ [x])).trades.length, .ref 501 (growB (pre ++ [x])).poss.length]]⟩ : ARow)), (500, (⟨True, 27, 7, true, true, 500, ((growB (pre ++ [x])).trades.map tradeC).map (·.map .d)⟩ : ARow)), (501, (⟨True, 51, 4, true, true, 501, ((growB (pre ++ [x])).poss.map posC).map (·.map .d)⟩ : ARow))]) ?_ ?_ ?_ ?_, (pre ++ [x]), post2, by simp [hsp], by simp; omega, rfl, rfl⟩
      · simp only [leV, look_cons, Nat.reduceBEq, cond_true, cond_false, hwx]; exact ⟨(by first | exact VLe.still rfl | exact VLe.nil_ (by decide) | exact VLe.nild_ | exact VLe.refl _ | exact VLe.ptrE (by simp) (by rfl) | exact VLe.refE (by simp) (by rfl) (by first | rfl | (simp; done) | (simp; omega)) | exact VLe.dE (by first | rfl | simp)), (by first | exact VLe.still rfl | exact VLe.nil_ (by decide) | exact VLe.nild_ | exact VLe.refl _ | exact VLe.ptrE (by simp) (by rfl) | exact VLe.refE (by simp) (by rfl) (by first | rfl | (simp; done) | (simp; omega)) | exact VLe.dE (by first | rfl | simp)), (by first | exact VLe.still rfl | exact VLe.nil_ (by decide) | exact VLe.nild_ | exact VLe.refl _ | exact VLe.ptrE (by simp) (by rfl) | exact VLe.refE (by simp) (by rfl) (by first | rfl | (simp; done) | (simp; omega)) | exact VLe.dE (by first | rfl | simp)), (by first | exact VLe.still rfl | exact VLe.nil_ (by decide) | exact VLe.nild_ | exact VLe.refl _ | exact VLe.ptrE (by simp) (by rfl) | exact VLe.refE (by simp) (by rfl) (by first | rfl | (simp; done) | (simp; omega)) | exact VLe.dE (by first | rfl | simp)), trivial⟩
      · exact ⟨fun _ => ⟨_, rfl, (by first | exact RowLe.data_ (by first | rfl | simp) | exact RowLe.uq2 (by first | rfl | simp) (by simp) ids_data | exact RowLe.still (by simp [AV.idsL, AV.ids]) | exact RowLe.same (by simp) (by simp [AV.idsL, AV.ids]))⟩, fun h => by simp at h, fun _ => ⟨_, rfl, RowLe.cells (VLess.one_ (VLes.cons_ (VLe.dE (by rw [hgr])) (VLes.cons_ (VLe.refE (by simp) rfl (by rw [hgr])) (VLes.cons_ (VLe.refE (by simp) rfl (by rw [hgr])) (VLes.nil_)))))⟩, fun h => by simp at h, fun _ => ⟨_, rfl, RowLe.uq2 (by rw [hgr]) (by simp) ids_data⟩, fun h => by simp at h, fun _ => ⟨_, rfl, RowLe.uq2 (by rw [hgr]) (by simp) ids_data⟩, fun h => by simp at h, trivial⟩
      · simp [wfV, AV.ids, AV.idsL, lookR, grow]
      · exact ⟨by simp [AV.idsL, AV.ids, lookR], by simp [AV.idsL, AV.ids, lookR], wf_data _ _, wf_data _ _, trivial⟩
  · intro hb
    have hx : post = [] ∨ pre.length = 100 := by
      by_cases h40 : pre.length = 100
      · exact .inr h40
      · left
        cases post with
        | nil => rfl
        | cons x t =>
          simp at hspl
          rw [show decide ((pre.length : Int) < (l.length : Int)) = true from decide_eq_true (by omega), show decide ((pre.length : Int) < 100) = true from decide_eq_true (by omega)] at hb
          cases hb
    clear hb
    have htk := take_preA hx h40
    rw [← hsp] at htk
    have hg : grownB l = growB pre := by rw [grownB, htk]
    refine awp_exit ?_
    simp only [zz6, Nat.reduceEqDiff, ↓reduceIte]
    refine hK0 _ ?_; try clear hK0 K0
    refine awp_keepL [2, 3] ?_
    simp only [zz20, zzI, look_nil, Nat.reduceBEq]
    refine awp_seq fun K0 hK0 => ?_
    refine awp_plain F_mixed [some 30, none] rfl ?_
    simp only [List.nil_append, List.cons_append, true_and, and_true, zz0, true_implies, Nat.reduceLT, Nat.reduceLeDiff, zzI, look_nil, Nat.reduceBEq, implies_true, F_ok25, F_ag25, F_sz25, zz8, zz23, zzD, Nat.reduceAdd, Nat.zero_add, zzF, zzB, zzE, zz16, Option.some.injEq, exists_eq_left', exists_eq_left, Option.map_some, eq_self, reduceCtorEq, and_self, zz18, splice, List.append_nil, zz1, zzG, zz6, Nat.reduceEqDiff, ↓reduceIte]
    refine hK0 _ ?_; try clear hK0 K0
    refine awp_keepL [2] ?_
    simp only [zz20, zzI, look_nil, Nat.reduceBEq]
    refine awp_ret ?_
    simp only [zz6, Nat.reduceEqDiff, ↓reduceIte]
    rw [hg]
    refine doneN [500, 501] (by simp [resCs, resC, S, List.getD, look_cons, lookR, F_ag25, F_sz25, F_ok25]) ?_ (by simp [flatA, flatAs, flatD, ]) (by simp [AV.ids, AV.idsL, ]) (by decide) ?_
    · simp only [List.map_cons, List.map_nil, resA, S_getD, S_mem, lookR_cons, lookR_nil, Nat.reduceLT, Nat.reduceLeDiff, look_cons, Nat.reduceBEq, cond_true, cond_false, resAll, List.getD_cons_zero, List.getD_cons_succ, List.drop_zero, List.drop_succ_cons, List.take_succ_cons, List.take_zero, F_ag25, F_sz25, F_ok25]; rfl
    · exact ⟨⟨_, rfl, trivial, rfl, rfl, rfl, rfl⟩, by simp [flatDs, flatD, tradeC], ⟨_, rfl, trivial, rfl, rfl, rfl, rfl⟩, by simp [flatDs, flatD, posC], trivial⟩
theorem grownBF (l : List ActV) : ACalls Try.prog 12 [acts l] [] (.d (.agg (bookC (grownB l)))) := (grownB_ l).freeze (by simp [frzOk, frzOkL])
theorem wakes13_ : ACalls Try.prog 11 [] [] (bv true) := by
  refine acalls_S (rs := [.tmp 0]) Try.func11 rfl rfl 41 [] rfl (by simp) rfl ?_
  obtain ⟨w1, w2, w3, w4, w5⟩ := wk13
  have wl := enter_len ⟨0, [], []⟩ ⟨0, 1, 2, 3, 5, 10, false⟩
  simp only [List.length_nil] at wl
  refine awp_seq fun K0 hK0 => ?_
  refine awp_plain F_mixed [some 0] rfl ?_
  simp only [List.nil_append, List.cons_append, true_and, and_true, zz0, true_implies, Nat.reduceLT, Nat.reduceLeDiff, zzI, look_nil, Nat.reduceBEq, implies_true, evS_assign, zz6, Nat.reduceEqDiff, ↓reduceIte]
  refine hK0 _ ?_; try clear hK0 K0
  refine awp_keepL [] ?_
  simp only [zz20, zzI, look_nil, Nat.reduceBEq]
  refine awp_seq fun K0 hK0 => ?_
  refine awp_plain F_mixed [some 7, some 8, some 9, some 6, some 10, some 11, some 12, some 1, none, some 2, some 3] rfl ?_
  simp only [List.nil_append, List.cons_append, true_and, and_true, zz0, true_implies, Nat.reduceLT, Nat.reduceLeDiff, zzI, look_nil, Nat.reduceBEq, implies_true, F_zero25, F_bld25, zz7, splice, Option.getD_some, List.append_nil, zz1, zzG, zzD, zz16, Option.some.injEq, exists_eq_left', exists_eq_left, Option.map_some, eq_self, reduceCtorEq, and_self, Nat.reduceAdd, Nat.zero_add, zzF, zzB, zzE, zz10, F_zero27, F_bld27, F_fld27_1, F_fld27_2, F_fld27_3, F_fld27_4, F_fld27_5, evS_call, evC_value, evS_move, zz14, zz32, newRow1, zz18, F_ok25, F_sz25, evS_assign, bookC, tradesB, poss, tradeC, D.agg.injEq, zz6, Nat.reduceEqDiff, ↓reduceIte]
  refine call_goE F_go9 (fun hG => enterF ⟨0, [], []⟩ ⟨0, 1, 2, 3, 5, 10, false⟩ (by simp) (by simp)) (by simp [AV.ids, AV.idsL]) (by simp) ?_
  simp only [List.nil_append, List.cons_append, true_and, and_true, zz0, true_implies, Nat.reduceLT, Nat.reduceLeDiff, zzI, look_nil, Nat.reduceBEq, implies_true, F_zero25, F_bld25, zz7, splice, Option.getD_some, List.append_nil, zz1, zzG, zzD, zz16, Option.some.injEq, exists_eq_left', exists_eq_left, Option.map_some, eq_self, reduceCtorEq, and_self, Nat.reduceAdd, Nat.zero_add, zzF, zzB, zzE, zz10, F_zero27, F_bld27, F_fld27_1, F_fld27_2, F_fld27_3, F_fld27_4, F_fld27_5, evS_call, evC_value, evS_move, zz14, zz32, newRow1, zz18, F_ok25, F_sz25, evS_assign, bookC, tradesB, poss, tradeC, D.agg.injEq, zz6, Nat.reduceEqDiff, ↓reduceIte, asEs_cons, asEs_nil, asE_ag, asE_d, asE_ref, asEc_cons, asEc_nil, asF_d, asF_ref, asF_ag, asGs, oksF, atsL, oksG, freeN, AV.ren, AV.renL, addRows, ORow.row, Nat.reduceMul, Nat.reduceAdd, zz9, Option.bind_some, Option.map_some, forall_eq', D.sl.injEq, S_mem, Option.some.injEq, exists_eq_left', exists_eq_left, exists_eq', exists_eq, List.length_cons, zz2]
  refine hK0 _ ?_; try clear hK0 K0
  refine awp_keepL [1, 2, 3] ?_
  simp only [zz20, zzI, look_nil, Nat.reduceBEq]
  refine awp_seq fun K0 hK0 => ?_
  refine awp_plain F_mixed [some 14, some 15, some 16, some 13, some 17, some 18, some 4, none, some 5] rfl ?_
  simp only [List.nil_append, List.cons_append, true_and, and_true, zz0, true_implies, Nat.reduceLT, Nat.reduceLeDiff, zzI, look_nil, Nat.reduceBEq, implies_true, F_ok25, F_ag25, F_sz25, zz8, zz23, zzD, Nat.reduceAdd, Nat.zero_add, zzF, zzB, zzE, zz16, Option.some.injEq, exists_eq_left', exists_eq_left, Option.map_some, eq_self, reduceCtorEq, and_self, evS_move, evS_call, evC_value, zz14, zz32, newRow1, F_zero25, zz10, zz18, splice, List.append_nil, zz1, zzG, evS_assign, bookC, tradesB, poss, D.agg.injEq, w2, zz6, Nat.reduceEqDiff, ↓reduceIte]
  refine call_go F_go13 (fun hG => cancelF (enterV ⟨0, [], []⟩ ⟨0, 1, 2, 3, 5, 10, false⟩) 1 (by omega) (by omega)) (by simp [AV.ids, AV.idsL]) (by simp) ?_
  simp only [List.nil_append, List.cons_append, true_and, and_true, zz0, true_implies, Nat.reduceLT, Nat.reduceLeDiff, zzI, look_nil, Nat.reduceBEq, implies_true, F_ok25, F_ag25, F_sz25, zz8, zz23, zzD, Nat.reduceAdd, Nat.zero_add, zzF, zzB, zzE, zz16, Option.some.injEq, exists_eq_left', exists_eq_left, Option.map_some, eq_self, reduceCtorEq, and_self, evS_move, evS_call, evC_value, zz14, zz32, newRow1, F_zero25, zz10, zz18, splice, List.append_nil, zz1, zzG, evS_assign, bookC, tradesB, poss, D.agg.injEq, w2, zz6, Nat.reduceEqDiff, ↓reduceIte, atsL, oksG, freeN, AV.ren, AV.renL, addRows, ORow.row, Nat.reduceMul, Nat.reduceAdd, zz9, Option.bind_some, Option.map_some, forall_eq', D.sl.injEq, S_mem, Option.some.injEq, exists_eq_left', exists_eq_left, exists_eq', exists_eq, List.length_cons, zz2]
  refine hK0 _ ?_; try clear hK0 K0
  refine awp_keepL [1, 2, 3, 4, 5] ?_
  simp only [zz20, zzI, look_nil, Nat.reduceBEq]
  refine awp_seq fun K0 hK0 => ?_
  refine awp_plain F_mixed [some 19, some 20, some 21, some 22, some 23, some 24, some 25, some 26, some 27, some 28, some 29, some 30, some 31, some 32, some 33, some 34, some 35, some 36, some 37, some 38, some 39, some 40, some 0] rfl ?_
  simp only [List.nil_append, List.cons_append, true_and, and_true, zz0, true_implies, Nat.reduceLT, Nat.reduceLeDiff, zzI, look_nil, Nat.reduceBEq, implies_true, Nat.reduceSub, S_getD, zz5, and_imp, imp_and, imp_self, and_self, evS_move, zz21, gr_v, zz34, zz13, pickK_l, pickK_r, zz19, zz23, F_off25_2, zzB, Nat.zero_add, Nat.reduceAdd, F_ok23, F_ag23, F_sz23, zz8, zzD, zzF, zzE, zz16, Option.some.injEq, exists_eq_left', exists_eq_left, Option.map_some, eq_self, reduceCtorEq, evS_call, zz12, F_sl23, Option.isSome_some, evS_assign, bookC, tradesB, poss, len_map, w1, w2, w3, w4, w5, zz6, Nat.reduceEqDiff, ↓reduceIte]
  refine hK0 _ ?_; try clear hK0 K0
  refine awp_keepL [0] ?_
  simp only [zz20, zzI, look_nil, Nat.reduceBEq]
  refine awp_ret ?_
  simp only [zz6, Nat.reduceEqDiff, ↓reduceIte]
  refine done0 (by simp only [resCs, resC]; trivial) ?_ (by simp [flatA, flatAs, flatD]) (by simp [AV.ids, AV.idsL])
  simp only [List.map_cons, List.map_nil, resA, S_getD, Nat.reduceLT, Nat.reduceLeDiff, look_cons, Nat.reduceBEq, cond_true, cond_false, resAll]
  rfl
end Go.Proofs.Ytepphpbjgnapfaa
