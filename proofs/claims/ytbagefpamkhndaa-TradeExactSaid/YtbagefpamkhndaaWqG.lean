import Derived.Test.YtbagefpamkhndaaWqF
namespace Go.Proofs.Ytbagefpamkhndaa
open Go.RowKit
set_option linter.unusedVariables false
set_option linter.unusedSimpArgs false
theorem F_go31 : goFn Try.prog 31 := ⟨_, Try.func31, rfl, rfl⟩
theorem F_go32 : goFn Try.prog 32 := ⟨_, Try.func32, rfl, rfl⟩
theorem F_go16 : goFn Try.prog 16 := ⟨_, Try.func16, rfl, rfl⟩
theorem F_go15 : goFn Try.prog 15 := ⟨_, Try.func15, rfl, rfl⟩
theorem rSized_ (t : TradeV) : ACalls Try.prog 32 [.agg (tradeC t)] [] (bv (tradeOk t)) := by
  refine acalls_S (rs := [.tmp 2]) Try.func32 rfl rfl 11 [(0, .d (.agg (tradeC t)))] rfl (by simp) rfl ?_
  refine awp_seq fun K0 hK0 => ?_
  refine awp_plain F_mixed [some 1, some 2] rfl ?_
  simp only [List.nil_append, List.cons_append, true_and, and_true, zz0, true_implies, Nat.reduceLT, Nat.reduceLeDiff, zzI, look_nil, Nat.reduceBEq, implies_true, zz35, newRow1, zz1, zzG, zzD, zz16, Option.some.injEq, exists_eq_left', exists_eq_left, Option.map_some, eq_self, reduceCtorEq, and_self, Nat.reduceAdd, Nat.zero_add, zzF, zzB, zzE, evS_assign, tradeC, zz6, Nat.reduceEqDiff, ↓reduceIte]
  refine hK0 _ ?_; try clear hK0 K0
  refine awp_keepL [1] ?_
  simp only [zz20, zzI, look_nil, Nat.reduceBEq]
  refine awp_seq fun K0 hK0 => ?_
  refine awp_plain F_mixed [some 3, some 4, some 5, some 6, some 7, some 8, some 9, some 10, some 2] rfl ?_
  simp only [List.nil_append, List.cons_append, true_and, and_true, zz0, true_implies, Nat.reduceLT, Nat.reduceLeDiff, zzI, look_nil, Nat.reduceBEq, implies_true, Nat.reduceSub, S_getD, zz5, and_imp, imp_and, imp_self, and_self, zz19, zz23, F_off30_4, zzB, Nat.zero_add, Nat.reduceAdd, F_ok3, F_ag3, F_sz3, zz8, zzD, zzF, zzE, zz16, Option.some.injEq, exists_eq_left', exists_eq_left, Option.map_some, eq_self, reduceCtorEq, evS_call, evC_value, evS_move, F_off30_5, zz13, evS_assign, zz6, Nat.reduceEqDiff, ↓reduceIte]
  refine call_go F_go56 (fun hG => rIn_ t.qty 1 1048576) (by simp [AV.ids, AV.idsL]) (by simp) ?_
  simp only [List.nil_append, List.cons_append, true_and, and_true, zz0, true_implies, Nat.reduceLT, Nat.reduceLeDiff, zzI, look_nil, Nat.reduceBEq, implies_true, Nat.reduceSub, S_getD, zz5, and_imp, imp_and, imp_self, and_self, zz19, zz23, F_off30_4, zzB, Nat.zero_add, Nat.reduceAdd, F_ok3, F_ag3, F_sz3, zz8, zzD, zzF, zzE, zz16, Option.some.injEq, exists_eq_left', exists_eq_left, Option.map_some, eq_self, reduceCtorEq, evS_call, evC_value, evS_move, F_off30_5, zz13, evS_assign, zz6, Nat.reduceEqDiff, ↓reduceIte, atsL, oksG, freeN, AV.ren, AV.renL, addRows, ORow.row, Nat.reduceMul, Nat.reduceAdd, zz9, Option.bind_some, Option.map_some, forall_eq', D.sl.injEq, S_mem, Option.some.injEq, exists_eq_left', exists_eq_left, exists_eq', exists_eq, List.length_cons, zz2]
  refine call_go F_go56 (fun hG => rIn_ t.price 1 1073741824) (by simp [AV.ids, AV.idsL]) (by simp) ?_
  simp only [List.nil_append, List.cons_append, true_and, and_true, zz0, true_implies, Nat.reduceLT, Nat.reduceLeDiff, zzI, look_nil, Nat.reduceBEq, implies_true, Nat.reduceSub, S_getD, zz5, and_imp, imp_and, imp_self, and_self, zz19, zz23, F_off30_4, zzB, Nat.zero_add, Nat.reduceAdd, F_ok3, F_ag3, F_sz3, zz8, zzD, zzF, zzE, zz16, Option.some.injEq, exists_eq_left', exists_eq_left, Option.map_some, eq_self, reduceCtorEq, evS_call, evC_value, evS_move, F_off30_5, zz13, evS_assign, zz6, Nat.reduceEqDiff, ↓reduceIte, atsL, oksG, freeN, AV.ren, AV.renL, addRows, ORow.row, Nat.reduceMul, Nat.reduceAdd, zz9, Option.bind_some, Option.map_some, forall_eq', D.sl.injEq, S_mem, Option.some.injEq, exists_eq_left', exists_eq_left, exists_eq', exists_eq, List.length_cons, zz2]
  refine hK0 _ ?_; try clear hK0 K0
  refine awp_keepL [2] ?_
  simp only [zz20, zzI, look_nil, Nat.reduceBEq]
  refine awp_ret ?_
  simp only [zz6, Nat.reduceEqDiff, ↓reduceIte]
  refine done0 (by simp only [resCs, resC]; trivial) ?_ (by simp [flatA, flatAs, flatD]) (by simp [AV.ids, AV.idsL])
  simp only [List.map_cons, List.map_nil, resA, S_getD, Nat.reduceLT, Nat.reduceLeDiff, look_cons, Nat.reduceBEq, cond_true, cond_false, resAll]
  simp only [inR, tradeOk, Bool.and_assoc]
set_option maxRecDepth 100000 in
set_option maxHeartbeats 4000000 in
theorem rTrade_ (r : RollV) (t : TradeV) (h : r.Small) : ACalls Try.prog 18 [.agg (rollC r), .agg (tradeC t)] [] (.d (iv (tradeCheck r t))) := by
  refine acalls_S (rs := [.tmp 4]) Try.func18 rfl rfl 61 [(0, .d (.agg (rollC r))), (1, .d (.agg (tradeC t)))] rfl (by simp) rfl ?_
  refine awp_seq fun K0 hK0 => ?_
  refine awp_plain F_mixed [some 2, some 3, some 4] rfl ?_
  simp only [List.nil_append, List.cons_append, true_and, and_true, zz0, true_implies, Nat.reduceLT, Nat.reduceLeDiff, zzI, look_nil, Nat.reduceBEq, implies_true, zz35, newRow1, zz1, zzG, zzD, zz16, Option.some.injEq, exists_eq_left', exists_eq_left, Option.map_some, eq_self, reduceCtorEq, and_self, Nat.reduceAdd, Nat.zero_add, zzF, zzB, zzE, evS_assign, rollC, memsD, instsD, assetsD, tradeC, zz6, Nat.reduceEqDiff, ↓reduceIte]
  refine hK0 _ ?_; try clear hK0 K0
  refine awp_keepL [2, 3] ?_
  simp only [zz20, zzI, look_nil, Nat.reduceBEq]
  refine awp_seq fun K0 hK0 => ?_
  refine awp_seq fun K1 hK1 => ?_
  refine awp_plain F_mixed [some 11, some 12, some 13] rfl ?_
  simp only [List.nil_append, List.cons_append, true_and, and_true, zz0, true_implies, Nat.reduceLT, Nat.reduceLeDiff, zzI, look_nil, Nat.reduceBEq, implies_true, F_ok43, F_ag43, F_sz43, zz8, zz23, zzD, Nat.reduceAdd, Nat.zero_add, zzF, zzB, zzE, zz16, Option.some.injEq, exists_eq_left', exists_eq_left, Option.map_some, eq_self, reduceCtorEq, and_self, evS_call, evC_value, zz29, gr_v, zz30, memsD, instsD, assetsD, rollC, D.agg.injEq, memA, memC, instA, instC, zzG, zz6, Nat.reduceEqDiff, ↓reduceIte]
  refine call_go F_go31 (fun hG => rRoll_ r h) (by simp [AV.ids, AV.idsL, memA, memC, instA, instC]) (by simp) ?_
  simp only [List.nil_append, List.cons_append, true_and, and_true, zz0, true_implies, Nat.reduceLT, Nat.reduceLeDiff, zzI, look_nil, Nat.reduceBEq, implies_true, F_ok43, F_ag43, F_sz43, zz8, zz23, zzD, Nat.reduceAdd, Nat.zero_add, zzF, zzB, zzE, zz16, Option.some.injEq, exists_eq_left', exists_eq_left, Option.map_some, eq_self, reduceCtorEq, and_self, evS_call, evC_value, zz29, gr_v, zz30, memsD, instsD, assetsD, rollC, D.agg.injEq, memA, memC, instA, instC, zzG, zz6, Nat.reduceEqDiff, ↓reduceIte, atsL, oksG, freeN, AV.ren, AV.renL, addRows, ORow.row, Nat.reduceMul, Nat.reduceAdd, zz9, Option.bind_some, Option.map_some, forall_eq', D.sl.injEq, S_mem, Option.some.injEq, exists_eq_left', exists_eq_left, exists_eq', exists_eq, List.length_cons, zz2]
  refine hK1 _ ?_; try clear hK1 K1
  refine awp_keepL [2, 3, 13] ?_
  simp only [zz20, zzI, look_nil, Nat.reduceBEq]
  refine awp_condS _ (by decide) (by simp only [look_cons, Nat.reduceBEq, cond_true, cond_false]; rfl) ?_ ?_
  · intro hb
    have g0 : (rollE r != 0) = true := by simp at hb; simp [rollE, hb]
    have g00 : rollE r = 14 := by simp at hb; simp [rollE, hb]
    clear hb
    refine awp_seq fun K2 hK2 => ?_
    refine awp_plain F_mixed [some 4] rfl ?_
    simp only [List.nil_append, List.cons_append, true_and, and_true, zz0, true_implies, Nat.reduceLT, Nat.reduceLeDiff, zzI, look_nil, Nat.reduceBEq, implies_true, evS_assign, zz6, Nat.reduceEqDiff, ↓reduceIte]
    refine hK2 _ ?_; try clear hK2 K2
    refine awp_keepL [4] ?_
    simp only [zz20, zzI, look_nil, Nat.reduceBEq]
    refine awp_ret ?_
    simp only [zz6, Nat.reduceEqDiff, ↓reduceIte]
    refine done0 (by simp only [resCs, resC]; trivial) ?_ (by simp [flatA, flatAs, flatD]) (by simp [AV.ids, AV.idsL])
    simp only [List.map_cons, List.map_nil, resA, S_getD, Nat.reduceLT, Nat.reduceLeDiff, look_cons, Nat.reduceBEq, cond_true, cond_false, resAll]
    rw [tradeCheck, g0, cond_true, g00]
  · intro hb
    have g0 : (rollE r != 0) = false := by simp at hb; simp [rollE, hb]
    clear hb
    refine awp_skip ?_
    simp only [zz6, Nat.reduceEqDiff, ↓reduceIte]
    refine hK0 _ ?_; try clear hK0 K0
    refine awp_keepL [2, 3] ?_
    simp only [zz20, zzI, look_nil, Nat.reduceBEq]
    refine awp_seq fun K0 hK0 => ?_
    refine awp_seq fun K1 hK1 => ?_
    refine awp_plain F_mixed [some 14, some 15, some 16] rfl ?_
    simp only [List.nil_append, List.cons_append, true_and, and_true, zz0, true_implies, Nat.reduceLT, Nat.reduceLeDiff, zzI, look_nil, Nat.reduceBEq, implies_true, F_ok30, F_ag30, F_sz30, zz8, zz23, zzD, Nat.reduceAdd, Nat.zero_add, zzF, zzB, zzE, zz16, Option.some.injEq, exists_eq_left', exists_eq_left, Option.map_some, eq_self, reduceCtorEq, and_self, evS_call, evC_value, zz29, gr_v, zz30, tradeC, D.agg.injEq, zz6, Nat.reduceEqDiff, ↓reduceIte]
    refine call_go F_go32 (fun hG => rSized_ t) (by simp [AV.ids, AV.idsL]) (by simp) ?_
    simp only [List.nil_append, List.cons_append, true_and, and_true, zz0, true_implies, Nat.reduceLT, Nat.reduceLeDiff, zzI, look_nil, Nat.reduceBEq, implies_true, F_ok30, F_ag30, F_sz30, zz8, zz23, zzD, Nat.reduceAdd, Nat.zero_add, zzF, zzB, zzE, zz16, Option.some.injEq, exists_eq_left', exists_eq_left, Option.map_some, eq_self, reduceCtorEq, and_self, evS_call, evC_value, zz29, gr_v, zz30, tradeC, D.agg.injEq, zz6, Nat.reduceEqDiff, ↓reduceIte, atsL, oksG, freeN, AV.ren, AV.renL, addRows, ORow.row, Nat.reduceMul, Nat.reduceAdd, zz9, Option.bind_some, Option.map_some, forall_eq', D.sl.injEq, S_mem, Option.some.injEq, exists_eq_left', exists_eq_left, exists_eq', exists_eq, List.length_cons, zz2]
    refine hK1 _ ?_; try clear hK1 K1
    refine awp_keepL [2, 3, 16] ?_
    simp only [zz20, zzI, look_nil, Nat.reduceBEq]
    refine awp_condS _ (by decide) (by simp only [look_cons, Nat.reduceBEq, cond_true, cond_false]; rfl) ?_ ?_
    · intro hb
      have g1 := hb; clear hb
      refine awp_seq fun K2 hK2 => ?_
      refine awp_plain F_mixed [some 4] rfl ?_
      simp only [List.nil_append, List.cons_append, true_and, and_true, zz0, true_implies, Nat.reduceLT, Nat.reduceLeDiff, zzI, look_nil, Nat.reduceBEq, implies_true, evS_assign, zz6, Nat.reduceEqDiff, ↓reduceIte]
      refine hK2 _ ?_; try clear hK2 K2
      refine awp_keepL [4] ?_
      simp only [zz20, zzI, look_nil, Nat.reduceBEq]
      refine awp_ret ?_
      simp only [zz6, Nat.reduceEqDiff, ↓reduceIte]
      refine done0 (by simp only [resCs, resC]; trivial) ?_ (by simp [flatA, flatAs, flatD]) (by simp [AV.ids, AV.idsL])
      simp only [List.map_cons, List.map_nil, resA, S_getD, Nat.reduceLT, Nat.reduceLeDiff, look_cons, Nat.reduceBEq, cond_true, cond_false, resAll]
      simp only [tradeCheck, g0, g1, cond_true, cond_false]
    · intro hb
      have g1 := hb; clear hb
      refine awp_skip ?_
      simp only [zz6, Nat.reduceEqDiff, ↓reduceIte]
      refine hK0 _ ?_; try clear hK0 K0
      refine awp_keepL [2, 3] ?_
      simp only [zz20, zzI, look_nil, Nat.reduceBEq]
      refine awp_seq fun K0 hK0 => ?_
      refine awp_plain F_mixed [some 18, some 19, some 20, some 21, some 17, some 22, some 23, some 5, none, some 6] rfl ?_
      simp only [List.nil_append, List.cons_append, true_and, and_true, zz0, true_implies, Nat.reduceLT, Nat.reduceLeDiff, zzI, look_nil, Nat.reduceBEq, implies_true, F_ok43, F_ag43, F_sz43, zz8, zz23, zzD, Nat.reduceAdd, Nat.zero_add, zzF, zzB, zzE, zz16, Option.some.injEq, exists_eq_left', exists_eq_left, Option.map_some, eq_self, reduceCtorEq, and_self, zz19, F_off30_3, F_ok3, F_ag3, F_sz3, evS_call, evC_value, evS_move, zz14, zz32, newRow1, F_zero52, zz10, zz18, F_ok52, F_sz52, splice, List.append_nil, zz1, zzG, evS_assign, memsD, instsD, assetsD, rollC, D.agg.injEq, memA, memC, instA, instC, List.map_cons, zz6, Nat.reduceEqDiff, ↓reduceIte]
      refine call_go F_go16 (fun hG => rInst_ r.mems r.insts r.assets t.inst h.insts) (by simp [AV.ids, AV.idsL, memA, memC, instA, instC]) (by simp) ?_
      simp only [List.nil_append, List.cons_append, true_and, and_true, zz0, true_implies, Nat.reduceLT, Nat.reduceLeDiff, zzI, look_nil, Nat.reduceBEq, implies_true, F_ok43, F_ag43, F_sz43, zz8, zz23, zzD, Nat.reduceAdd, Nat.zero_add, zzF, zzB, zzE, zz16, Option.some.injEq, exists_eq_left', exists_eq_left, Option.map_some, eq_self, reduceCtorEq, and_self, zz19, F_off30_3, F_ok3, F_ag3, F_sz3, evS_call, evC_value, evS_move, zz14, zz32, newRow1, F_zero52, zz10, zz18, F_ok52, F_sz52, splice, List.append_nil, zz1, zzG, evS_assign, memsD, instsD, assetsD, rollC, D.agg.injEq, memA, memC, instA, instC, List.map_cons, zz6, Nat.reduceEqDiff, ↓reduceIte, atsL, oksG, freeN, AV.ren, AV.renL, addRows, ORow.row, Nat.reduceMul, Nat.reduceAdd, zz9, Option.bind_some, Option.map_some, forall_eq', D.sl.injEq, S_mem, Option.some.injEq, exists_eq_left', exists_eq_left, exists_eq', exists_eq, List.length_cons, zz2]
      refine hK0 _ ?_; try clear hK0 K0
      refine awp_keepL [2, 3, 6] ?_
      simp only [zz20, zzI, look_nil, Nat.reduceBEq]
      refine awp_seq fun K0 hK0 => ?_
      refine awp_plain F_mixed [some 25, some 26, some 27, some 28, some 24, some 29, some 30, some 7, none, some 8] rfl ?_
      simp only [List.nil_append, List.cons_append, true_and, and_true, zz0, true_implies, Nat.reduceLT, Nat.reduceLeDiff, zzI, look_nil, Nat.reduceBEq, implies_true, F_ok43, F_ag43, F_sz43, zz8, zz23, zzD, Nat.reduceAdd, Nat.zero_add, zzF, zzB, zzE, zz16, Option.some.injEq, exists_eq_left', exists_eq_left, Option.map_some, eq_self, reduceCtorEq, and_self, zz19, F_off30_1, F_ok3, F_ag3, F_sz3, evS_call, evC_value, evS_move, zz14, zz32, newRow1, F_zero47, zz10, zz18, F_ok47, F_sz47, splice, List.append_nil, zz1, zzG, evS_assign, memsD, instsD, assetsD, rollC, D.agg.injEq, memA, memC, instA, instC, List.map_cons, zz6, Nat.reduceEqDiff, ↓reduceIte]
      refine call_go F_go15 (fun hG => rMember_ r.mems r.insts r.assets t.buyer h.mems) (by simp [AV.ids, AV.idsL, memA, memC, instA, instC]) (by simp) ?_
      simp only [List.nil_append, List.cons_append, true_and, and_true, zz0, true_implies, Nat.reduceLT, Nat.reduceLeDiff, zzI, look_nil, Nat.reduceBEq, implies_true, F_ok43, F_ag43, F_sz43, zz8, zz23, zzD, Nat.reduceAdd, Nat.zero_add, zzF, zzB, zzE, zz16, Option.some.injEq, exists_eq_left', exists_eq_left, Option.map_some, eq_self, reduceCtorEq, and_self, zz19, F_off30_1, F_ok3, F_ag3, F_sz3, evS_call, evC_value, evS_move, zz14, zz32, newRow1, F_zero47, zz10, zz18, F_ok47, F_sz47, splice, List.append_nil, zz1, zzG, evS_assign, memsD, instsD, assetsD, rollC, D.agg.injEq, memA, memC, instA, instC, List.map_cons, zz6, Nat.reduceEqDiff, ↓reduceIte, atsL, oksG, freeN, AV.ren, AV.renL, addRows, ORow.row, Nat.reduceMul, Nat.reduceAdd, zz9, Option.bind_some, Option.map_some, forall_eq', D.sl.injEq, S_mem, Option.some.injEq, exists_eq_left', exists_eq_left, exists_eq', exists_eq, List.length_cons, zz2]
      refine hK0 _ ?_; try clear hK0 K0
      refine awp_keepL [2, 3, 6, 7, 8] ?_
      simp only [zz20, zzI, look_nil, Nat.reduceBEq]
      refine awp_seq fun K0 hK0 => ?_
      refine awp_plain F_mixed [some 32, some 33, some 34, some 35, some 31, some 36, some 37, some 9, none, some 10] rfl ?_
      simp only [List.nil_append, List.cons_append, true_and, and_true, zz0, true_implies, Nat.reduceLT, Nat.reduceLeDiff, zzI, look_nil, Nat.reduceBEq, implies_true, F_ok43, F_ag43, F_sz43, zz8, zz23, zzD, Nat.reduceAdd, Nat.zero_add, zzF, zzB, zzE, zz16, Option.some.injEq, exists_eq_left', exists_eq_left, Option.map_some, eq_self, reduceCtorEq, and_self, zz19, F_off30_2, F_ok3, F_ag3, F_sz3, evS_call, evC_value, evS_move, zz14, zz32, newRow1, F_zero47, zz10, zz18, F_ok47, F_sz47, splice, List.append_nil, zz1, zzG, evS_assign, memsD, instsD, assetsD, rollC, D.agg.injEq, memA, memC, instA, instC, List.map_cons, zz6, Nat.reduceEqDiff, ↓reduceIte]
      refine call_go F_go15 (fun hG => rMember_ r.mems r.insts r.assets t.seller h.mems) (by simp [AV.ids, AV.idsL, memA, memC, instA, instC]) (by simp) ?_
      simp only [List.nil_append, List.cons_append, true_and, and_true, zz0, true_implies, Nat.reduceLT, Nat.reduceLeDiff, zzI, look_nil, Nat.reduceBEq, implies_true, F_ok43, F_ag43, F_sz43, zz8, zz23, zzD, Nat.reduceAdd, Nat.zero_add, zzF, zzB, zzE, zz16, Option.some.injEq, exists_eq_left', exists_eq_left, Option.map_some, eq_self, reduceCtorEq, and_self, zz19, F_off30_2, F_ok3, F_ag3, F_sz3, evS_call, evC_value, evS_move, zz14, zz32, newRow1, F_zero47, zz10, zz18, F_ok47, F_sz47, splice, List.append_nil, zz1, zzG, evS_assign, memsD, instsD, assetsD, rollC, D.agg.injEq, memA, memC, instA, instC, List.map_cons, zz6, Nat.reduceEqDiff, ↓reduceIte, atsL, oksG, freeN, AV.ren, AV.renL, addRows, ORow.row, Nat.reduceMul, Nat.reduceAdd, zz9, Option.bind_some, Option.map_some, forall_eq', D.sl.injEq, S_mem, Option.some.injEq, exists_eq_left', exists_eq_left, exists_eq', exists_eq, List.length_cons, zz2]
      refine hK0 _ ?_; try clear hK0 K0
      refine awp_keepL [3, 6, 7, 8, 9, 10] ?_
      simp only [zz20, zzI, look_nil, Nat.reduceBEq]
      refine awp_seq fun K0 hK0 => ?_
      refine awp_seq fun K1 hK1 => ?_
      refine awp_plain F_mixed [some 38, some 39, some 40, some 41, some 42, some 43, some 44, some 45, some 46, some 47] rfl ?_
      simp only [List.nil_append, List.cons_append, true_and, and_true, zz0, true_implies, Nat.reduceLT, Nat.reduceLeDiff, zzI, look_nil, Nat.reduceBEq, implies_true, Nat.reduceSub, S_getD, zz5, and_imp, imp_and, imp_self, and_self, evS_move, zz29, gr_v, zz30, zz13, zz6, Nat.reduceEqDiff, ↓reduceIte]
      refine hK1 _ ?_; try clear hK1 K1
      refine awp_keepL [3, 7, 9, 47] ?_
      simp only [zz20, zzI, look_nil, Nat.reduceBEq]
      refine awp_condS _ (by decide) (by simp only [look_cons, Nat.reduceBEq, cond_true, cond_false]; rfl) ?_ ?_
      · intro hb
        have g2 := hb; clear hb
        refine awp_seq fun K2 hK2 => ?_
        refine awp_plain F_mixed [some 4] rfl ?_
        simp only [List.nil_append, List.cons_append, true_and, and_true, zz0, true_implies, Nat.reduceLT, Nat.reduceLeDiff, zzI, look_nil, Nat.reduceBEq, implies_true, evS_assign, zz6, Nat.reduceEqDiff, ↓reduceIte]
        refine hK2 _ ?_; try clear hK2 K2
        refine awp_keepL [4] ?_
        simp only [zz20, zzI, look_nil, Nat.reduceBEq]
        refine awp_ret ?_
        simp only [zz6, Nat.reduceEqDiff, ↓reduceIte]
        refine done0 (by simp only [resCs, resC]; trivial) ?_ (by simp [flatA, flatAs, flatD]) (by simp [AV.ids, AV.idsL])
        simp only [List.map_cons, List.map_nil, resA, S_getD, Nat.reduceLT, Nat.reduceLeDiff, look_cons, Nat.reduceBEq, cond_true, cond_false, resAll]
        simp only [tradeCheck, g0, g1, g2, cond_true, cond_false]
      · intro hb
        have g2 := hb; clear hb
        refine awp_skip ?_
        simp only [zz6, Nat.reduceEqDiff, ↓reduceIte]
        refine hK0 _ ?_; try clear hK0 K0
        refine awp_keepL [3, 7, 9] ?_
        simp only [zz20, zzI, look_nil, Nat.reduceBEq]
        refine awp_seq fun K0 hK0 => ?_
        refine awp_seq fun K1 hK1 => ?_
        refine awp_plain F_mixed [some 48, some 49, some 50, some 51, some 52] rfl ?_
        simp only [List.nil_append, List.cons_append, true_and, and_true, zz0, true_implies, Nat.reduceLT, Nat.reduceLeDiff, zzI, look_nil, Nat.reduceBEq, implies_true, zz19, zz23, F_off30_1, zzB, Nat.zero_add, Nat.reduceAdd, F_ok3, F_ag3, F_sz3, zz8, zzD, zzF, zzE, zz16, Option.some.injEq, exists_eq_left', exists_eq_left, Option.map_some, eq_self, reduceCtorEq, and_self, F_off30_2, zz21, gr_v, zz34, zz6, Nat.reduceEqDiff, ↓reduceIte]
        refine hK1 _ ?_; try clear hK1 K1
        refine awp_keepL [7, 9, 52] ?_
        simp only [zz20, zzI, look_nil, Nat.reduceBEq]
        refine awp_condS _ (by decide) (by simp only [look_cons, Nat.reduceBEq, cond_true, cond_false]; rfl) ?_ ?_
        · intro hb
          have g3 := hb; clear hb
          refine awp_seq fun K2 hK2 => ?_
          refine awp_plain F_mixed [some 4] rfl ?_
          simp only [List.nil_append, List.cons_append, true_and, and_true, zz0, true_implies, Nat.reduceLT, Nat.reduceLeDiff, zzI, look_nil, Nat.reduceBEq, implies_true, evS_assign, zz6, Nat.reduceEqDiff, ↓reduceIte]
          refine hK2 _ ?_; try clear hK2 K2
          refine awp_keepL [4] ?_
          simp only [zz20, zzI, look_nil, Nat.reduceBEq]
          refine awp_ret ?_
          simp only [zz6, Nat.reduceEqDiff, ↓reduceIte]
          refine done0 (by simp only [resCs, resC]; trivial) ?_ (by simp [flatA, flatAs, flatD]) (by simp [AV.ids, AV.idsL])
          simp only [List.map_cons, List.map_nil, resA, S_getD, Nat.reduceLT, Nat.reduceLeDiff, look_cons, Nat.reduceBEq, cond_true, cond_false, resAll]
          simp only [tradeCheck, g0, g1, g2, g3, cond_true, cond_false]
        · intro hb
          have g3 := hb; clear hb
          refine awp_skip ?_
          simp only [zz6, Nat.reduceEqDiff, ↓reduceIte]
          refine hK0 _ ?_; try clear hK0 K0
          refine awp_keepL [7, 9] ?_
          simp only [zz20, zzI, look_nil, Nat.reduceBEq]
          refine awp_seq fun K0 hK0 => ?_
          refine awp_seq fun K1 hK1 => ?_
          refine awp_plain F_mixed [some 53, some 54, some 55, some 56, some 57, some 58, some 59, some 60] rfl ?_
          simp only [List.nil_append, List.cons_append, true_and, and_true, zz0, true_implies, Nat.reduceLT, Nat.reduceLeDiff, zzI, look_nil, Nat.reduceBEq, implies_true, Nat.reduceSub, S_getD, zz5, and_imp, imp_and, imp_self, and_self, zz19, zz23, F_off47_1, zzB, Nat.zero_add, Nat.reduceAdd, F_ok3, F_ag3, F_sz3, zz8, zzD, zzF, zzE, zz16, Option.some.injEq, exists_eq_left', exists_eq_left, Option.map_some, eq_self, reduceCtorEq, zz21, gr_v, zz28, evS_move, zz13, zz6, Nat.reduceEqDiff, ↓reduceIte]
          refine hK1 _ ?_; try clear hK1 K1
          refine awp_keepL [60] ?_
          simp only [zz20, zzI, look_nil, Nat.reduceBEq]
          refine awp_condS _ (by decide) (by simp only [look_cons, Nat.reduceBEq, cond_true, cond_false]; rfl) ?_ ?_
          · intro hb
            have g4 := hb; clear hb
            refine awp_seq fun K2 hK2 => ?_
            refine awp_plain F_mixed [some 4] rfl ?_
            simp only [List.nil_append, List.cons_append, true_and, and_true, zz0, true_implies, Nat.reduceLT, Nat.reduceLeDiff, zzI, look_nil, Nat.reduceBEq, implies_true, evS_assign, zz6, Nat.reduceEqDiff, ↓reduceIte]
            refine hK2 _ ?_; try clear hK2 K2
            refine awp_keepL [4] ?_
            simp only [zz20, zzI, look_nil, Nat.reduceBEq]
            refine awp_ret ?_
            simp only [zz6, Nat.reduceEqDiff, ↓reduceIte]
            refine done0 (by simp only [resCs, resC]; trivial) ?_ (by simp [flatA, flatAs, flatD]) (by simp [AV.ids, AV.idsL])
            simp only [List.map_cons, List.map_nil, resA, S_getD, Nat.reduceLT, Nat.reduceLeDiff, look_cons, Nat.reduceBEq, cond_true, cond_false, resAll]
            simp only [tradeCheck, g0, g1, g2, g3, g4, cond_true, cond_false]
          · intro hb
            have g4 := hb; clear hb
            refine awp_skip ?_
            simp only [zz6, Nat.reduceEqDiff, ↓reduceIte]
            refine hK0 _ ?_; try clear hK0 K0
            refine awp_keepL [] ?_
            simp only [zz20, zzI, look_nil, Nat.reduceBEq]
            refine awp_seq fun K0 hK0 => ?_
            refine awp_plain F_mixed [some 4] rfl ?_
            simp only [List.nil_append, List.cons_append, true_and, and_true, zz0, true_implies, Nat.reduceLT, Nat.reduceLeDiff, zzI, look_nil, Nat.reduceBEq, implies_true, evS_assign, zz6, Nat.reduceEqDiff, ↓reduceIte]
            refine hK0 _ ?_; try clear hK0 K0
            refine awp_keepL [4] ?_
            simp only [zz20, zzI, look_nil, Nat.reduceBEq]
            refine awp_ret ?_
            simp only [zz6, Nat.reduceEqDiff, ↓reduceIte]
            refine done0 (by simp only [resCs, resC]; trivial) ?_ (by simp [flatA, flatAs, flatD]) (by simp [AV.ids, AV.idsL])
            simp only [List.map_cons, List.map_nil, resA, S_getD, Nat.reduceLT, Nat.reduceLeDiff, look_cons, Nat.reduceBEq, cond_true, cond_false, resAll]
            simp only [tradeCheck, g0, g1, g2, g3, g4, cond_true, cond_false]
theorem rLegsNoF (t : TradeV) (h : tradeOk t = false) : ACalls Try.prog 21 [.agg (tradeC t), .v (.bool false)] [] (.d (.v (.slice none 0 0))) := by
  refine acalls_S (rs := [.tmp 4]) Try.func21 rfl rfl 39 [(0, .d (.agg (tradeC t))), (1, .d (.v (.bool false)))] rfl (by simp) rfl ?_
  refine awp_seq fun K0 hK0 => ?_
  refine awp_plain F_mixed [some 2, some 4] rfl ?_
  simp only [List.nil_append, List.cons_append, true_and, and_true, zz0, true_implies, Nat.reduceLT, Nat.reduceLeDiff, zzI, look_nil, Nat.reduceBEq, implies_true, zz35, newRow1, zz1, zzG, zzD, zz16, Option.some.injEq, exists_eq_left', exists_eq_left, Option.map_some, eq_self, reduceCtorEq, and_self, Nat.reduceAdd, Nat.zero_add, zzF, zzB, zzE, evS_assign, tradeC, zz6, Nat.reduceEqDiff, ↓reduceIte]
  refine hK0 _ ?_; try clear hK0 K0
  refine awp_keepL [1, 2] ?_
  simp only [zz20, zzI, look_nil, Nat.reduceBEq]
  refine awp_seq fun K0 hK0 => ?_
  refine awp_seq fun K1 hK1 => ?_
  refine awp_plain F_mixed [some 6, some 7, some 8] rfl ?_
  simp only [List.nil_append, List.cons_append, true_and, and_true, zz0, true_implies, Nat.reduceLT, Nat.reduceLeDiff, zzI, look_nil, Nat.reduceBEq, implies_true, F_ok30, F_ag30, F_sz30, zz8, zz23, zzD, Nat.reduceAdd, Nat.zero_add, zzF, zzB, zzE, zz16, Option.some.injEq, exists_eq_left', exists_eq_left, Option.map_some, eq_self, reduceCtorEq, and_self, evS_call, evC_value, zz29, gr_v, zz30, tradeC, D.agg.injEq, zz6, Nat.reduceEqDiff, ↓reduceIte]
  refine call_go F_go32 (fun hG => rSized_ t) (by simp [AV.ids, AV.idsL]) (by simp) ?_
  simp only [List.nil_append, List.cons_append, true_and, and_true, zz0, true_implies, Nat.reduceLT, Nat.reduceLeDiff, zzI, look_nil, Nat.reduceBEq, implies_true, F_ok30, F_ag30, F_sz30, zz8, zz23, zzD, Nat.reduceAdd, Nat.zero_add, zzF, zzB, zzE, zz16, Option.some.injEq, exists_eq_left', exists_eq_left, Option.map_some, eq_self, reduceCtorEq, and_self, evS_call, evC_value, zz29, gr_v, zz30, tradeC, D.agg.injEq, zz6, Nat.reduceEqDiff, ↓reduceIte, atsL, oksG, freeN, AV.ren, AV.renL, addRows, ORow.row, Nat.reduceMul, Nat.reduceAdd, zz9, Option.bind_some, Option.map_some, forall_eq', D.sl.injEq, S_mem, Option.some.injEq, exists_eq_left', exists_eq_left, exists_eq', exists_eq, List.length_cons, zz2]
  refine hK1 _ ?_; try clear hK1 K1
  refine awp_keepL [1, 2, 8] ?_
  simp only [zz20, zzI, look_nil, Nat.reduceBEq]
  refine awp_condS _ (by decide) (by simp only [look_cons, Nat.reduceBEq, cond_true, cond_false]; rfl) ?_ ?_
  · intro hb
    clear hb
    refine awp_seq fun K2 hK2 => ?_
    refine awp_plain F_mixed [some 4] rfl ?_
    simp only [List.nil_append, List.cons_append, true_and, and_true, zz0, true_implies, Nat.reduceLT, Nat.reduceLeDiff, zzI, look_nil, Nat.reduceBEq, implies_true, evS_assign, zz6, Nat.reduceEqDiff, ↓reduceIte]
    refine hK2 _ ?_; try clear hK2 K2
    refine awp_keepL [4] ?_
    simp only [zz20, zzI, look_nil, Nat.reduceBEq]
    refine awp_ret ?_
    simp only [zz6, Nat.reduceEqDiff, ↓reduceIte]
    refine done0 (by simp only [resCs, resC]; trivial) ?_ (by simp [flatA, flatAs, flatD]) (by simp [AV.ids, AV.idsL])
    simp only [List.map_cons, List.map_nil, resA, S_getD, Nat.reduceLT, Nat.reduceLeDiff, look_cons, Nat.reduceBEq, cond_true, cond_false, resAll]
    
  · intro hb
    simp [h] at hb
theorem rLegsNoT (t : TradeV) (h : tradeOk t = false) : ACalls Try.prog 21 [.agg (tradeC t), .v (.bool true)] [] (.d (.v (.slice none 0 0))) := by
  refine acalls_S (rs := [.tmp 4]) Try.func21 rfl rfl 39 [(0, .d (.agg (tradeC t))), (1, .d (.v (.bool true)))] rfl (by simp) rfl ?_
  refine awp_seq fun K0 hK0 => ?_
  refine awp_plain F_mixed [some 2, some 4] rfl ?_
  simp only [List.nil_append, List.cons_append, true_and, and_true, zz0, true_implies, Nat.reduceLT, Nat.reduceLeDiff, zzI, look_nil, Nat.reduceBEq, implies_true, zz35, newRow1, zz1, zzG, zzD, zz16, Option.some.injEq, exists_eq_left', exists_eq_left, Option.map_some, eq_self, reduceCtorEq, and_self, Nat.reduceAdd, Nat.zero_add, zzF, zzB, zzE, evS_assign, tradeC, zz6, Nat.reduceEqDiff, ↓reduceIte]
  refine hK0 _ ?_; try clear hK0 K0
  refine awp_keepL [1, 2] ?_
  simp only [zz20, zzI, look_nil, Nat.reduceBEq]
  refine awp_seq fun K0 hK0 => ?_
  refine awp_seq fun K1 hK1 => ?_
  refine awp_plain F_mixed [some 6, some 7, some 8] rfl ?_
  simp only [List.nil_append, List.cons_append, true_and, and_true, zz0, true_implies, Nat.reduceLT, Nat.reduceLeDiff, zzI, look_nil, Nat.reduceBEq, implies_true, F_ok30, F_ag30, F_sz30, zz8, zz23, zzD, Nat.reduceAdd, Nat.zero_add, zzF, zzB, zzE, zz16, Option.some.injEq, exists_eq_left', exists_eq_left, Option.map_some, eq_self, reduceCtorEq, and_self, evS_call, evC_value, zz29, gr_v, zz30, tradeC, D.agg.injEq, zz6, Nat.reduceEqDiff, ↓reduceIte]
  refine call_go F_go32 (fun hG => rSized_ t) (by simp [AV.ids, AV.idsL]) (by simp) ?_
  simp only [List.nil_append, List.cons_append, true_and, and_true, zz0, true_implies, Nat.reduceLT, Nat.reduceLeDiff, zzI, look_nil, Nat.reduceBEq, implies_true, F_ok30, F_ag30, F_sz30, zz8, zz23, zzD, Nat.reduceAdd, Nat.zero_add, zzF, zzB, zzE, zz16, Option.some.injEq, exists_eq_left', exists_eq_left, Option.map_some, eq_self, reduceCtorEq, and_self, evS_call, evC_value, zz29, gr_v, zz30, tradeC, D.agg.injEq, zz6, Nat.reduceEqDiff, ↓reduceIte, atsL, oksG, freeN, AV.ren, AV.renL, addRows, ORow.row, Nat.reduceMul, Nat.reduceAdd, zz9, Option.bind_some, Option.map_some, forall_eq', D.sl.injEq, S_mem, Option.some.injEq, exists_eq_left', exists_eq_left, exists_eq', exists_eq, List.length_cons, zz2]
  refine hK1 _ ?_; try clear hK1 K1
  refine awp_keepL [1, 2, 8] ?_
  simp only [zz20, zzI, look_nil, Nat.reduceBEq]
  refine awp_condS _ (by decide) (by simp only [look_cons, Nat.reduceBEq, cond_true, cond_false]; rfl) ?_ ?_
  · intro hb
    clear hb
    refine awp_seq fun K2 hK2 => ?_
    refine awp_plain F_mixed [some 4] rfl ?_
    simp only [List.nil_append, List.cons_append, true_and, and_true, zz0, true_implies, Nat.reduceLT, Nat.reduceLeDiff, zzI, look_nil, Nat.reduceBEq, implies_true, evS_assign, zz6, Nat.reduceEqDiff, ↓reduceIte]
    refine hK2 _ ?_; try clear hK2 K2
    refine awp_keepL [4] ?_
    simp only [zz20, zzI, look_nil, Nat.reduceBEq]
    refine awp_ret ?_
    simp only [zz6, Nat.reduceEqDiff, ↓reduceIte]
    refine done0 (by simp only [resCs, resC]; trivial) ?_ (by simp [flatA, flatAs, flatD]) (by simp [AV.ids, AV.idsL])
    simp only [List.map_cons, List.map_nil, resA, S_getD, Nat.reduceLT, Nat.reduceLeDiff, look_cons, Nat.reduceBEq, cond_true, cond_false, resAll]
    
  · intro hb
    simp [h] at hb
theorem rLegsF (t : TradeV) (h : tradeOk t = true) : ACalls Try.prog 21 [.agg (tradeC t), .v (.bool false)] [⟨35, 4, legsC t⟩] (.ref 0 2) := by
  refine acalls_S (rs := [.tmp 4]) Try.func21 rfl rfl 39 [(0, .d (.agg (tradeC t))), (1, .d (.v (.bool false)))] rfl (by simp) rfl ?_
  obtain ⟨b1, b2, b3, b4, b5, b6⟩ := tradeOk_bound h
  have e1 := legs_e1 h
  have e2 := legs_e2 h
  have e3 := legs_e3 h
  refine awp_seq fun K0 hK0 => ?_
  refine awp_plain F_mixed [some 2, some 4] rfl ?_
  simp only [List.nil_append, List.cons_append, true_and, and_true, zz0, true_implies, Nat.reduceLT, Nat.reduceLeDiff, zzI, look_nil, Nat.reduceBEq, implies_true, zz35, newRow1, zz1, zzG, zzD, zz16, Option.some.injEq, exists_eq_left', exists_eq_left, Option.map_some, eq_self, reduceCtorEq, and_self, Nat.reduceAdd, Nat.zero_add, zzF, zzB, zzE, evS_assign, tradeC, zz6, Nat.reduceEqDiff, ↓reduceIte]
  refine hK0 _ ?_; try clear hK0 K0
  refine awp_keepL [1, 2] ?_
  simp only [zz20, zzI, look_nil, Nat.reduceBEq]
  refine awp_seq fun K0 hK0 => ?_
  refine awp_seq fun K1 hK1 => ?_
  refine awp_plain F_mixed [some 6, some 7, some 8] rfl ?_
  simp only [List.nil_append, List.cons_append, true_and, and_true, zz0, true_implies, Nat.reduceLT, Nat.reduceLeDiff, zzI, look_nil, Nat.reduceBEq, implies_true, F_ok30, F_ag30, F_sz30, zz8, zz23, zzD, Nat.reduceAdd, Nat.zero_add, zzF, zzB, zzE, zz16, Option.some.injEq, exists_eq_left', exists_eq_left, Option.map_some, eq_self, reduceCtorEq, and_self, evS_call, evC_value, zz29, gr_v, zz30, tradeC, D.agg.injEq, zz6, Nat.reduceEqDiff, ↓reduceIte]
  refine call_go F_go32 (fun hG => rSized_ t) (by simp [AV.ids, AV.idsL]) (by simp) ?_
  simp only [List.nil_append, List.cons_append, true_and, and_true, zz0, true_implies, Nat.reduceLT, Nat.reduceLeDiff, zzI, look_nil, Nat.reduceBEq, implies_true, F_ok30, F_ag30, F_sz30, zz8, zz23, zzD, Nat.reduceAdd, Nat.zero_add, zzF, zzB, zzE, zz16, Option.some.injEq, exists_eq_left', exists_eq_left, Option.map_some, eq_self, reduceCtorEq, and_self, evS_call, evC_value, zz29, gr_v, zz30, tradeC, D.agg.injEq, zz6, Nat.reduceEqDiff, ↓reduceIte, atsL, oksG, freeN, AV.ren, AV.renL, addRows, ORow.row, Nat.reduceMul, Nat.reduceAdd, zz9, Option.bind_some, Option.map_some, forall_eq', D.sl.injEq, S_mem, Option.some.injEq, exists_eq_left', exists_eq_left, exists_eq', exists_eq, List.length_cons, zz2]
  refine hK1 _ ?_; try clear hK1 K1
  refine awp_keepL [1, 2, 8] ?_
  simp only [zz20, zzI, look_nil, Nat.reduceBEq]
  refine awp_condS _ (by decide) (by simp only [look_cons, Nat.reduceBEq, cond_true, cond_false]; rfl) ?_ ?_
  · intro hb
    simp [h] at hb
  · intro hb
    clear hb
    refine awp_skip ?_
    simp only [zz6, Nat.reduceEqDiff, ↓reduceIte]
    refine hK0 _ ?_; try clear hK0 K0
    refine awp_keepL [1, 2] ?_
    simp only [zz20, zzI, look_nil, Nat.reduceBEq]
    refine awp_seq fun K0 hK0 => ?_
    refine awp_plain F_mixed [some 9, some 10, some 5] rfl ?_
    simp only [List.nil_append, List.cons_append, true_and, and_true, zz0, true_implies, Nat.reduceLT, Nat.reduceLeDiff, zzI, look_nil, Nat.reduceBEq, implies_true, zz19, zz23, F_off30_4, zzB, Nat.zero_add, Nat.reduceAdd, F_ok3, F_ag3, F_sz3, zz8, zzD, zzF, zzE, zz16, Option.some.injEq, exists_eq_left', exists_eq_left, Option.map_some, eq_self, reduceCtorEq, and_self, evS_assign, zz6, Nat.reduceEqDiff, ↓reduceIte]
    refine hK0 _ ?_; try clear hK0 K0
    refine awp_keepL [1, 2, 5] ?_
    simp only [zz20, zzI, look_nil, Nat.reduceBEq]
    refine awp_seq fun K0 hK0 => ?_
    refine awp_seq fun K1 hK1 => ?_
    refine awp_plain F_mixed [some 11] rfl ?_
    simp only [List.nil_append, List.cons_append, true_and, and_true, zz0, true_implies, Nat.reduceLT, Nat.reduceLeDiff, zzI, look_nil, Nat.reduceBEq, implies_true, evS_move, zz6, Nat.reduceEqDiff, ↓reduceIte]
    refine hK1 _ ?_; try clear hK1 K1
    refine awp_keepL [2, 5, 11] ?_
    simp only [zz20, zzI, look_nil, Nat.reduceBEq]
    refine awp_condS _ (by decide) (by simp only [look_cons, Nat.reduceBEq, cond_true, cond_false]; rfl) ?_ ?_
    · intro hb
      simp at hb
    · intro hb
      clear hb
      refine awp_skip ?_
      simp only [zz6, Nat.reduceEqDiff, ↓reduceIte]
      refine hK0 _ ?_; try clear hK0 K0
      refine awp_keepL [2, 5] ?_
      simp only [zz20, zzI, look_nil, Nat.reduceBEq]
      refine awp_seq fun K0 hK0 => ?_
      refine awp_plain F_mixed [some 14, some 15, some 16, some 17, some 18, some 19, some 20, some 21, some 22, some 23, some 24, some 25, some 26, some 27, some 28, some 29, some 30, some 31, some 32, some 33, some 34, some 35, some 36, some 37, some 38, some 4] rfl ?_
      simp only [List.nil_append, List.cons_append, true_and, and_true, zz0, true_implies, Nat.reduceLT, Nat.reduceLeDiff, zzI, look_nil, Nat.reduceBEq, implies_true, zz19, zz23, F_off30_1, zzB, Nat.zero_add, Nat.reduceAdd, F_ok3, F_ag3, F_sz3, zz8, zzD, zzF, zzE, zz16, Option.some.injEq, exists_eq_left', exists_eq_left, Option.map_some, eq_self, reduceCtorEq, and_self, F_off30_3, F_zero33, F_bld33, zz7, splice, Option.getD_some, List.append_nil, zz1, zzG, zz10, F_fld33_0, F_fld33_1, evS_move, F_off30_5, zz21, gr_v, zz36, F_zero35, F_bld35, F_fld35_0, F_fld35_1, F_fld35_2, F_off30_2, zz29, zz37, F_sl22, F_sz35, zz3, newRow1, maxLen_le, Nat.reduceMul, evS_assign, e1, e2, e3, zz6, Nat.reduceEqDiff, ↓reduceIte]
      refine hK0 _ ?_; try clear hK0 K0
      refine awp_keepL [4] ?_
      simp only [zz20, zzI, look_nil, Nat.reduceBEq]
      refine awp_ret ?_
      simp only [zz6, Nat.reduceEqDiff, ↓reduceIte]
      refine done1 38 (by simp only [resCs, resC]; trivial) ?_ (by simp [flatA, flatAs, flatD, legsC, posC, legA, legB]) (by simp [AV.ids, AV.idsL, legsC, posC, legA, legB]) (by rfl) trivial rfl rfl ?_ (by simp [flatDs, flatD, legsC, posC, legA, legB])
      · simp only [List.map_cons, List.map_nil, resA, S_getD, Nat.reduceLT, Nat.reduceLeDiff, look_cons, Nat.reduceBEq, cond_true, cond_false, resAll]; rfl
      · simp [legsC, posC, legA, legB, avC]
theorem rLegsT (t : TradeV) (h : tradeOk t = true) : ACalls Try.prog 21 [.agg (tradeC t), .v (.bool true)] [⟨35, 4, undoC t⟩] (.ref 0 2) := by
  refine acalls_S (rs := [.tmp 4]) Try.func21 rfl rfl 39 [(0, .d (.agg (tradeC t))), (1, .d (.v (.bool true)))] rfl (by simp) rfl ?_
  obtain ⟨b1, b2, b3, b4, b5, b6⟩ := tradeOk_bound h
  have e1 := legs_e1 h
  have e2 := legs_e2 h
  have e3 := legs_e3 h
  refine awp_seq fun K0 hK0 => ?_
  refine awp_plain F_mixed [some 2, some 4] rfl ?_
  simp only [List.nil_append, List.cons_append, true_and, and_true, zz0, true_implies, Nat.reduceLT, Nat.reduceLeDiff, zzI, look_nil, Nat.reduceBEq, implies_true, zz35, newRow1, zz1, zzG, zzD, zz16, Option.some.injEq, exists_eq_left', exists_eq_left, Option.map_some, eq_self, reduceCtorEq, and_self, Nat.reduceAdd, Nat.zero_add, zzF, zzB, zzE, evS_assign, tradeC, zz6, Nat.reduceEqDiff, ↓reduceIte]
  refine hK0 _ ?_; try clear hK0 K0
  refine awp_keepL [1, 2] ?_
  simp only [zz20, zzI, look_nil, Nat.reduceBEq]
  refine awp_seq fun K0 hK0 => ?_
  refine awp_seq fun K1 hK1 => ?_
  refine awp_plain F_mixed [some 6, some 7, some 8] rfl ?_
  simp only [List.nil_append, List.cons_append, true_and, and_true, zz0, true_implies, Nat.reduceLT, Nat.reduceLeDiff, zzI, look_nil, Nat.reduceBEq, implies_true, F_ok30, F_ag30, F_sz30, zz8, zz23, zzD, Nat.reduceAdd, Nat.zero_add, zzF, zzB, zzE, zz16, Option.some.injEq, exists_eq_left', exists_eq_left, Option.map_some, eq_self, reduceCtorEq, and_self, evS_call, evC_value, zz29, gr_v, zz30, tradeC, D.agg.injEq, zz6, Nat.reduceEqDiff, ↓reduceIte]
  refine call_go F_go32 (fun hG => rSized_ t) (by simp [AV.ids, AV.idsL]) (by simp) ?_
  simp only [List.nil_append, List.cons_append, true_and, and_true, zz0, true_implies, Nat.reduceLT, Nat.reduceLeDiff, zzI, look_nil, Nat.reduceBEq, implies_true, F_ok30, F_ag30, F_sz30, zz8, zz23, zzD, Nat.reduceAdd, Nat.zero_add, zzF, zzB, zzE, zz16, Option.some.injEq, exists_eq_left', exists_eq_left, Option.map_some, eq_self, reduceCtorEq, and_self, evS_call, evC_value, zz29, gr_v, zz30, tradeC, D.agg.injEq, zz6, Nat.reduceEqDiff, ↓reduceIte, atsL, oksG, freeN, AV.ren, AV.renL, addRows, ORow.row, Nat.reduceMul, Nat.reduceAdd, zz9, Option.bind_some, Option.map_some, forall_eq', D.sl.injEq, S_mem, Option.some.injEq, exists_eq_left', exists_eq_left, exists_eq', exists_eq, List.length_cons, zz2]
  refine hK1 _ ?_; try clear hK1 K1
  refine awp_keepL [1, 2, 8] ?_
  simp only [zz20, zzI, look_nil, Nat.reduceBEq]
  refine awp_condS _ (by decide) (by simp only [look_cons, Nat.reduceBEq, cond_true, cond_false]; rfl) ?_ ?_
  · intro hb
    simp [h] at hb
  · intro hb
    clear hb
    refine awp_skip ?_
    simp only [zz6, Nat.reduceEqDiff, ↓reduceIte]
    refine hK0 _ ?_; try clear hK0 K0
    refine awp_keepL [1, 2] ?_
    simp only [zz20, zzI, look_nil, Nat.reduceBEq]
    refine awp_seq fun K0 hK0 => ?_
    refine awp_plain F_mixed [some 9, some 10, some 5] rfl ?_
    simp only [List.nil_append, List.cons_append, true_and, and_true, zz0, true_implies, Nat.reduceLT, Nat.reduceLeDiff, zzI, look_nil, Nat.reduceBEq, implies_true, zz19, zz23, F_off30_4, zzB, Nat.zero_add, Nat.reduceAdd, F_ok3, F_ag3, F_sz3, zz8, zzD, zzF, zzE, zz16, Option.some.injEq, exists_eq_left', exists_eq_left, Option.map_some, eq_self, reduceCtorEq, and_self, evS_assign, zz6, Nat.reduceEqDiff, ↓reduceIte]
    refine hK0 _ ?_; try clear hK0 K0
    refine awp_keepL [1, 2, 5] ?_
    simp only [zz20, zzI, look_nil, Nat.reduceBEq]
    refine awp_seq fun K0 hK0 => ?_
    refine awp_seq fun K1 hK1 => ?_
    refine awp_plain F_mixed [some 11] rfl ?_
    simp only [List.nil_append, List.cons_append, true_and, and_true, zz0, true_implies, Nat.reduceLT, Nat.reduceLeDiff, zzI, look_nil, Nat.reduceBEq, implies_true, evS_move, zz6, Nat.reduceEqDiff, ↓reduceIte]
    refine hK1 _ ?_; try clear hK1 K1
    refine awp_keepL [2, 5, 11] ?_
    simp only [zz20, zzI, look_nil, Nat.reduceBEq]
    refine awp_condS _ (by decide) (by simp only [look_cons, Nat.reduceBEq, cond_true, cond_false]; rfl) ?_ ?_
    · intro hb
      clear hb
      refine awp_plain F_mixed [some 12, some 13, some 5] rfl ?_
      simp only [List.nil_append, List.cons_append, true_and, and_true, zz0, true_implies, Nat.reduceLT, Nat.reduceLeDiff, zzI, look_nil, Nat.reduceBEq, implies_true, evS_move, zz29, gr_v, zz37, evS_assign, zz6, Nat.reduceEqDiff, ↓reduceIte]
      refine hK0 _ ?_; try clear hK0 K0
      refine awp_keepL [2, 5] ?_
      simp only [zz20, zzI, look_nil, Nat.reduceBEq]
      refine awp_seq fun K0 hK0 => ?_
      refine awp_plain F_mixed [some 14, some 15, some 16, some 17, some 18, some 19, some 20, some 21, some 22, some 23, some 24, some 25, some 26, some 27, some 28, some 29, some 30, some 31, some 32, some 33, some 34, some 35, some 36, some 37, some 38, some 4] rfl ?_
      simp only [List.nil_append, List.cons_append, true_and, and_true, zz0, true_implies, Nat.reduceLT, Nat.reduceLeDiff, zzI, look_nil, Nat.reduceBEq, implies_true, zz19, zz23, F_off30_1, zzB, Nat.zero_add, Nat.reduceAdd, F_ok3, F_ag3, F_sz3, zz8, zzD, zzF, zzE, zz16, Option.some.injEq, exists_eq_left', exists_eq_left, Option.map_some, eq_self, reduceCtorEq, and_self, F_off30_3, F_zero33, F_bld33, zz7, splice, Option.getD_some, List.append_nil, zz1, zzG, zz10, F_fld33_0, F_fld33_1, evS_move, F_off30_5, zz21, gr_v, zz36, F_zero35, F_bld35, F_fld35_0, F_fld35_1, F_fld35_2, F_off30_2, zz29, zz37, F_sl22, F_sz35, zz3, newRow1, maxLen_le, Nat.reduceMul, evS_assign, e1, e2, e3, zz6, Nat.reduceEqDiff, ↓reduceIte]
      refine hK0 _ ?_; try clear hK0 K0
      refine awp_keepL [4] ?_
      simp only [zz20, zzI, look_nil, Nat.reduceBEq]
      refine awp_ret ?_
      simp only [zz6, Nat.reduceEqDiff, ↓reduceIte]
      refine done1 38 (by simp only [resCs, resC]; trivial) ?_ (by simp [flatA, flatAs, flatD, undoC, unLeg, posC, legA, legB]) (by simp [AV.ids, AV.idsL, undoC, unLeg, posC, legA, legB]) (by rfl) trivial rfl rfl ?_ (by simp [flatDs, flatD, undoC, unLeg, posC, legA, legB])
      · simp only [List.map_cons, List.map_nil, resA, S_getD, Nat.reduceLT, Nat.reduceLeDiff, look_cons, Nat.reduceBEq, cond_true, cond_false, resAll]; rfl
      · simp [undoC, unLeg, posC, legA, legB, avC]
    · intro hb
      simp at hb
theorem rLegsFz (t : TradeV) : ACalls Try.prog 21 [.agg (tradeC t), .v (.bool false)] [] (.d (poss (legs t))) := by
  unfold legs
  cases h : tradeOk t
  · exact (ACalls.nil_row 35 4 (rLegsNoF t h)).freeze (by simp [frzOk])
  · exact (rLegsF t h).freeze (by simp [frzOk, legsC])
theorem rUndoFz (t : TradeV) : ACalls Try.prog 21 [.agg (tradeC t), .v (.bool true)] [] (.d (poss (undo t))) := by
  unfold undo legs
  cases h : tradeOk t
  · exact (ACalls.nil_row 35 4 (rLegsNoT t h)).freeze (by simp [frzOk])
  · exact (rLegsT t h).freeze (by simp [frzOk, undoC])
end Go.Proofs.Ytbagefpamkhndaa
