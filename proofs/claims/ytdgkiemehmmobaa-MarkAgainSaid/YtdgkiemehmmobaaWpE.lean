import Derived.Test.YtdgkiemehmmobaaWpD
namespace Go.Proofs.Ytdgkiemehmmobaa
open Go.RowKit
set_option linter.unusedVariables false
set_option linter.unusedSimpArgs false
theorem F_off40_0 : offT Try.prog 40 0 = some 0 := by kernel_rfl
theorem F_ok36 : tyOk Try.prog 36 = true := by kernel_rfl
theorem F_ag36 : aggT Try.prog 36 = false := by kernel_rfl
theorem F_sz36 : szT Try.prog 36 = 1 := by kernel_rfl
theorem F_off40_1 : offT Try.prog 40 1 = some 1 := by kernel_rfl
theorem F_ok37 : tyOk Try.prog 37 = true := by kernel_rfl
theorem F_ag37 : aggT Try.prog 37 = false := by kernel_rfl
theorem F_sz37 : szT Try.prog 37 = 1 := by kernel_rfl
theorem F_off40_2 : offT Try.prog 40 2 = some 2 := by kernel_rfl
theorem F_ok38 : tyOk Try.prog 38 = true := by kernel_rfl
theorem F_ag38 : aggT Try.prog 38 = false := by kernel_rfl
theorem F_sz38 : szT Try.prog 38 = 1 := by kernel_rfl
theorem F_go56 : goFn Try.prog 56 := ⟨_, Try.func56, rfl, rfl⟩
theorem F_go59 : goFn Try.prog 59 := ⟨_, Try.func59, rfl, rfl⟩
theorem F_go62 : goFn Try.prog 62 := ⟨_, Try.func62, rfl, rfl⟩
theorem F_go82 : goFn Try.prog 82 := ⟨_, Try.func82, rfl, rfl⟩
theorem F_ok40 : tyOk Try.prog 40 = true := by kernel_rfl
theorem F_ag40 : aggT Try.prog 40 = true := by kernel_rfl
theorem F_sz40 : szT Try.prog 40 = 3 := by kernel_rfl
theorem F_off23_1 : offT Try.prog 23 1 = some 1 := by kernel_rfl
theorem F_go69 : goFn Try.prog 69 := ⟨_, Try.func69, rfl, rfl⟩
theorem check_ (r : RollV) (h : r.Small) : ACalls Try.prog 37 [.agg (rollC r)] [] (.d (iv (rollE r))) := by
  refine acalls_S (rs := [.tmp 2]) Try.func37 rfl rfl 19 [(0, .d (.agg (rollC r)))] rfl (by simp) rfl ?_
  refine awp_seq fun K0 hK0 => ?_
  refine awp_plain F_mixed [some 1, some 2] rfl ?_
  simp only [List.nil_append, List.cons_append, true_and, and_true, zz0, true_implies, Nat.reduceLT, Nat.reduceLeDiff, zzI, look_nil, Nat.reduceBEq, implies_true, zz35, newRow1, zz1, zzG, zzD, zz16, Option.some.injEq, exists_eq_left', exists_eq_left, Option.map_some, eq_self, reduceCtorEq, and_self, Nat.reduceAdd, Nat.zero_add, zzF, zzB, zzE, evS_assign, rollC, memsD, instsD, assetsD, zz6, Nat.reduceEqDiff, ↓reduceIte]
  refine hK0 _ ?_; try clear hK0 K0
  refine awp_keepL [1] ?_
  simp only [zz20, zzI, look_nil, Nat.reduceBEq]
  refine awp_seq fun K0 hK0 => ?_
  refine awp_seq fun K1 hK1 => ?_
  refine awp_plain F_mixed [some 3, some 4, some 5, some 6, some 7, some 8, some 9, some 10, some 11, some 12, some 13, some 14, some 15, some 16, some 17, some 18] rfl ?_
  simp only [List.nil_append, List.cons_append, true_and, and_true, zz0, true_implies, Nat.reduceLT, Nat.reduceLeDiff, zzI, look_nil, Nat.reduceBEq, implies_true, Nat.reduceSub, S_getD, zz5, and_imp, imp_and, imp_self, and_self, zz19, zz23, F_off40_0, zzB, Nat.zero_add, Nat.reduceAdd, F_ok36, F_ag36, F_sz36, zz8, zzD, zzF, zzE, zz16, Option.some.injEq, exists_eq_left', exists_eq_left, Option.map_some, eq_self, reduceCtorEq, evS_call, evC_value, zz29, gr_v, zz30, evS_move, F_off40_1, F_ok37, F_ag37, F_sz37, zz13, F_off40_2, F_ok38, F_ag38, F_sz38, memsD, instsD, assetsD, fnD, zz6, Nat.reduceEqDiff, ↓reduceIte]
  refine call_go F_go56 (fun hG => risesM_ r.mems (by have := h.mems; omega)) (by simp [AV.ids, AV.idsL]) (by simp) ?_
  simp only [List.nil_append, List.cons_append, true_and, and_true, zz0, true_implies, Nat.reduceLT, Nat.reduceLeDiff, zzI, look_nil, Nat.reduceBEq, implies_true, Nat.reduceSub, S_getD, zz5, and_imp, imp_and, imp_self, and_self, zz19, zz23, F_off40_0, zzB, Nat.zero_add, Nat.reduceAdd, F_ok36, F_ag36, F_sz36, zz8, zzD, zzF, zzE, zz16, Option.some.injEq, exists_eq_left', exists_eq_left, Option.map_some, eq_self, reduceCtorEq, evS_call, evC_value, zz29, gr_v, zz30, evS_move, F_off40_1, F_ok37, F_ag37, F_sz37, zz13, F_off40_2, F_ok38, F_ag38, F_sz38, memsD, instsD, assetsD, fnD, zz6, Nat.reduceEqDiff, ↓reduceIte, atsL, oksG, freeN, AV.ren, AV.renL, addRows, ORow.row, Nat.reduceMul, Nat.reduceAdd, zz9, Option.bind_some, Option.map_some, forall_eq', D.sl.injEq, S_mem, Option.some.injEq, exists_eq_left', exists_eq_left, exists_eq', exists_eq, List.length_cons, zz2]
  refine call_go F_go59 (fun hG => risesI_ r.insts (by have := h.insts; omega)) (by simp [AV.ids, AV.idsL]) (by simp) ?_
  simp only [List.nil_append, List.cons_append, true_and, and_true, zz0, true_implies, Nat.reduceLT, Nat.reduceLeDiff, zzI, look_nil, Nat.reduceBEq, implies_true, Nat.reduceSub, S_getD, zz5, and_imp, imp_and, imp_self, and_self, zz19, zz23, F_off40_0, zzB, Nat.zero_add, Nat.reduceAdd, F_ok36, F_ag36, F_sz36, zz8, zzD, zzF, zzE, zz16, Option.some.injEq, exists_eq_left', exists_eq_left, Option.map_some, eq_self, reduceCtorEq, evS_call, evC_value, zz29, gr_v, zz30, evS_move, F_off40_1, F_ok37, F_ag37, F_sz37, zz13, F_off40_2, F_ok38, F_ag38, F_sz38, memsD, instsD, assetsD, fnD, zz6, Nat.reduceEqDiff, ↓reduceIte, atsL, oksG, freeN, AV.ren, AV.renL, addRows, ORow.row, Nat.reduceMul, Nat.reduceAdd, zz9, Option.bind_some, Option.map_some, forall_eq', D.sl.injEq, S_mem, Option.some.injEq, exists_eq_left', exists_eq_left, exists_eq', exists_eq, List.length_cons, zz2]
  refine call_go F_go62 (fun hG => risesA_ r.assets (by have := h.assets; omega)) (by simp [AV.ids, AV.idsL]) (by simp) ?_
  simp only [List.nil_append, List.cons_append, true_and, and_true, zz0, true_implies, Nat.reduceLT, Nat.reduceLeDiff, zzI, look_nil, Nat.reduceBEq, implies_true, Nat.reduceSub, S_getD, zz5, and_imp, imp_and, imp_self, and_self, zz19, zz23, F_off40_0, zzB, Nat.zero_add, Nat.reduceAdd, F_ok36, F_ag36, F_sz36, zz8, zzD, zzF, zzE, zz16, Option.some.injEq, exists_eq_left', exists_eq_left, Option.map_some, eq_self, reduceCtorEq, evS_call, evC_value, zz29, gr_v, zz30, evS_move, F_off40_1, F_ok37, F_ag37, F_sz37, zz13, F_off40_2, F_ok38, F_ag38, F_sz38, memsD, instsD, assetsD, fnD, zz6, Nat.reduceEqDiff, ↓reduceIte, atsL, oksG, freeN, AV.ren, AV.renL, addRows, ORow.row, Nat.reduceMul, Nat.reduceAdd, zz9, Option.bind_some, Option.map_some, forall_eq', D.sl.injEq, S_mem, Option.some.injEq, exists_eq_left', exists_eq_left, exists_eq', exists_eq, List.length_cons, zz2]
  refine hK1 _ ?_; try clear hK1 K1
  refine awp_keepL [18] ?_
  simp only [zz20, zzI, look_nil, Nat.reduceBEq]
  refine awp_condS _ (by decide) (by simp only [look_cons, Nat.reduceBEq, cond_true, cond_false]; rfl) ?_ ?_
  · intro hb
    refine awp_seq fun K2 hK2 => ?_
    refine awp_plain F_mixed [some 2] rfl ?_
    simp only [List.nil_append, List.cons_append, true_and, and_true, zz0, true_implies, Nat.reduceLT, Nat.reduceLeDiff, zzI, look_nil, Nat.reduceBEq, implies_true, evS_assign, zz6, Nat.reduceEqDiff, ↓reduceIte]
    refine hK2 _ ?_; try clear hK2 K2
    refine awp_keepL [2] ?_
    simp only [zz20, zzI, look_nil, Nat.reduceBEq]
    refine awp_ret ?_
    simp only [zz6, Nat.reduceEqDiff, ↓reduceIte]
    refine done0 (by simp only [resCs, resC]; trivial) ?_ (by simp [flatA, flatAs, flatD]) (by simp [AV.ids, AV.idsL])
    simp only [List.map_cons, List.map_nil, resA, S_getD, Nat.reduceLT, Nat.reduceLeDiff, look_cons, Nat.reduceBEq, cond_true, cond_false, resAll]
    have e : rollOk r = false := by
      cases hk : rollOk r
      · rfl
      · simp [rollOk] at hk; simp [hk] at hb
    simp only [rollE, e, cond_false]
  · intro hb
    refine awp_skip ?_
    simp only [zz6, Nat.reduceEqDiff, ↓reduceIte]
    refine hK0 _ ?_; try clear hK0 K0
    refine awp_keepL [] ?_
    simp only [zz20, zzI, look_nil, Nat.reduceBEq]
    refine awp_seq fun K0 hK0 => ?_
    refine awp_plain F_mixed [some 2] rfl ?_
    simp only [List.nil_append, List.cons_append, true_and, and_true, zz0, true_implies, Nat.reduceLT, Nat.reduceLeDiff, zzI, look_nil, Nat.reduceBEq, implies_true, evS_assign, zz6, Nat.reduceEqDiff, ↓reduceIte]
    refine hK0 _ ?_; try clear hK0 K0
    refine awp_keepL [2] ?_
    simp only [zz20, zzI, look_nil, Nat.reduceBEq]
    refine awp_ret ?_
    simp only [zz6, Nat.reduceEqDiff, ↓reduceIte]
    refine done0 (by simp only [resCs, resC]; trivial) ?_ (by simp [flatA, flatAs, flatD]) (by simp [AV.ids, AV.idsL])
    simp only [List.map_cons, List.map_nil, resA, S_getD, Nat.reduceLT, Nat.reduceLeDiff, look_cons, Nat.reduceBEq, cond_true, cond_false, resAll]
    have e : rollOk r = true := by simp only [Bool.or_eq_false_iff, Bool.not_eq_false'] at hb; simp [rollOk, hb]
    simp only [rollE, e, cond_true]
theorem heavy_ (r : RollV) : ACalls Try.prog 11 [.agg (rollC r)] [] (bv (heavy r)) := by
  refine acalls_S (rs := [.tmp 2]) Try.func11 rfl rfl 19 [(0, .d (.agg (rollC r)))] rfl (by simp) rfl ?_
  refine awp_seq fun K0 hK0 => ?_
  refine awp_plain F_mixed [some 1, some 2] rfl ?_
  simp only [List.nil_append, List.cons_append, true_and, and_true, zz0, true_implies, Nat.reduceLT, Nat.reduceLeDiff, zzI, look_nil, Nat.reduceBEq, implies_true, zz35, newRow1, zz1, zzG, zzD, zz16, Option.some.injEq, exists_eq_left', exists_eq_left, Option.map_some, eq_self, reduceCtorEq, and_self, Nat.reduceAdd, Nat.zero_add, zzF, zzB, zzE, evS_assign, rollC, memsD, instsD, assetsD, zz6, Nat.reduceEqDiff, ↓reduceIte]
  refine hK0 _ ?_; try clear hK0 K0
  refine awp_keepL [1] ?_
  simp only [zz20, zzI, look_nil, Nat.reduceBEq]
  refine awp_seq fun K0 hK0 => ?_
  refine awp_plain F_mixed [some 3, some 4, some 5, some 6, some 7, some 8, some 9, some 10, some 11, some 12, some 13, some 14, some 15, some 16, some 17, some 18, some 2] rfl ?_
  simp only [List.nil_append, List.cons_append, true_and, and_true, zz0, true_implies, Nat.reduceLT, Nat.reduceLeDiff, zzI, look_nil, Nat.reduceBEq, implies_true, Nat.reduceSub, S_getD, zz5, and_imp, imp_and, imp_self, and_self, zz19, zz23, F_off40_0, zzB, Nat.zero_add, Nat.reduceAdd, F_ok36, F_ag36, F_sz36, zz8, zzD, zzF, zzE, zz16, Option.some.injEq, exists_eq_left', exists_eq_left, Option.map_some, eq_self, reduceCtorEq, evS_call, zz12, F_sl36, Option.isSome_some, zz21, gr_v, zz25, evS_move, F_off40_1, F_ok37, F_ag37, F_sz37, F_sl37, zz13, F_off40_2, F_ok38, F_ag38, F_sz38, F_sl38, evS_assign, memsD, instsD, assetsD, len_map, zz6, Nat.reduceEqDiff, ↓reduceIte]
  refine hK0 _ ?_; try clear hK0 K0
  refine awp_keepL [2] ?_
  simp only [zz20, zzI, look_nil, Nat.reduceBEq]
  refine awp_ret ?_
  simp only [zz6, Nat.reduceEqDiff, ↓reduceIte]
  refine done0 (by simp only [resCs, resC]; trivial) ?_ (by simp [flatA, flatAs, flatD]) (by simp [AV.ids, AV.idsL])
  simp only [List.map_cons, List.map_nil, resA, S_getD, Nat.reduceLT, Nat.reduceLeDiff, look_cons, Nat.reduceBEq, cond_true, cond_false, resAll]
  rfl
theorem findIn_ (l : List InstV) (n : Int) (hl : l.length ≤ 1000000) : ACalls Try.prog 82 [instsD l, fnD 60, iv n] [] (.tp [instA (findX InstV.no n zInst l), .d (iv (findI InstV.no n 0 l))]) := by
  refine acalls_S (rs := [.cell 6 33, .tmp 7]) Try.func82 rfl rfl 27 [(0, .d (instsD l)), (1, .d (fnD 60)), (2, .d (iv n))] rfl (by simp) rfl ?_
  refine awp_seq fun K0 hK0 => ?_
  refine awp_plain F_mixed [some 6, some 7] rfl ?_
  simp only [List.nil_append, List.cons_append, true_and, and_true, zz0, true_implies, Nat.reduceLT, Nat.reduceLeDiff, zzI, look_nil, Nat.reduceBEq, implies_true, zz32, newRow1, F_zero33, zz16, Option.some.injEq, exists_eq_left', exists_eq_left, Option.map_some, eq_self, reduceCtorEq, and_self, zzD, Nat.reduceAdd, Nat.zero_add, zzF, zzB, zzE, zz10, evS_assign, zz6, Nat.reduceEqDiff, ↓reduceIte]
  refine hK0 _ ?_; try clear hK0 K0
  refine awp_keepL [0, 1, 2, 6] ?_
  simp only [zz20, zzI, look_nil, Nat.reduceBEq]
  refine awp_seq fun K0 hK0 => ?_
  refine awp_seq fun K1 hK1 => ?_
  refine awp_plain F_mixed [some 11, some 12, some 13] rfl ?_
  simp only [List.nil_append, List.cons_append, true_and, and_true, zz0, true_implies, Nat.reduceLT, Nat.reduceLeDiff, zzI, look_nil, Nat.reduceBEq, implies_true, evS_move, evS_call, zz12, F_sl37, Option.isSome_some, instsD, len_map, zz6, Nat.reduceEqDiff, ↓reduceIte]
  refine hK1 _ ?_; try clear hK1 K1
  refine awp_keepL [1, 2, 6, 11, 12, 13] ?_
  simp only [zz20, zzI, look_nil, Nat.reduceBEq]
  refine awp_block ?_
  refine awp_loop (fun m s => ∃ pre post : List InstV, l = pre ++ post ∧ findX InstV.no n zInst l = findX InstV.no n zInst post ∧ findI InstV.no n 0 l = findI InstV.no n pre.length post ∧ m = post.length ∧ s = S 27 [(1, .d (fnD 60)), (2, .d (iv n)), (6, .ptr 6 0 0), (11, .d (instsD l)), (12, .d (iv l.length)), (13, .d (iv pre.length))] [(6, (⟨True, 33, 12, true, false, 6, [[.d (.v (.int .i64 0)), .d (.v (.int .i64 0)), .d (.v (.int .i64 0)), .d (.v (.int .i64 0)), .d (.v (.int .i64 0)), .d (.v (.int .i64 0)), .d (.v (.int .i64 0)), .d (.v (.int .i64 0)), .d (.v (.int .i64 0)), .d (.v (.int .i64 0)), .d (.v (.int .i64 0)), .d (.v (.int .i64 0))]]⟩ : ARow))]) l.length _ (le_SK id [] rfl (l' := [(1, .d (fnD 60)), (2, .d (iv n)), (6, .ptr 6 0 0), (11, .d (instsD l)), (12, .d (iv l.length)), (13, .d (iv ([] : List InstV).length))]) (m' := [(6, (⟨True, 33, 12, true, false, 6, [[.d (.v (.int .i64 0)), .d (.v (.int .i64 0)), .d (.v (.int .i64 0)), .d (.v (.int .i64 0)), .d (.v (.int .i64 0)), .d (.v (.int .i64 0)), .d (.v (.int .i64 0)), .d (.v (.int .i64 0)), .d (.v (.int .i64 0)), .d (.v (.int .i64 0)), .d (.v (.int .i64 0)), .d (.v (.int .i64 0))]]⟩ : ARow))]) ?_ ?_ ?_ ?_) ⟨[], l, rfl, rfl, rfl, rfl, rfl⟩ ?_
  · simp only [leV, look_cons, Nat.reduceBEq, cond_true, cond_false, instsD, len_map]; exact ⟨VLe.refl _, VLe.refl _, VLe.refl _, VLe.refl _, VLe.refl _, VLe.refl _, trivial⟩
  · exact ⟨fun _ => ⟨_, rfl, ⟨id, rfl, rfl, rfl, id, .inl, VLess.refl _⟩⟩, fun h => by simp at h, trivial⟩
  · simp [wfV, AV.ids, lookR]
  · simp [wfR, AV.idsL, AV.ids]
  rintro m s ⟨pre, post, rfl, hfx, hfi, rfl, rfl⟩
  refine awp_seq fun K2 hK2 => ?_
  refine awp_plain F_mixed [some 14] rfl ?_
  simp only [List.nil_append, List.cons_append, true_and, and_true, zz0, true_implies, Nat.reduceLT, Nat.reduceLeDiff, zzI, look_nil, Nat.reduceBEq, implies_true, zz21, gr_v, zz22, zz6, Nat.reduceEqDiff, ↓reduceIte]
  refine hK2 _ ?_; try clear hK2 K2
  refine awp_keepL [1, 2, 6, 11, 12, 13, 14] ?_
  simp only [zz20, zzI, look_nil, Nat.reduceBEq]
  refine awp_seq fun K2 hK2 => ?_
  refine awp_condS _ (by decide) (by simp only [look_cons, Nat.reduceBEq, cond_true, cond_false]; rfl) ?_ ?_
  · intro hb
    obtain ⟨x, post, rfl⟩ := more_of hb; clear hb
    refine awp_skip ?_
    simp only [zz6, Nat.reduceEqDiff, ↓reduceIte]
    refine hK2 _ ?_; try clear hK2 K2
    refine awp_keepL [1, 2, 6, 11, 12, 13] ?_
    simp only [zz20, zzI, look_nil, Nat.reduceBEq]
    refine awp_seq fun K2 hK2 => ?_
    refine awp_block ?_
    refine awp_seq fun K3 hK3 => ?_
    refine awp_plain F_mixed [some 15, some 16, some 17, some 9, some 8, none] rfl ?_
    simp only [List.nil_append, List.cons_append, true_and, and_true, zz0, true_implies, Nat.reduceLT, Nat.reduceLeDiff, zzI, look_nil, Nat.reduceBEq, implies_true, evS_move, evS_indexAddr, zz23, zz24, F_sl37, F_sz33, Option.map_some, zz16, Option.some.injEq, exists_eq_left', exists_eq_left, eq_self, reduceCtorEq, and_self, F_ok33, F_ag33, zz8, zzD, Nat.reduceAdd, Nat.zero_add, zzF, zzB, zzE, zz32, newRow1, F_zero33, zz10, evS_assign, zz18, splice, List.append_nil, zz1, zzG, instsD, instC, getD_mid, len_map, lt_mid, ge_mid, zz6, Nat.reduceEqDiff, ↓reduceIte]
    refine hK3 _ ?_; try clear hK3 K3
    refine awp_keepL [1, 2, 6, 8, 9, 11, 12, 13] ?_
    simp only [zz20, zzI, look_nil, Nat.reduceBEq]
    refine awp_seq fun K3 hK3 => ?_
    refine awp_plain F_mixed [some 18, some 19, some 20, some 21, some 22] rfl ?_
    simp only [List.nil_append, List.cons_append, true_and, and_true, zz0, true_implies, Nat.reduceLT, Nat.reduceLeDiff, zzI, look_nil, Nat.reduceBEq, implies_true, evS_move, F_ok33, F_ag33, F_sz33, zz8, zz23, zzD, Nat.reduceAdd, Nat.zero_add, zzF, zzB, zzE, zz16, Option.some.injEq, exists_eq_left', exists_eq_left, Option.map_some, eq_self, reduceCtorEq, and_self, evS_call, evC_value, zz21, gr_v, zz34, fnD, instC, D.agg.injEq, zz6, Nat.reduceEqDiff, ↓reduceIte]
    refine call_goT ?_ ?_ F_go60 (fun hG => noInst_ x) (by simp [AV.ids, AV.idsL]) (by simp) ?_
    · decide
    · simp only [look_cons, Nat.reduceBEq, cond_true, cond_false, bare_d, bare_wh, fnD]
    simp only [List.nil_append, List.cons_append, true_and, and_true, zz0, true_implies, Nat.reduceLT, Nat.reduceLeDiff, zzI, look_nil, Nat.reduceBEq, implies_true, evS_move, F_ok33, F_ag33, F_sz33, zz8, zz23, zzD, Nat.reduceAdd, Nat.zero_add, zzF, zzB, zzE, zz16, Option.some.injEq, exists_eq_left', exists_eq_left, Option.map_some, eq_self, reduceCtorEq, and_self, evS_call, evC_value, zz21, gr_v, zz34, fnD, instC, D.agg.injEq, zz6, Nat.reduceEqDiff, ↓reduceIte, Nat.reduceSub, S_getD, zz5, and_imp, imp_and, imp_self, and_self, atsL, oksG, freeN, AV.ren, AV.renL, addRows, ORow.row, Nat.reduceMul, Nat.reduceAdd, zz9, Option.bind_some, Option.map_some, forall_eq', D.sl.injEq, S_mem, Option.some.injEq, exists_eq_left', exists_eq_left, exists_eq', exists_eq, List.length_cons, zz2]
    refine hK3 _ ?_; try clear hK3 K3
    refine awp_keepL [1, 2, 6, 8, 9, 11, 12, 13, 22] ?_
    simp only [zz20, zzI, look_nil, Nat.reduceBEq]
    refine awp_condS _ (by decide) (by simp only [look_cons, Nat.reduceBEq, cond_true, cond_false]; rfl) ?_ ?_
    · intro hb
      refine awp_seq fun K4 hK4 => ?_
      refine awp_plain F_mixed [some 23, some 24, none, some 7] rfl ?_
      simp only [List.nil_append, List.cons_append, true_and, and_true, zz0, true_implies, Nat.reduceLT, Nat.reduceLeDiff, zzI, look_nil, Nat.reduceBEq, implies_true, F_ok33, F_ag33, F_sz33, zz8, zz23, zzD, Nat.reduceAdd, Nat.zero_add, zzF, zzB, zzE, zz16, Option.some.injEq, exists_eq_left', exists_eq_left, Option.map_some, eq_self, reduceCtorEq, and_self, evS_move, zz18, splice, List.append_nil, zz1, zzG, evS_assign, zz6, Nat.reduceEqDiff, ↓reduceIte]
      refine hK4 _ ?_; try clear hK4 K4
      refine awp_keepL [6, 7] ?_
      simp only [zz20, zzI, look_nil, Nat.reduceBEq]
      refine awp_ret ?_
      simp only [zz6, Nat.reduceEqDiff, ↓reduceIte]
      refine done0 (by simp [resCs, resC, S, List.getD, look_cons, lookR, F_ag33, F_sz33, F_ok33]) ?_ (by simp [flatA, flatAs, flatD, instA, instC]) (by simp [AV.ids, AV.idsL, instA, instC])
      simp only [List.map_cons, List.map_nil, resA, S_getD, S_mem, lookR_cons, lookR_nil, Nat.reduceLT, Nat.reduceLeDiff, look_cons, Nat.reduceBEq, cond_true, cond_false, resAll, List.getD_cons_zero, List.getD_cons_succ, List.drop_zero, List.drop_succ_cons, List.take_succ_cons, List.take_zero, F_ag33, F_sz33, F_ok33]
      rw [hfx, hfi, findX, findI, hb]; rfl
    · intro hb
      refine awp_skip ?_
      simp only [zz6, Nat.reduceEqDiff, ↓reduceIte]
      refine hK2 _ ?_; try clear hK2 K2
      refine awp_keepL [1, 2, 6, 11, 12, 13] ?_
      simp only [zz20, zzI, look_nil, Nat.reduceBEq]
      refine awp_plain F_mixed [some 25, some 13] rfl ?_
      simp only [List.nil_append, List.cons_append, true_and, and_true, zz0, true_implies, Nat.reduceLT, Nat.reduceLeDiff, zzI, look_nil, Nat.reduceBEq, implies_true, zz21, gr_v, zz26, evS_move, zz6, Nat.reduceEqDiff, ↓reduceIte]
      refine ⟨post.length, _, by simp, le_SK id [] rfl (l' := [(1, .d (fnD 60)), (2, .d (iv n)), (6, .ptr 6 0 0), (11, .d (instsD (pre ++ x :: post))), (12, .d (iv (pre ++ x :: post).length)), (13, .d (iv (pre ++ [x]).length))]) (m' := [(6, (⟨True, 33, 12, true, false, 6, [[.d (.v (.int .i64 0)), .d (.v (.int .i64 0)), .d (.v (.int .i64 0)), .d (.v (.int .i64 0)), .d (.v (.int .i64 0)), .d (.v (.int .i64 0)), .d (.v (.int .i64 0)), .d (.v (.int .i64 0)), .d (.v (.int .i64 0)), .d (.v (.int .i64 0)), .d (.v (.int .i64 0)), .d (.v (.int .i64 0))]]⟩ : ARow))]) ?_ ?_ ?_ ?_, pre ++ [x], post, by simp, by rw [hfx, findX, hb]; rfl, by rw [hfi, findI, hb]; simp, rfl, rfl⟩
      · simp only [leV, look_cons, Nat.reduceBEq, cond_true, cond_false, instsD, fnD, len_map, wrap_len pre x (by simp at hl; omega)]; exact ⟨VLe.refl _, VLe.refl _, VLe.refl _, VLe.refl _, VLe.refl _, VLe.refl _, trivial⟩
      · exact ⟨fun _ => ⟨_, rfl, ⟨id, rfl, rfl, rfl, id, .inl, VLess.refl _⟩⟩, fun h => by simp at h, trivial⟩
      · simp [wfV, AV.ids, lookR]
      · simp [wfR, AV.idsL, AV.ids]
  · intro hb
    obtain rfl := none_of hb; clear hb
    refine awp_exit ?_
    simp only [zz6, Nat.reduceEqDiff, ↓reduceIte]
    refine hK0 _ ?_; try clear hK0 K0
    refine awp_keepL [6] ?_
    simp only [zz20, zzI, look_nil, Nat.reduceBEq]
    refine awp_seq fun K0 hK0 => ?_
    refine awp_plain F_mixed [some 10] rfl ?_
    simp only [List.nil_append, List.cons_append, true_and, and_true, zz0, true_implies, Nat.reduceLT, Nat.reduceLeDiff, zzI, look_nil, Nat.reduceBEq, implies_true, zz32, newRow1, F_zero33, zz16, Option.some.injEq, exists_eq_left', exists_eq_left, Option.map_some, eq_self, reduceCtorEq, and_self, zzD, Nat.reduceAdd, Nat.zero_add, zzF, zzB, zzE, zz10, zz6, Nat.reduceEqDiff, ↓reduceIte]
    refine hK0 _ ?_; try clear hK0 K0
    refine awp_keepL [6, 10] ?_
    simp only [zz20, zzI, look_nil, Nat.reduceBEq]
    refine awp_seq fun K0 hK0 => ?_
    refine awp_plain F_mixed [some 26, none, some 7] rfl ?_
    simp only [List.nil_append, List.cons_append, true_and, and_true, zz0, true_implies, Nat.reduceLT, Nat.reduceLeDiff, zzI, look_nil, Nat.reduceBEq, implies_true, F_ok33, F_ag33, F_sz33, zz8, zz23, zzD, Nat.reduceAdd, Nat.zero_add, zzF, zzB, zzE, zz16, Option.some.injEq, exists_eq_left', exists_eq_left, Option.map_some, eq_self, reduceCtorEq, and_self, zz18, splice, List.append_nil, zz1, zzG, evS_assign, zz6, Nat.reduceEqDiff, ↓reduceIte]
    refine hK0 _ ?_; try clear hK0 K0
    refine awp_keepL [6, 7] ?_
    simp only [zz20, zzI, look_nil, Nat.reduceBEq]
    refine awp_ret ?_
    simp only [zz6, Nat.reduceEqDiff, ↓reduceIte]
    refine done0 (by simp [resCs, resC, S, List.getD, look_cons, lookR, F_ag33, F_sz33, F_ok33]) ?_ (by simp [flatA, flatAs, flatD, instA, instC]) (by simp [AV.ids, AV.idsL, instA, instC])
    simp only [List.map_cons, List.map_nil, resA, S_getD, S_mem, lookR_cons, lookR_nil, Nat.reduceLT, Nat.reduceLeDiff, look_cons, Nat.reduceBEq, cond_true, cond_false, resAll, List.getD_cons_zero, List.getD_cons_succ, List.drop_zero, List.drop_succ_cons, List.take_succ_cons, List.take_zero, F_ag33, F_sz33, F_ok33]
    rw [hfx, hfi]; rfl
theorem tInst_ (r : RollV) (n : Int) (h : r.Small) : ACalls Try.prog 69 [.agg (rollC r), iv n] [] (.tp [instA (findX InstV.no n zInst r.insts), bv (hasX InstV.no n r.insts)]) := by
  refine acalls_S (rs := [.cell 4 33, .tmp 5]) Try.func69 rfl rfl 18 [(0, .d (.agg (rollC r))), (1, .d (iv n))] rfl (by simp) rfl ?_
  refine awp_seq fun K0 hK0 => ?_
  refine awp_plain F_mixed [some 2, some 4, some 5] rfl ?_
  simp only [List.nil_append, List.cons_append, true_and, and_true, zz0, true_implies, Nat.reduceLT, Nat.reduceLeDiff, zzI, look_nil, Nat.reduceBEq, implies_true, zz35, newRow1, zz1, zzG, zzD, zz16, Option.some.injEq, exists_eq_left', exists_eq_left, Option.map_some, eq_self, reduceCtorEq, and_self, Nat.reduceAdd, Nat.zero_add, zzF, zzB, zzE, zz32, F_zero33, zz10, evS_assign, rollC, memsD, instsD, assetsD, zz6, Nat.reduceEqDiff, ↓reduceIte]
  refine hK0 _ ?_; try clear hK0 K0
  refine awp_keepL [1, 2, 4] ?_
  simp only [zz20, zzI, look_nil, Nat.reduceBEq]
  refine awp_seq fun K0 hK0 => ?_
  refine awp_plain F_mixed [some 9, some 10, some 11, some 12, some 8, some 13, some 14, some 6, none, some 7] rfl ?_
  simp only [List.nil_append, List.cons_append, true_and, and_true, zz0, true_implies, Nat.reduceLT, Nat.reduceLeDiff, zzI, look_nil, Nat.reduceBEq, implies_true, zz19, zz23, F_off40_1, zzB, Nat.zero_add, Nat.reduceAdd, F_ok37, F_ag37, F_sz37, zz8, zzD, zzF, zzE, zz16, Option.some.injEq, exists_eq_left', exists_eq_left, Option.map_some, eq_self, reduceCtorEq, and_self, evS_move, evS_call, evC_value, zz14, zz32, newRow1, F_zero33, zz10, zz18, F_ok33, F_sz33, splice, List.append_nil, zz1, zzG, evS_assign, memsD, instsD, assetsD, fnD, instA, instC, List.map_cons, zz6, Nat.reduceEqDiff, ↓reduceIte]
  refine call_go F_go82 (fun hG => findIn_ r.insts n h.insts) (by simp [AV.ids, AV.idsL, instA, instC]) (by simp) ?_
  simp only [List.nil_append, List.cons_append, true_and, and_true, zz0, true_implies, Nat.reduceLT, Nat.reduceLeDiff, zzI, look_nil, Nat.reduceBEq, implies_true, zz19, zz23, F_off40_1, zzB, Nat.zero_add, Nat.reduceAdd, F_ok37, F_ag37, F_sz37, zz8, zzD, zzF, zzE, zz16, Option.some.injEq, exists_eq_left', exists_eq_left, Option.map_some, eq_self, reduceCtorEq, and_self, evS_move, evS_call, evC_value, zz14, zz32, newRow1, F_zero33, zz10, zz18, F_ok33, F_sz33, splice, List.append_nil, zz1, zzG, evS_assign, memsD, instsD, assetsD, fnD, instA, instC, List.map_cons, zz6, Nat.reduceEqDiff, ↓reduceIte, atsL, oksG, freeN, AV.ren, AV.renL, addRows, ORow.row, Nat.reduceMul, Nat.reduceAdd, zz9, Option.bind_some, Option.map_some, forall_eq', D.sl.injEq, S_mem, Option.some.injEq, exists_eq_left', exists_eq_left, exists_eq', exists_eq, List.length_cons, zz2]
  refine hK0 _ ?_; try clear hK0 K0
  refine awp_keepL [4, 6, 7] ?_
  simp only [zz20, zzI, look_nil, Nat.reduceBEq]
  refine awp_seq fun K0 hK0 => ?_
  refine awp_plain F_mixed [some 15, some 16, some 17, none, some 5] rfl ?_
  simp only [List.nil_append, List.cons_append, true_and, and_true, zz0, true_implies, Nat.reduceLT, Nat.reduceLeDiff, zzI, look_nil, Nat.reduceBEq, implies_true, F_ok33, F_ag33, F_sz33, zz8, zz23, zzD, Nat.reduceAdd, Nat.zero_add, zzF, zzB, zzE, zz16, Option.some.injEq, exists_eq_left', exists_eq_left, Option.map_some, eq_self, reduceCtorEq, and_self, evS_move, zz21, gr_v, zz31, zz18, splice, List.append_nil, zz1, zzG, evS_assign, zz6, Nat.reduceEqDiff, ↓reduceIte]
  refine hK0 _ ?_; try clear hK0 K0
  refine awp_keepL [4, 5] ?_
  simp only [zz20, zzI, look_nil, Nat.reduceBEq]
  refine awp_ret ?_
  simp only [zz6, Nat.reduceEqDiff, ↓reduceIte]
  refine done0 (by simp [resCs, resC, S, List.getD, look_cons, lookR, F_ag33, F_sz33, F_ok33]) ?_ (by simp [flatA, flatAs, flatD, instA, instC]) (by simp [AV.ids, AV.idsL, instA, instC])
  simp only [List.map_cons, List.map_nil, resA, S_getD, S_mem, lookR_cons, lookR_nil, Nat.reduceLT, Nat.reduceLeDiff, look_cons, Nat.reduceBEq, cond_true, cond_false, resAll, List.getD_cons_zero, List.getD_cons_succ, List.drop_zero, List.drop_succ_cons, List.take_succ_cons, List.take_zero, F_ag33, F_sz33, F_ok33]
  rw [findI_has]; rfl
theorem price_ (r : RollV) (p : PosV) (h : r.Small) : ACalls Try.prog 39 [.agg (rollC r), .agg (posC p)] [] (.tp [instA (iOf r p), .d (iv (mkV r p)), .d (iv (mkE r p))]) := by
  refine acalls_S (rs := [.cell 4 33, .tmp 5, .tmp 6]) Try.func39 rfl rfl 38 [(0, .d (.agg (rollC r))), (1, .d (.agg (posC p)))] rfl (by simp) rfl ?_
  refine awp_seq fun K0 hK0 => ?_
  refine awp_plain F_mixed [some 2, some 3, some 4, some 5, some 6] rfl ?_
  simp only [List.nil_append, List.cons_append, true_and, and_true, zz0, true_implies, Nat.reduceLT, Nat.reduceLeDiff, zzI, look_nil, Nat.reduceBEq, implies_true, zz35, newRow1, zz1, zzG, zzD, zz16, Option.some.injEq, exists_eq_left', exists_eq_left, Option.map_some, eq_self, reduceCtorEq, and_self, Nat.reduceAdd, Nat.zero_add, zzF, zzB, zzE, zz32, F_zero33, zz10, evS_assign, rollC, memsD, instsD, assetsD, posC, zz6, Nat.reduceEqDiff, ↓reduceIte]
  refine hK0 _ ?_; try clear hK0 K0
  refine awp_keepL [2, 3, 4] ?_
  simp only [zz20, zzI, look_nil, Nat.reduceBEq]
  refine awp_seq fun K0 hK0 => ?_
  refine awp_plain F_mixed [some 12, some 13, some 14, some 15, some 16, some 11, some 17, some 18, some 7, none, some 8] rfl ?_
  simp only [List.nil_append, List.cons_append, true_and, and_true, zz0, true_implies, Nat.reduceLT, Nat.reduceLeDiff, zzI, look_nil, Nat.reduceBEq, implies_true, F_ok40, F_ag40, F_sz40, zz8, zz23, zzD, Nat.reduceAdd, Nat.zero_add, zzF, zzB, zzE, zz16, Option.some.injEq, exists_eq_left', exists_eq_left, Option.map_some, eq_self, reduceCtorEq, and_self, zz19, F_off25_0, F_off23_1, F_ok3, F_ag3, F_sz3, evS_call, evC_value, evS_move, zz14, zz32, newRow1, F_zero33, zz10, zz18, F_ok33, F_sz33, splice, List.append_nil, zz1, zzG, evS_assign, memsD, instsD, assetsD, rollC, D.agg.injEq, memA, memC, instA, instC, List.map_cons, iOf, zz6, Nat.reduceEqDiff, ↓reduceIte]
  refine call_go F_go69 (fun hG => tInst_ r p.inst h) (by simp [AV.ids, AV.idsL, instA, instC]) (by simp) ?_
  simp only [List.nil_append, List.cons_append, true_and, and_true, zz0, true_implies, Nat.reduceLT, Nat.reduceLeDiff, zzI, look_nil, Nat.reduceBEq, implies_true, F_ok40, F_ag40, F_sz40, zz8, zz23, zzD, Nat.reduceAdd, Nat.zero_add, zzF, zzB, zzE, zz16, Option.some.injEq, exists_eq_left', exists_eq_left, Option.map_some, eq_self, reduceCtorEq, and_self, zz19, F_off25_0, F_off23_1, F_ok3, F_ag3, F_sz3, evS_call, evC_value, evS_move, zz14, zz32, newRow1, F_zero33, zz10, zz18, F_ok33, F_sz33, splice, List.append_nil, zz1, zzG, evS_assign, memsD, instsD, assetsD, rollC, D.agg.injEq, memA, memC, instA, instC, List.map_cons, iOf, zz6, Nat.reduceEqDiff, ↓reduceIte, atsL, oksG, freeN, AV.ren, AV.renL, addRows, ORow.row, Nat.reduceMul, Nat.reduceAdd, zz9, Option.bind_some, Option.map_some, forall_eq', D.sl.injEq, S_mem, Option.some.injEq, exists_eq_left', exists_eq_left, exists_eq', exists_eq, List.length_cons, zz2]
  refine hK0 _ ?_; try clear hK0 K0
  refine awp_keepL [3, 4, 7, 8] ?_
  simp only [zz20, zzI, look_nil, Nat.reduceBEq]
  refine awp_seq fun K0 hK0 => ?_
  refine awp_seq fun K1 hK1 => ?_
  refine awp_plain F_mixed [some 19, some 20] rfl ?_
  simp only [List.nil_append, List.cons_append, true_and, and_true, zz0, true_implies, Nat.reduceLT, Nat.reduceLeDiff, zzI, look_nil, Nat.reduceBEq, implies_true, evS_move, zz29, gr_v, zz30, zz6, Nat.reduceEqDiff, ↓reduceIte]
  refine hK1 _ ?_; try clear hK1 K1
  refine awp_keepL [3, 4, 7, 20] ?_
  simp only [zz20, zzI, look_nil, Nat.reduceBEq]
  refine awp_condS _ (by decide) (by simp only [look_cons, Nat.reduceBEq, cond_true, cond_false]; rfl) ?_ ?_
  · intro hb
    have hs : isOf r p = false := by simpa only [isOf, Bool.not_eq_true'] using hb
    clear hb
    refine awp_seq fun K2 hK2 => ?_
    refine awp_plain F_mixed [some 21, none, some 5, some 6] rfl ?_
    simp only [List.nil_append, List.cons_append, true_and, and_true, zz0, true_implies, Nat.reduceLT, Nat.reduceLeDiff, zzI, look_nil, Nat.reduceBEq, implies_true, F_ok33, F_ag33, F_sz33, zz8, zz23, zzD, Nat.reduceAdd, Nat.zero_add, zzF, zzB, zzE, zz16, Option.some.injEq, exists_eq_left', exists_eq_left, Option.map_some, eq_self, reduceCtorEq, and_self, zz18, splice, List.append_nil, zz1, zzG, evS_assign, zz6, Nat.reduceEqDiff, ↓reduceIte]
    refine hK2 _ ?_; try clear hK2 K2
    refine awp_keepL [4, 5, 6] ?_
    simp only [zz20, zzI, look_nil, Nat.reduceBEq]
    refine awp_ret ?_
    simp only [zz6, Nat.reduceEqDiff, ↓reduceIte]
    refine done0 (by simp [resCs, resC, S, List.getD, look_cons, lookR, F_ag33, F_sz33, F_ok33]) ?_ (by simp [flatA, flatAs, flatD, instA, instC]) (by simp [AV.ids, AV.idsL, instA, instC])
    simp only [List.map_cons, List.map_nil, resA, S_getD, S_mem, lookR_cons, lookR_nil, Nat.reduceLT, Nat.reduceLeDiff, look_cons, Nat.reduceBEq, cond_true, cond_false, resAll, List.getD_cons_zero, List.getD_cons_succ, List.drop_zero, List.drop_succ_cons, List.take_succ_cons, List.take_zero, F_ag33, F_sz33, F_ok33]
    rw [mkV_no hs, mkE_no hs]; rfl
  · intro hb
    have hs : isOf r p = true := by simpa only [isOf, Bool.not_eq_false'] using hb
    clear hb
    refine awp_skip ?_
    simp only [zz6, Nat.reduceEqDiff, ↓reduceIte]
    refine hK0 _ ?_; try clear hK0 K0
    refine awp_keepL [3, 4, 7] ?_
    simp only [zz20, zzI, look_nil, Nat.reduceBEq]
    refine awp_seq fun K0 hK0 => ?_
    refine awp_plain F_mixed [some 23, some 24, some 22, some 25, some 26, some 9, some 10] rfl ?_
    simp only [List.nil_append, List.cons_append, true_and, and_true, zz0, true_implies, Nat.reduceLT, Nat.reduceLeDiff, zzI, look_nil, Nat.reduceBEq, implies_true, F_ok33, F_ag33, F_sz33, zz8, zz23, zzD, Nat.reduceAdd, Nat.zero_add, zzF, zzB, zzE, zz16, Option.some.injEq, exists_eq_left', exists_eq_left, Option.map_some, eq_self, reduceCtorEq, and_self, evS_call, evC_value, evS_move, zz14, evS_assign, instC, D.agg.injEq, zz6, Nat.reduceEqDiff, ↓reduceIte]
    refine call_go F_go10 (fun hG => Price_ (findX InstV.no p.inst zInst r.insts)) (by simp [AV.ids, AV.idsL, instC]) (by simp) ?_
    simp only [List.nil_append, List.cons_append, true_and, and_true, zz0, true_implies, Nat.reduceLT, Nat.reduceLeDiff, zzI, look_nil, Nat.reduceBEq, implies_true, F_ok33, F_ag33, F_sz33, zz8, zz23, zzD, Nat.reduceAdd, Nat.zero_add, zzF, zzB, zzE, zz16, Option.some.injEq, exists_eq_left', exists_eq_left, Option.map_some, eq_self, reduceCtorEq, and_self, evS_call, evC_value, evS_move, zz14, evS_assign, instC, D.agg.injEq, zz6, Nat.reduceEqDiff, ↓reduceIte, atsL, oksG, freeN, AV.ren, AV.renL, addRows, ORow.row, Nat.reduceMul, Nat.reduceAdd, zz9, Option.bind_some, Option.map_some, forall_eq', D.sl.injEq, S_mem, Option.some.injEq, exists_eq_left', exists_eq_left, exists_eq', exists_eq, List.length_cons, zz2]
    refine hK0 _ ?_; try clear hK0 K0
    refine awp_keepL [3, 4, 7, 9, 10] ?_
    simp only [zz20, zzI, look_nil, Nat.reduceBEq]
    refine awp_seq fun K0 hK0 => ?_
    refine awp_seq fun K1 hK1 => ?_
    refine awp_plain F_mixed [some 27, some 28, some 29, some 30, some 31, some 32, some 33] rfl ?_
    simp only [List.nil_append, List.cons_append, true_and, and_true, zz0, true_implies, Nat.reduceLT, Nat.reduceLeDiff, zzI, look_nil, Nat.reduceBEq, implies_true, Nat.reduceSub, S_getD, zz5, and_imp, imp_and, imp_self, and_self, evS_move, zz21, gr_v, zz28, zz19, zz23, F_off25_1, zzB, Nat.zero_add, Nat.reduceAdd, F_ok3, F_ag3, F_sz3, zz8, zzD, zzF, zzE, zz16, Option.some.injEq, exists_eq_left', exists_eq_left, Option.map_some, eq_self, reduceCtorEq, zz34, zz13, zz6, Nat.reduceEqDiff, ↓reduceIte]
    refine hK1 _ ?_; try clear hK1 K1
    refine awp_keepL [4, 7, 9, 10, 33] ?_
    simp only [zz20, zzI, look_nil, Nat.reduceBEq]
    refine awp_condS _ (by decide) (by simp only [look_cons, Nat.reduceBEq, cond_true, cond_false]; rfl) ?_ ?_
    · intro hb
      refine awp_seq fun K2 hK2 => ?_
      refine awp_plain F_mixed [some 34, none, some 5, some 6] rfl ?_
      simp only [List.nil_append, List.cons_append, true_and, and_true, zz0, true_implies, Nat.reduceLT, Nat.reduceLeDiff, zzI, look_nil, Nat.reduceBEq, implies_true, F_ok33, F_ag33, F_sz33, zz8, zz23, zzD, Nat.reduceAdd, Nat.zero_add, zzF, zzB, zzE, zz16, Option.some.injEq, exists_eq_left', exists_eq_left, Option.map_some, eq_self, reduceCtorEq, and_self, zz18, splice, List.append_nil, zz1, zzG, evS_assign, zz6, Nat.reduceEqDiff, ↓reduceIte]
      refine hK2 _ ?_; try clear hK2 K2
      refine awp_keepL [4, 5, 6] ?_
      simp only [zz20, zzI, look_nil, Nat.reduceBEq]
      refine awp_ret ?_
      simp only [zz6, Nat.reduceEqDiff, ↓reduceIte]
      refine done0 (by simp [resCs, resC, S, List.getD, look_cons, lookR, F_ag33, F_sz33, F_ok33]) ?_ (by simp [flatA, flatAs, flatD, instA, instC]) (by simp [AV.ids, AV.idsL, instA, instC])
      simp only [List.map_cons, List.map_nil, resA, S_getD, S_mem, lookR_cons, lookR_nil, Nat.reduceLT, Nat.reduceLeDiff, look_cons, Nat.reduceBEq, cond_true, cond_false, resAll, List.getD_cons_zero, List.getD_cons_succ, List.drop_zero, List.drop_succ_cons, List.take_succ_cons, List.take_zero, F_ag33, F_sz33, F_ok33]
      have e : mkV r p = 0 := priceV_no (by simp only [Bool.and_eq_true] at hb; exact hb.1)
      have e2 : mkE r p = 0 := by simp only [mkE, iOf, hs, hb, cond_true]
      rw [e, e2]; rfl
    · intro hb
      refine awp_skip ?_
      simp only [zz6, Nat.reduceEqDiff, ↓reduceIte]
      refine hK0 _ ?_; try clear hK0 K0
      refine awp_keepL [4, 7, 9, 10] ?_
      simp only [zz20, zzI, look_nil, Nat.reduceBEq]
      refine awp_seq fun K0 hK0 => ?_
      refine awp_plain F_mixed [some 35, some 36, some 37, none, some 5, some 6] rfl ?_
      simp only [List.nil_append, List.cons_append, true_and, and_true, zz0, true_implies, Nat.reduceLT, Nat.reduceLeDiff, zzI, look_nil, Nat.reduceBEq, implies_true, F_ok33, F_ag33, F_sz33, zz8, zz23, zzD, Nat.reduceAdd, Nat.zero_add, zzF, zzB, zzE, zz16, Option.some.injEq, exists_eq_left', exists_eq_left, Option.map_some, eq_self, reduceCtorEq, and_self, evS_move, zz18, splice, List.append_nil, zz1, zzG, evS_assign, zz6, Nat.reduceEqDiff, ↓reduceIte]
      refine hK0 _ ?_; try clear hK0 K0
      refine awp_keepL [4, 5, 6] ?_
      simp only [zz20, zzI, look_nil, Nat.reduceBEq]
      refine awp_ret ?_
      simp only [zz6, Nat.reduceEqDiff, ↓reduceIte]
      refine done0 (by simp [resCs, resC, S, List.getD, look_cons, lookR, F_ag33, F_sz33, F_ok33]) ?_ (by simp [flatA, flatAs, flatD, instA, instC]) (by simp [AV.ids, AV.idsL, instA, instC])
      simp only [List.map_cons, List.map_nil, resA, S_getD, S_mem, lookR_cons, lookR_nil, Nat.reduceLT, Nat.reduceLeDiff, look_cons, Nat.reduceBEq, cond_true, cond_false, resAll, List.getD_cons_zero, List.getD_cons_succ, List.drop_zero, List.drop_succ_cons, List.take_succ_cons, List.take_zero, F_ag33, F_sz33, F_ok33]
      have e2 : mkE r p = priceE (findX InstV.no p.inst zInst r.insts) := by simp only [mkE, iOf, hs, hb, cond_true, cond_false]
      rw [e2]; rfl
end Go.Proofs.Ytdgkiemehmmobaa
