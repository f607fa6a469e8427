import Derived.Test.YtdgkiemehmmobaaWpS
namespace Go.Proofs.Ytdgkiemehmmobaa
open Go.RowKit
set_option linter.unusedVariables false
set_option linter.unusedSimpArgs false
theorem F_ag44 : aggT Try.prog 44 = true := by kernel_rfl
theorem F_sz44 : szT Try.prog 44 = 3 := by kernel_rfl
theorem F_ok44 : tyOk Try.prog 44 = true := by kernel_rfl
theorem F_zero44 : zeroT Try.prog 44 = some [(.int .i64 0), (.slice none 0 0), (.slice none 0 0)] := by kernel_rfl
theorem F_bld44 : bldT Try.prog 44 = true := by kernel_rfl
theorem F_fld44_0 : fldT Try.prog 44 0 = some (0, 1) := by kernel_rfl
theorem F_by93 : byT Try.prog 93 = 56 := by kernel_rfl
theorem F_by25 : byT Try.prog 25 = 32 := by kernel_rfl
theorem F_go40 : goFn Try.prog 40 := ⟨_, Try.func40, rfl, rfl⟩
theorem F_go41 : goFn Try.prog 41 := ⟨_, Try.func41, rfl, rfl⟩
theorem F_go17 : goFn Try.prog 17 := ⟨_, Try.func17, rfl, rfl⟩
theorem F_go42 : goFn Try.prog 42 := ⟨_, Try.func42, rfl, rfl⟩
theorem F_go15 : goFn Try.prog 15 := ⟨_, Try.func15, rfl, rfl⟩
theorem F_go14 : goFn Try.prog 14 := ⟨_, Try.func14, rfl, rfl⟩
theorem F_go43 : goFn Try.prog 43 := ⟨_, Try.func43, rfl, rfl⟩
theorem F_zero68 : zeroT Try.prog 68 = some [(.int .i64 0), (.int .i64 0), (.int .i64 0)] := by kernel_rfl
theorem F_bld68 : bldT Try.prog 68 = true := by kernel_rfl
theorem F_fld68_0 : fldT Try.prog 68 0 = some (0, 1) := by kernel_rfl
theorem F_fld68_1 : fldT Try.prog 68 1 = some (1, 1) := by kernel_rfl
theorem F_fld68_2 : fldT Try.prog 68 2 = some (2, 1) := by kernel_rfl
theorem F_sl53 : sliceT Try.prog 53 = some 68 := by kernel_rfl
theorem F_sz68 : szT Try.prog 68 = 3 := by kernel_rfl
theorem F_by68 : byT Try.prog 68 = 24 := by kernel_rfl
theorem rMul_ (a b : Int) (h0 : -9223372036854775808 ≤ a) (h1 : a < 9223372036854775808) (k0 : -9223372036854775808 ≤ b) (k1 : b < 9223372036854775808) : ACalls Try.prog 43 [iv a, iv b] [] (.tp [.d (iv (bif rightN (a * b) then a * b else 0)), bv (rightN (a * b))]) := by
  refine acalls_S (rs := [.tmp 4, .tmp 5]) Try.func43 rfl rfl 12 [(0, .d (iv a)), (1, .d (iv b))] rfl (by simp) rfl ?_
  refine awp_seq fun K0 hK0 => ?_
  refine awp_plain F_mixed [some 4, some 5] rfl ?_
  simp only [zzK, Nat.reduceLT, Nat.reduceLeDiff, Nat.reduceBEq, evS_assign, zz6, Nat.reduceEqDiff, ↓reduceIte]
  refine hK0 _ ?_; try clear hK0 K0
  refine awp_keepL [0, 1] ?_
  simp only [zzJ, Nat.reduceBEq]
  refine awp_seq fun K0 hK0 => ?_
  refine awp_plain F_mixed [some 6, some 7, some 8, some 9, some 10, some 11, some 4, some 5] rfl ?_
  simp only [zzK, Nat.reduceLT, Nat.reduceLeDiff, Nat.reduceBEq, evS_move, evS_call, evC_value, zz14, zzD, Nat.reduceAdd, Nat.zero_add, zzF, evS_assign, wideA, wideC, D.agg.injEq, zz6, Nat.reduceEqDiff, ↓reduceIte]
  refine call_go F_go26 (fun hG => rTimes_ a b h0 h1 k0 k1) (by simp [AV.ids, AV.idsL, wideA, wideC]) (by simp) ?_
  simp only [zzK, Nat.reduceLT, Nat.reduceLeDiff, Nat.reduceBEq, evS_move, evS_call, evC_value, zz14, zzD, Nat.reduceAdd, Nat.zero_add, zzF, evS_assign, wideA, wideC, D.agg.injEq, zz6, Nat.reduceEqDiff, ↓reduceIte, atsL, oksG, freeN, AV.ren, AV.renL, addRows, ORow.row, Nat.reduceMul, Nat.reduceAdd, zz9, Option.bind_some, Option.map_some, zzC, yyF, List.length_cons, zz2]
  refine call_go F_go36 (fun hG => Int_ (a * b)) (by simp [AV.ids, AV.idsL, wideA, wideC]) (by simp) ?_
  simp only [zzK, Nat.reduceLT, Nat.reduceLeDiff, Nat.reduceBEq, evS_move, evS_call, evC_value, zz14, zzD, Nat.reduceAdd, Nat.zero_add, zzF, evS_assign, wideA, wideC, D.agg.injEq, zz6, Nat.reduceEqDiff, ↓reduceIte, atsL, oksG, freeN, AV.ren, AV.renL, addRows, ORow.row, Nat.reduceMul, Nat.reduceAdd, zz9, Option.bind_some, Option.map_some, zzC, yyF, List.length_cons, zz2]
  refine hK0 _ ?_; try clear hK0 K0
  refine awp_keepL [4, 5] ?_
  simp only [zzJ, Nat.reduceBEq]
  refine awp_ret ?_
  simp only [zz6, Nat.reduceEqDiff, ↓reduceIte]
  refine done0 (by simp only [resCs, resC]; trivial) ?_ (by simp [flatA, flatAs, flatD]) (by simp [AV.ids, AV.idsL])
  simp only [List.map_cons, List.map_nil, resA, S_getD, Nat.reduceLT, Nat.reduceLeDiff, look_cons, Nat.reduceBEq, cond_true, cond_false, resAll]
  
theorem twinBk_ (nx : Int) (ts : List TradeV) (ps : List PosV) (ht : ts.length ≤ 1000000) (hp : ps.length ≤ 1000000) : ACalls Try.prog 17 [.agg (bookC ⟨nx, ts, ps⟩)] [⟨93, 7, ts.map tradeC⟩, ⟨25, 4, ps.map posC⟩] (.ag [.d (iv nx), .ref 0 ts.length, .ref 1 ps.length]) := by
  refine acalls_S (rs := [.cell 2 44]) Try.func17 rfl rfl 20 [(0, .d (.agg (bookC ⟨nx, ts, ps⟩)))] rfl (by simp) rfl ?_
  refine awp_seq fun K0 hK0 => ?_
  refine awp_plain F_mixed [some 1, some 2] rfl ?_
  simp only [zzK, Nat.reduceLT, Nat.reduceLeDiff, Nat.reduceBEq, zz35, newRow1, zz1, zzG, zzD, zzC, Option.map_some, yyE, reduceCtorEq, Nat.reduceAdd, Nat.zero_add, zzH, zz32, F_zero44, zz10, bookC, tradesB, poss, zz6, Nat.reduceEqDiff, ↓reduceIte]
  refine hK0 _ ?_; try clear hK0 K0
  refine awp_keepL [1, 2] ?_
  simp only [zzJ, Nat.reduceBEq]
  refine awp_seq fun K0 hK0 => ?_
  refine awp_plain F_mixed [some 4, some 5, some 6, some 3, none] rfl ?_
  simp only [zzK, Nat.reduceLT, Nat.reduceLeDiff, Nat.reduceBEq, zz19, zz23, F_off44_0, zzH, Nat.zero_add, Nat.reduceAdd, F_ok3, F_ag3, F_sz3, zz8, zzD, zzC, Option.map_some, yyE, reduceCtorEq, F_zero44, F_bld44, zz7, splice, Option.getD_some, List.append_nil, zz1, zzG, zz10, F_fld44_0, zz32, newRow1, zz18, F_ok44, F_sz44, D.agg.injEq, zz6, Nat.reduceEqDiff, ↓reduceIte]
  refine hK0 _ ?_; try clear hK0 K0
  refine awp_keepL [1, 2, 3] ?_
  simp only [zzJ, Nat.reduceBEq]
  refine awp_seq fun K0 hK0 => ?_
  refine awp_plain F_mixed [some 7, some 8, some 9, some 10, some 11, some 12, none] rfl ?_
  simp only [zzK, Nat.reduceLT, Nat.reduceLeDiff, Nat.reduceBEq, zz19, zz23, F_off44_1, zzH, Nat.zero_add, Nat.reduceAdd, F_ok41, F_ag41, F_sz41, zz8, zzD, zzC, Option.map_some, yyE, reduceCtorEq, evS_call, F_sl41, F_zero93, F_sz93, F_by93, zz4, maxLen_le, Nat.reduceMul, newRow1, zz9, Option.bind_some, zz18, splice, List.append_nil, zz1, zzG, len_map, zz6, Nat.reduceEqDiff, ↓reduceIte]
  first | refine ⟨le_maxLen ht, by omega, ?_⟩ | refine ⟨by simp, le_maxLen ht, by omega, ?_⟩ | refine ⟨⟨le_maxLen ht, by omega⟩, ?_⟩
  refine hK0 _ ?_; try clear hK0 K0
  refine awp_keepL [1, 2, 3] ?_
  simp only [zzJ, Nat.reduceBEq]
  refine awp_seq fun K0 hK0 => ?_
  refine awp_plain F_mixed [some 13, some 14, some 15, some 16, some 17, some 18, none] rfl ?_
  simp only [zzK, Nat.reduceLT, Nat.reduceLeDiff, Nat.reduceBEq, zz19, zz23, F_off44_2, zzH, Nat.zero_add, Nat.reduceAdd, F_ok42, F_ag42, F_sz42, zz8, zzD, zzC, Option.map_some, yyE, reduceCtorEq, evS_call, F_sl42, F_zero25, F_sz25, F_by25, zz4, maxLen_le, Nat.reduceMul, newRow1, zz9, Option.bind_some, zz18, splice, List.append_nil, zz1, zzG, len_map, zz6, Nat.reduceEqDiff, ↓reduceIte]
  first | refine ⟨le_maxLen hp, by omega, ?_⟩ | refine ⟨by simp, le_maxLen hp, by omega, ?_⟩ | refine ⟨⟨le_maxLen hp, by omega⟩, ?_⟩
  refine hK0 _ ?_; try clear hK0 K0
  refine awp_keepL [2, 3] ?_
  simp only [zzJ, Nat.reduceBEq]
  refine awp_seq fun K0 hK0 => ?_
  refine awp_plain F_mixed [some 19, none] rfl ?_
  simp only [zzK, Nat.reduceLT, Nat.reduceLeDiff, Nat.reduceBEq, F_ok44, F_ag44, F_sz44, zz8, zz23, zzD, Nat.reduceAdd, Nat.zero_add, zzH, zzC, Option.map_some, yyE, reduceCtorEq, zz18, splice, List.append_nil, zz1, zzG, zz6, Nat.reduceEqDiff, ↓reduceIte]
  refine hK0 _ ?_; try clear hK0 K0
  refine awp_keepL [2] ?_
  simp only [zzJ, Nat.reduceBEq]
  refine awp_ret ?_
  simp only [zz6, Nat.reduceEqDiff, ↓reduceIte]
  refine doneN [11, 17] (by simp [resCs, resC, S, List.getD, look_cons, lookR, F_ag44, F_sz44, F_ok44]) ?_ (by simp [flatA, flatAs, flatD, ]) (by simp [AV.ids, AV.idsL, ]) (by decide) ?_
  · simp only [List.map_cons, List.map_nil, resA, S_getD, S_mem, lookR_cons, lookR_nil, Nat.reduceLT, Nat.reduceLeDiff, look_cons, Nat.reduceBEq, cond_true, cond_false, resAll, List.getD_cons_zero, List.getD_cons_succ, List.drop_zero, List.drop_succ_cons, List.take_succ_cons, List.take_zero, F_ag44, F_sz44, F_ok44]; rfl
  · exact ⟨⟨_, rfl, trivial, rfl, rfl, rfl, rfl⟩, by simp [flatDs, flatD, tradeC], ⟨_, rfl, trivial, rfl, rfl, rfl, rfl⟩, by simp [flatDs, flatD, posC], trivial⟩
theorem rInstR_ (r : RollV) (p : PosV) (h : r.Small) : ACalls Try.prog 42 [.agg (rollC r), iv p.inst] [] (.tp [instA (iOf r p), bv (isOf r p)]) := by
  obtain ⟨ms, is, zs⟩ := r
  exact rInst_ ms is zs p.inst h.insts
set_option maxRecDepth 100000 in
set_option maxHeartbeats 4000000 in
theorem rRun_ (r : RollV) (nx : Int) (ts : List TradeV) (ps : List PosV) (hr : r.Small) (ht : ts.length ≤ 500000) (hp : ps.length ≤ 500000) : ACalls Try.prog 19 [.agg (rollC r), .agg (bookC ⟨nx, ts, ps⟩)] [⟨93, 7, (runT r ⟨nx, ts, ps⟩).map tradeC⟩, ⟨25, 4, (runP r ⟨nx, ts, ps⟩).map posC⟩, ⟨68, 3, (runD r ⟨nx, ts, ps⟩).map dueC⟩] (.tp [.ag [.d (iv (runN r ⟨nx, ts, ps⟩)), .ref 0 (runT r ⟨nx, ts, ps⟩).length, .ref 1 (runP r ⟨nx, ts, ps⟩).length], .ref 2 (runD r ⟨nx, ts, ps⟩).length, .d (iv (runE r ⟨nx, ts, ps⟩))]) := by
  refine acalls_S (rs := [.cell 4 44, .tmp 5, .tmp 6]) Try.func19 rfl rfl 117 [(0, .d (.agg (rollC r))), (1, .d (.agg (bookC ⟨nx, ts, ps⟩)))] rfl (by simp) rfl ?_
  refine awp_seq fun K0 hK0 => ?_
  refine awp_plain F_mixed [some 2, some 3, some 4, some 5, some 6] rfl ?_
  simp only [zzK, Nat.reduceLT, Nat.reduceLeDiff, Nat.reduceBEq, zz35, newRow1, zz1, zzG, zzD, zzC, Option.map_some, yyE, reduceCtorEq, Nat.reduceAdd, Nat.zero_add, zzH, zz32, F_zero44, zz10, evS_assign, rollC, memsD, instsD, assetsD, bookC, tradesB, poss, zz6, Nat.reduceEqDiff, ↓reduceIte]
  refine hK0 _ ?_; try clear hK0 K0
  refine awp_keepL [2, 3, 4] ?_
  simp only [zzJ, Nat.reduceBEq]
  refine awp_seq fun K0 hK0 => ?_
  refine awp_seq fun K1 hK1 => ?_
  refine awp_plain F_mixed [some 17, some 18, some 19, some 20, some 21, some 22, some 23, some 24] rfl ?_
  simp only [zzK, Nat.reduceLT, Nat.reduceLeDiff, Nat.reduceBEq, Nat.reduceSub, S_getD, zz5, and_imp, imp_and, imp_self, F_ok40, F_ag40, F_sz40, zz8, zz23, zzD, Nat.reduceAdd, Nat.zero_add, zzH, zzC, Option.map_some, yyE, reduceCtorEq, evS_call, evC_value, zz29, gr_v, zz30, evS_move, F_ok44, F_ag44, F_sz44, zz13, pickK_l, pickK_r, memsD, instsD, assetsD, rollC, D.agg.injEq, memA, memC, instA, instC, zzG, bookC, tradesB, poss, zz6, Nat.reduceEqDiff, ↓reduceIte]
  refine call_go F_go40 (fun hG => rRoll_ r hr) (by simp [AV.ids, AV.idsL, instA, instC]) (by simp) ?_
  simp only [zzK, Nat.reduceLT, Nat.reduceLeDiff, Nat.reduceBEq, Nat.reduceSub, S_getD, zz5, and_imp, imp_and, imp_self, F_ok40, F_ag40, F_sz40, zz8, zz23, zzD, Nat.reduceAdd, Nat.zero_add, zzH, zzC, Option.map_some, yyE, reduceCtorEq, evS_call, evC_value, zz29, gr_v, zz30, evS_move, F_ok44, F_ag44, F_sz44, zz13, pickK_l, pickK_r, memsD, instsD, assetsD, rollC, D.agg.injEq, memA, memC, instA, instC, zzG, bookC, tradesB, poss, zz6, Nat.reduceEqDiff, ↓reduceIte, atsL, oksG, freeN, AV.ren, AV.renL, addRows, ORow.row, Nat.reduceMul, Nat.reduceAdd, zz9, Option.bind_some, Option.map_some, S_mem, yyF, List.length_cons, zz2]
  refine call_go F_go41 (fun hG => rBook_ nx ts ps (by omega) (by omega)) (by simp [AV.ids, AV.idsL, instA, instC]) (by simp) ?_
  simp only [zzK, Nat.reduceLT, Nat.reduceLeDiff, Nat.reduceBEq, Nat.reduceSub, S_getD, zz5, and_imp, imp_and, imp_self, F_ok40, F_ag40, F_sz40, zz8, zz23, zzD, Nat.reduceAdd, Nat.zero_add, zzH, zzC, Option.map_some, yyE, reduceCtorEq, evS_call, evC_value, zz29, gr_v, zz30, evS_move, F_ok44, F_ag44, F_sz44, zz13, pickK_l, pickK_r, memsD, instsD, assetsD, rollC, D.agg.injEq, memA, memC, instA, instC, zzG, bookC, tradesB, poss, zz6, Nat.reduceEqDiff, ↓reduceIte, atsL, oksG, freeN, AV.ren, AV.renL, addRows, ORow.row, Nat.reduceMul, Nat.reduceAdd, zz9, Option.bind_some, Option.map_some, S_mem, yyF, List.length_cons, zz2]
  refine hK1 _ ?_; try clear hK1 K1
  refine awp_keepL [2, 3, 4, 24] ?_
  simp only [zzJ, Nat.reduceBEq]
  refine awp_condS _ (by decide) (by simp only [look_cons, Nat.reduceBEq, cond_true, cond_false]; rfl) ?_ ?_
  · intro hb
    have e := run_bad (r := r) (b := ⟨nx, ts, ps⟩) hb
    clear hb
    refine awp_seq fun K2 hK2 => ?_
    refine awp_plain F_mixed [some 25, none, some 5, some 6] rfl ?_
    simp only [zzK, Nat.reduceLT, Nat.reduceLeDiff, Nat.reduceBEq, F_zero44, F_bld44, zz7, splice, Option.getD_some, List.append_nil, zz1, zzG, zzD, zzC, Option.map_some, yyE, reduceCtorEq, Nat.reduceAdd, Nat.zero_add, zzH, zz10, zz18, F_ok44, F_sz44, evS_assign, zz6, Nat.reduceEqDiff, ↓reduceIte]
    refine hK2 _ ?_; try clear hK2 K2
    refine awp_keepL [4, 5, 6] ?_
    simp only [zzJ, Nat.reduceBEq]
    refine awp_le (le_SK id [0, 1, 2] rfl (l' := [(4, .ptr 4 0 0), (5, .ref 2 0), (6, .d (iv 14))]) (m' := [(4, (⟨True, 44, 3, true, false, 4, [[.d (.v (.int .i64 0)), .ref 0 0, .ref 1 0]]⟩ : ARow)), (0, (⟨True, 93, 7, true, true, 0, []⟩ : ARow)), (1, (⟨True, 25, 4, true, true, 1, []⟩ : ARow)), (2, (⟨True, 68, 3, true, true, 2, []⟩ : ARow))]) ?_ ?_ ?_ ?_) ?_
    · simp only [leV, look_cons, Nat.reduceBEq, cond_true, cond_false]; exact ⟨VLe.ptr_ (f := id) (by decide), VLe.nil_ (by decide), VLe.still rfl, trivial⟩
    · exact ⟨fun _ => ⟨_, rfl, RowLe.cells (VLess.one_ (VLes.cons_ (VLe.still rfl) (VLes.cons_ (VLe.nil_ (by decide)) (VLes.cons_ (VLe.nil_ (by decide)) VLes.nil_))))⟩, fun h => by simp at h, fun h => by simp at h, fun _ => rfl, fun h => by simp at h, fun _ => rfl, fun h => by simp at h, fun _ => rfl, trivial⟩
    · simp [wfV, AV.ids, lookR]
    · simp [wfR, AV.idsL, AV.ids, lookR]
    refine awp_ret ?_
    simp only [zz6, Nat.reduceEqDiff, ↓reduceIte]
    have n0 : runE r ⟨nx, ts, ps⟩ ≠ 0 := by rw [e]; decide
    have e3 : (runE r ⟨nx, ts, ps⟩ == 0) = false := by simpa using n0
    simp only [runT, runP, runD, runN, e3, cond_false, List.map_nil]
    rw [e]
    refine doneN [0, 1, 2] (by simp [resCs, resC, S, List.getD, look_cons, lookR, F_ag44, F_sz44, F_ok44]) ?_ (by simp [flatA, flatAs, flatD, ]) (by simp [AV.ids, AV.idsL, ]) (by decide) ?_
    · simp only [List.map_cons, List.map_nil, resA, S_getD, S_mem, lookR_cons, lookR_nil, Nat.reduceLT, Nat.reduceLeDiff, look_cons, Nat.reduceBEq, cond_true, cond_false, resAll, List.getD_cons_zero, List.getD_cons_succ, List.drop_zero, List.drop_succ_cons, List.take_succ_cons, List.take_zero, F_ag44, F_sz44, F_ok44]; rfl
    · exact ⟨⟨_, rfl, trivial, rfl, rfl, rfl, rfl⟩, by simp [flatDs, flatD, tradeC], ⟨_, rfl, trivial, rfl, rfl, rfl, rfl⟩, by simp [flatDs, flatD, posC], ⟨_, rfl, trivial, rfl, rfl, rfl, rfl⟩, by simp [flatDs, flatD, dueC], trivial⟩
  · intro hb
    have hro : rollOk r = true := by simp at hb; exact hb.1
    have hbo : bookOk ⟨nx, ts, ps⟩ = true := by simp at hb; exact hb.2
    clear hb
    have e := runE_poss (b := ⟨nx, ts, ps⟩) ((roll_E r).1.2 hro) ((book_E _).1.2 hbo)
    refine awp_skip ?_
    simp only [zz6, Nat.reduceEqDiff, ↓reduceIte]
    refine hK0 _ ?_; try clear hK0 K0
    refine awp_keepL [2, 3, 4] ?_
    simp only [zzJ, Nat.reduceBEq]
    refine awp_seq fun K0 hK0 => ?_
    refine awp_plain F_mixed [some 26, some 27, some 7, none] rfl ?_
    simp only [zzK, Nat.reduceLT, Nat.reduceLeDiff, Nat.reduceBEq, F_ok44, F_ag44, F_sz44, zz8, zz23, zzD, Nat.reduceAdd, Nat.zero_add, zzH, zzC, Option.map_some, yyE, reduceCtorEq, evS_call, evC_value, zz32, newRow1, F_zero44, zz10, zz18, splice, List.append_nil, zz1, zzG, bookC, tradesB, poss, D.agg.injEq, zz6, Nat.reduceEqDiff, ↓reduceIte]
    refine call_go F_go17 (fun hG => twinBk_ nx ts ps (by omega) (by omega)) (by simp [AV.ids, AV.idsL]) (by simp) ?_
    simp only [zzK, Nat.reduceLT, Nat.reduceLeDiff, Nat.reduceBEq, F_ok44, F_ag44, F_sz44, zz8, zz23, zzD, Nat.reduceAdd, Nat.zero_add, zzH, zzC, Option.map_some, yyE, reduceCtorEq, evS_call, evC_value, zz32, newRow1, F_zero44, zz10, zz18, splice, List.append_nil, zz1, zzG, bookC, tradesB, poss, D.agg.injEq, zz6, Nat.reduceEqDiff, ↓reduceIte, atsL, oksG, freeN, AV.ren, AV.renL, addRows, ORow.row, Nat.reduceMul, Nat.reduceAdd, zz9, Option.bind_some, Option.map_some, S_mem, yyF, List.length_cons, zz2]
    refine hK0 _ ?_; try clear hK0 K0
    refine awp_keepL [2, 3, 4, 7] ?_
    simp only [zzJ, Nat.reduceBEq]
    refine awp_seq fun K0 hK0 => ?_
    refine awp_plain F_mixed [some 28, none] rfl ?_
    simp only [zzK, Nat.reduceLT, Nat.reduceLeDiff, Nat.reduceBEq, zz19, zz23, F_off44_2, zzH, Nat.zero_add, Nat.reduceAdd, zz18, F_ok42, F_sz42, splice, List.append_nil, zzD, zzC, Option.map_some, yyE, reduceCtorEq, zz1, zzG, zz6, Nat.reduceEqDiff, ↓reduceIte]
    refine hK0 _ ?_; try clear hK0 K0
    refine awp_keepL [2, 3, 4, 7] ?_
    simp only [zzJ, Nat.reduceBEq]
    refine awp_seq fun K0 hK0 => ?_
    refine awp_plain F_mixed [some 8] rfl ?_
    simp only [zzK, Nat.reduceLT, Nat.reduceLeDiff, Nat.reduceBEq, evS_assign, zz6, Nat.reduceEqDiff, ↓reduceIte]
    refine hK0 _ ?_; try clear hK0 K0
    refine awp_keepL [2, 3, 4, 7, 8] ?_
    simp only [zzJ, Nat.reduceBEq]
    refine awp_seq fun K0 hK0 => ?_
    refine awp_seq fun K1 hK1 => ?_
    refine awp_plain F_mixed [some 9] rfl ?_
    simp only [zzK, Nat.reduceLT, Nat.reduceLeDiff, Nat.reduceBEq, evS_assign, zz6, Nat.reduceEqDiff, ↓reduceIte]
    refine hK1 _ ?_; try clear hK1 K1
    refine awp_keepL [2, 3, 4, 7, 8, 9] ?_
    simp only [zzJ, Nat.reduceBEq]
    refine awp_block ?_
    refine awp_loop (fun m s => ∃ (pre : List PosV) (post : List PosV), (ps = pre ++ post) ∧ (firstE (stE r) pre = 0) ∧ m = post.length ∧ s = S 117 [(2, .ptr 2 0 0), (3, .ptr 3 0 0), (4, .ptr 4 0 0), (7, .ptr 7 0 0), (8, .ref 8 (pre.map (dueOf r)).length), (9, .d (iv pre.length))] [(2, (⟨True, 40, 3, true, false, 2, [[.d (.sl 3 (r.mems.map memC)), .d (.sl 12 (r.insts.map instC)), .d (.sl 4 (r.assets.map assetC))]]⟩ : ARow)), (3, (⟨True, 44, 3, true, false, 3, [[.d (iv nx), .d (.sl 7 (ts.map tradeC)), .d (.sl 4 (ps.map posC))]]⟩ : ARow)), (4, (⟨True, 44, 3, true, false, 4, [[.d (.v (.int .i64 0)), .d (.v (.slice none 0 0)), .d (.v (.slice none 0 0))]]⟩ : ARow)), (7, (⟨True, 44, 3, true, false, 7, [[.d (iv nx), .ref 28000 ts.length, .ref 500 (newPs r pre).length]]⟩ : ARow)), (28000, (⟨True, 93, 7, true, true, 28000, (ts.map tradeC).map (·.map .d)⟩ : ARow)), (500, grow 25 4 500 ((newPs r pre).map posC)), (8, grow 68 3 8 ((pre.map (dueOf r)).map dueC))]) (ps.length) _ (le_SK id [500, 8] rfl (l' := [(2, .ptr 2 0 0), (3, .ptr 3 0 0), (4, .ptr 4 0 0), (7, .ptr 7 0 0), (8, .ref 8 ([].map (dueOf r)).length), (9, .d (iv [].length))]) (m' := [(2, (⟨True, 40, 3, true, false, 2, [[.d (.sl 3 (r.mems.map memC)), .d (.sl 12 (r.insts.map instC)), .d (.sl 4 (r.assets.map assetC))]]⟩ : ARow)), (3, (⟨True, 44, 3, true, false, 3, [[.d (iv nx), .d (.sl 7 (ts.map tradeC)), .d (.sl 4 (ps.map posC))]]⟩ : ARow)), (4, (⟨True, 44, 3, true, false, 4, [[.d (.v (.int .i64 0)), .d (.v (.slice none 0 0)), .d (.v (.slice none 0 0))]]⟩ : ARow)), (7, (⟨True, 44, 3, true, false, 7, [[.d (iv nx), .ref 28000 ts.length, .ref 500 (newPs r []).length]]⟩ : ARow)), (28000, (⟨True, 93, 7, true, true, 28000, (ts.map tradeC).map (·.map .d)⟩ : ARow)), (500, grow 25 4 500 ((newPs r []).map posC)), (8, grow 68 3 8 (([].map (dueOf r)).map dueC))]) ?_ ?_ ?_ ?_) ⟨[], ps, rfl, rfl, rfl, rfl⟩ ?_
    · simp only [leV, look_cons, Nat.reduceBEq, cond_true, cond_false]; exact ⟨(by first | exact VLe.still rfl | exact VLe.nil_ (by decide) | exact VLe.nild_ | exact VLe.refl _ | exact VLe.ptrE (by simp) (by rfl) | exact VLe.refE (by simp) (by rfl) (by first | rfl | (simp; done) | (simp; omega)) | exact VLe.dE (by first | rfl | simp)), (by first | exact VLe.still rfl | exact VLe.nil_ (by decide) | exact VLe.nild_ | exact VLe.refl _ | exact VLe.ptrE (by simp) (by rfl) | exact VLe.refE (by simp) (by rfl) (by first | rfl | (simp; done) | (simp; omega)) | exact VLe.dE (by first | rfl | simp)), (by first | exact VLe.still rfl | exact VLe.nil_ (by decide) | exact VLe.nild_ | exact VLe.refl _ | exact VLe.ptrE (by simp) (by rfl) | exact VLe.refE (by simp) (by rfl) (by first | rfl | (simp; done) | (simp; omega)) | exact VLe.dE (by first | rfl | simp)), (by first | exact VLe.still rfl | exact VLe.nil_ (by decide) | exact VLe.nild_ | exact VLe.refl _ | exact VLe.ptrE (by simp) (by rfl) | exact VLe.refE (by simp) (by rfl) (by first | rfl | (simp; done) | (simp; omega)) | exact VLe.dE (by first | rfl | simp)), (by first | exact VLe.still rfl | exact VLe.nil_ (by decide) | exact VLe.nild_ | exact VLe.refl _ | exact VLe.ptrE (by simp) (by rfl) | exact VLe.refE (by simp) (by rfl) (by first | rfl | (simp; done) | (simp; omega)) | exact VLe.dE (by first | rfl | simp)), (by first | exact VLe.still rfl | exact VLe.nil_ (by decide) | exact VLe.nild_ | exact VLe.refl _ | exact VLe.ptrE (by simp) (by rfl) | exact VLe.refE (by simp) (by rfl) (by first | rfl | (simp; done) | (simp; omega)) | exact VLe.dE (by first | rfl | simp)), trivial⟩
    · exact ⟨fun _ => ⟨_, rfl, (by first | exact RowLe.still (by simp [AV.idsL, AV.ids]) | exact RowLe.same (by simp) (by simp [AV.idsL, AV.ids]))⟩, fun h => by simp at h, fun _ => ⟨_, rfl, (by first | exact RowLe.still (by simp [AV.idsL, AV.ids]) | exact RowLe.same (by simp) (by simp [AV.idsL, AV.ids]))⟩, fun h => by simp at h, fun _ => ⟨_, rfl, (by first | exact RowLe.still (by simp [AV.idsL, AV.ids]) | exact RowLe.same (by simp) (by simp [AV.idsL, AV.ids]))⟩, fun h => by simp at h, fun _ => ⟨_, rfl, RowLe.cells (VLess.one_ (VLes.cons_ (VLe.dE rfl) (VLes.cons_ (VLe.refE (by simp) rfl (by simp)) (VLes.cons_ (VLe.nil_ (by decide)) (VLes.nil_)))))⟩, fun h => by simp at h, fun _ => ⟨_, rfl, (by first | exact RowLe.still ids_data | exact RowLe.same (by simp) ids_data)⟩, fun h => by simp at h, fun h => by simp at h, fun _ => rfl, fun h => by simp at h, fun _ => rfl, trivial⟩
    · simp [wfV, AV.ids, AV.idsL, lookR, grow]
    · exact ⟨by simp [AV.idsL, AV.ids, lookR], by simp [AV.idsL, AV.ids, lookR], by simp [AV.idsL, AV.ids, lookR], by simp [AV.idsL, AV.ids, lookR], wf_data _ _, wf_data _ _, wf_data _ _, trivial⟩
    rintro m s ⟨pre, post, hsp, hfe, rfl, rfl⟩
    have hspl := congrArg List.length hsp
    simp only [List.length_append] at hspl
    have hnl := newPs_len r pre
    refine awp_seq fun K2 hK2 => ?_
    refine awp_seq fun K3 hK3 => ?_
    refine awp_plain F_mixed [some 29, some 30, some 31, some 32, some 33] rfl ?_
    simp only [zzK, Nat.reduceLT, Nat.reduceLeDiff, Nat.reduceBEq, evS_move, zz19, zz23, F_off44_2, zzH, Nat.zero_add, Nat.reduceAdd, F_ok42, F_ag42, F_sz42, zz8, zzD, zzC, Option.map_some, yyE, reduceCtorEq, evS_call, zz12, F_sl42, Option.isSome_some, zz21, gr_v, zz22, len_map, zz6, Nat.reduceEqDiff, ↓reduceIte]
    refine hK3 _ ?_; try clear hK3 K3
    refine awp_keepL [2, 3, 4, 7, 8, 9, 33] ?_
    simp only [zzJ, Nat.reduceBEq]
    refine awp_condS _ (by decide) (by simp only [look_cons, Nat.reduceBEq, cond_true, cond_false]; rfl) ?_ ?_
    · intro hb
      obtain ⟨x, post2, rfl⟩ : ∃ x t, post = x :: t := by
        cases post with
        | nil => have := of_decide_eq_true hb; simp at hspl; omega
        | cons x t => exact ⟨x, t, rfl⟩
      clear hb
      simp only [List.length_cons] at hspl
      have gx : (ps.map posC).getD pre.length [] = [iv x.who, iv x.inst, iv x.qty, iv x.cost] := by
        rw [hsp, List.map_append]; exact gd_mid' (A := pre.map posC) _ _ (by simp)
      have bx := ltI (show pre.length < ps.length by omega)
      have hwx : IntKind.wrap .i64 ((pre.length : Int) + 1) = ((pre ++ [x]).length : Int) := by rw [wrapI (by omega) (by omega)]; simp
      refine awp_skip ?_
      simp only [zz6, Nat.reduceEqDiff, ↓reduceIte]
      refine hK2 _ ?_; try clear hK2 K2
      refine awp_keepL [2, 3, 4, 7, 8, 9] ?_
      simp only [zzJ, Nat.reduceBEq]
      refine awp_seq fun K2 hK2 => ?_
      refine awp_block ?_
      refine awp_seq fun K3 hK3 => ?_
      refine awp_plain F_mixed [some 36, some 37, some 38, some 39, some 40, some 10, none] rfl ?_
      simp only [zzK, Nat.reduceLT, Nat.reduceLeDiff, Nat.reduceBEq, zz19, zz23, F_off44_2, zzH, Nat.zero_add, Nat.reduceAdd, F_ok42, F_ag42, F_sz42, zz8, zzD, zzC, Option.map_some, yyE, reduceCtorEq, evS_move, evS_indexAddr, zz24, F_sl42, F_sz25, F_ok25, F_ag25, zz32, newRow1, F_zero25, zz10, zz18, splice, List.append_nil, zz1, zzG, posC, gx, bx, hwx, len_map, ge0, Int.toNat_natCast, D.agg.injEq, zz6, Nat.reduceEqDiff, ↓reduceIte]
      refine hK3 _ ?_; try clear hK3 K3
      refine awp_keepL [2, 3, 4, 7, 8, 9, 10] ?_
      simp only [zzJ, Nat.reduceBEq]
      refine awp_seq fun K3 hK3 => ?_
      refine awp_plain F_mixed [some 42, some 43, some 44, some 45, some 46, some 41, some 47, some 48, some 11, none, some 12] rfl ?_
      simp only [zzK, Nat.reduceLT, Nat.reduceLeDiff, Nat.reduceBEq, F_ok40, F_ag40, F_sz40, zz8, zz23, zzD, Nat.reduceAdd, Nat.zero_add, zzH, zzC, Option.map_some, yyE, reduceCtorEq, zz19, F_off25_0, F_off23_1, F_ok3, F_ag3, F_sz3, evS_call, evC_value, evS_move, zz14, zz32, newRow1, F_zero33, zz10, zz18, F_ok33, F_sz33, splice, List.append_nil, zz1, zzG, evS_assign, memsD, instsD, assetsD, rollC, D.agg.injEq, memA, memC, instA, instC, List.map_cons, zz6, Nat.reduceEqDiff, ↓reduceIte]
      refine call_go F_go42 (fun hG => rInstR_ r x hr) (by simp [AV.ids, AV.idsL, instA, instC]) (by simp) ?_
      simp only [zzK, Nat.reduceLT, Nat.reduceLeDiff, Nat.reduceBEq, F_ok40, F_ag40, F_sz40, zz8, zz23, zzD, Nat.reduceAdd, Nat.zero_add, zzH, zzC, Option.map_some, yyE, reduceCtorEq, zz19, F_off25_0, F_off23_1, F_ok3, F_ag3, F_sz3, evS_call, evC_value, evS_move, zz14, zz32, newRow1, F_zero33, zz10, zz18, F_ok33, F_sz33, splice, List.append_nil, zz1, zzG, evS_assign, memsD, instsD, assetsD, rollC, D.agg.injEq, memA, memC, instA, instC, List.map_cons, zz6, Nat.reduceEqDiff, ↓reduceIte, atsL, oksG, freeN, AV.ren, AV.renL, addRows, ORow.row, Nat.reduceMul, Nat.reduceAdd, zz9, Option.bind_some, Option.map_some, S_mem, yyF, List.length_cons, zz2]
      refine hK3 _ ?_; try clear hK3 K3
      refine awp_keepL [2, 3, 4, 7, 8, 9, 10, 11, 12] ?_
      simp only [zzJ, Nat.reduceBEq]
      refine awp_seq fun K3 hK3 => ?_
      refine awp_seq fun K4 hK4 => ?_
      refine awp_plain F_mixed [some 49, some 50] rfl ?_
      simp only [zzK, Nat.reduceLT, Nat.reduceLeDiff, Nat.reduceBEq, evS_move, zz29, gr_v, zz30, zz6, Nat.reduceEqDiff, ↓reduceIte]
      refine hK4 _ ?_; try clear hK4 K4
      refine awp_keepL [2, 3, 4, 7, 8, 9, 10, 11, 50] ?_
      simp only [zzJ, Nat.reduceBEq]
      refine awp_condS _ (by decide) (by simp only [look_cons, Nat.reduceBEq, cond_true, cond_false]; rfl) ?_ ?_
      · intro hb
        have his : isOf r x = false := by simpa using hb
        clear hb
        have hx := st_none his
        have e2 : runE r ⟨nx, ts, ps⟩ = 10 := by rw [e]; show firstE (stE r) ps = _; rw [hsp, firstE_hit hfe (by rw [hx]; rfl), hx]
        refine awp_seq fun K5 hK5 => ?_
        refine awp_plain F_mixed [some 51, none, some 5, some 6] rfl ?_
        simp only [zzK, Nat.reduceLT, Nat.reduceLeDiff, Nat.reduceBEq, F_zero44, F_bld44, zz7, splice, Option.getD_some, List.append_nil, zz1, zzG, zzD, zzC, Option.map_some, yyE, reduceCtorEq, Nat.reduceAdd, Nat.zero_add, zzH, zz10, zz18, F_ok44, F_sz44, evS_assign, zz6, Nat.reduceEqDiff, ↓reduceIte]
        refine hK5 _ ?_; try clear hK5 K5
        refine awp_keepL [4, 5, 6] ?_
        simp only [zzJ, Nat.reduceBEq]
        refine awp_le (le_SK id [0, 1, 2] rfl (l' := [(4, .ptr 4 0 0), (5, .ref 2 0), (6, .d (iv 10))]) (m' := [(4, (⟨True, 44, 3, true, false, 4, [[.d (.v (.int .i64 0)), .ref 0 0, .ref 1 0]]⟩ : ARow)), (0, (⟨True, 93, 7, true, true, 0, []⟩ : ARow)), (1, (⟨True, 25, 4, true, true, 1, []⟩ : ARow)), (2, (⟨True, 68, 3, true, true, 2, []⟩ : ARow))]) ?_ ?_ ?_ ?_) ?_
        · simp only [leV, look_cons, Nat.reduceBEq, cond_true, cond_false]; exact ⟨VLe.ptr_ (f := id) (by decide), VLe.nil_ (by decide), VLe.still rfl, trivial⟩
        · exact ⟨fun _ => ⟨_, rfl, RowLe.cells (VLess.one_ (VLes.cons_ (VLe.still rfl) (VLes.cons_ (VLe.nil_ (by decide)) (VLes.cons_ (VLe.nil_ (by decide)) VLes.nil_))))⟩, fun h => by simp at h, fun h => by simp at h, fun _ => rfl, fun h => by simp at h, fun _ => rfl, fun h => by simp at h, fun _ => rfl, trivial⟩
        · simp [wfV, AV.ids, lookR]
        · simp [wfR, AV.idsL, AV.ids, lookR]
        refine awp_ret ?_
        simp only [zz6, Nat.reduceEqDiff, ↓reduceIte]
        have n0 : runE r ⟨nx, ts, ps⟩ ≠ 0 := by rw [e2]; decide
        have e3 : (runE r ⟨nx, ts, ps⟩ == 0) = false := by simpa using n0
        simp only [runT, runP, runD, runN, e3, cond_false, List.map_nil]
        rw [e2]
        refine doneN [0, 1, 2] (by simp [resCs, resC, S, List.getD, look_cons, lookR, F_ag44, F_sz44, F_ok44]) ?_ (by simp [flatA, flatAs, flatD, ]) (by simp [AV.ids, AV.idsL, ]) (by decide) ?_
        · simp only [List.map_cons, List.map_nil, resA, S_getD, S_mem, lookR_cons, lookR_nil, Nat.reduceLT, Nat.reduceLeDiff, look_cons, Nat.reduceBEq, cond_true, cond_false, resAll, List.getD_cons_zero, List.getD_cons_succ, List.drop_zero, List.drop_succ_cons, List.take_succ_cons, List.take_zero, F_ag44, F_sz44, F_ok44]; rfl
        · exact ⟨⟨_, rfl, trivial, rfl, rfl, rfl, rfl⟩, by simp [flatDs, flatD, tradeC], ⟨_, rfl, trivial, rfl, rfl, rfl, rfl⟩, by simp [flatDs, flatD, posC], ⟨_, rfl, trivial, rfl, rfl, rfl, rfl⟩, by simp [flatDs, flatD, dueC], trivial⟩
      · intro hb
        have his : isOf r x = true := by simpa using hb
        clear hb
        have hwb := run_wb hro hbo (x := x) (by show x ∈ ps; rw [hsp]; simp) his
        obtain ⟨w1, w2, w3, w4⟩ := wb_facts hwb
        refine awp_skip ?_
        simp only [zz6, Nat.reduceEqDiff, ↓reduceIte]
        refine hK3 _ ?_; try clear hK3 K3
        refine awp_keepL [2, 3, 4, 7, 8, 9, 10, 11] ?_
        simp only [zzJ, Nat.reduceBEq]
        refine awp_seq fun K3 hK3 => ?_
        refine awp_plain F_mixed [some 53, some 54, some 52, some 55, some 56, some 13, some 14] rfl ?_
        simp only [zzK, Nat.reduceLT, Nat.reduceLeDiff, Nat.reduceBEq, F_ok33, F_ag33, F_sz33, zz8, zz23, zzD, Nat.reduceAdd, Nat.zero_add, zzH, zzC, Option.map_some, yyE, reduceCtorEq, evS_call, evC_value, evS_move, zz14, evS_assign, instC, D.agg.injEq, zz6, Nat.reduceEqDiff, ↓reduceIte]
        refine call_go F_go15 (fun hG => rPrice_ (iOf r x)) (by simp [AV.ids, AV.idsL, instC]) (by simp) ?_
        simp only [zzK, Nat.reduceLT, Nat.reduceLeDiff, Nat.reduceBEq, F_ok33, F_ag33, F_sz33, zz8, zz23, zzD, Nat.reduceAdd, Nat.zero_add, zzH, zzC, Option.map_some, yyE, reduceCtorEq, evS_call, evC_value, evS_move, zz14, evS_assign, instC, D.agg.injEq, zz6, Nat.reduceEqDiff, ↓reduceIte, atsL, oksG, freeN, AV.ren, AV.renL, addRows, ORow.row, Nat.reduceMul, Nat.reduceAdd, zz9, Option.bind_some, Option.map_some, S_mem, yyF, List.length_cons, zz2]
        refine hK3 _ ?_; try clear hK3 K3
        refine awp_keepL [2, 3, 4, 7, 8, 9, 10, 11, 13, 14] ?_
        simp only [zzJ, Nat.reduceBEq]
        refine awp_seq fun K3 hK3 => ?_
        refine awp_seq fun K4 hK4 => ?_
        refine awp_plain F_mixed [some 57, some 58, some 59, some 60, some 61, some 62, some 63] rfl ?_
        simp only [zzK, Nat.reduceLT, Nat.reduceLeDiff, Nat.reduceBEq, Nat.reduceSub, S_getD, zz5, and_imp, imp_and, imp_self, evS_move, zz29, gr_v, zz30, zz19, zz23, F_off25_1, zzH, Nat.zero_add, Nat.reduceAdd, F_ok3, F_ag3, F_sz3, zz8, zzD, zzC, Option.map_some, yyE, reduceCtorEq, zz21, zz28, zz13, pickK_l, pickK_r, zz6, Nat.reduceEqDiff, ↓reduceIte]
        refine hK4 _ ?_; try clear hK4 K4
        refine awp_keepL [2, 3, 4, 7, 8, 9, 10, 11, 13, 63] ?_
        simp only [zzJ, Nat.reduceBEq]
        refine awp_condS _ (by decide) (by simp only [look_cons, Nat.reduceBEq, cond_true, cond_false]; rfl) ?_ ?_
        · intro hb
          have hx := st_price his hb
          clear hb
          have e2 : runE r ⟨nx, ts, ps⟩ = 20 := by rw [e]; show firstE (stE r) ps = _; rw [hsp, firstE_hit hfe (by rw [hx]; rfl), hx]
          refine awp_seq fun K5 hK5 => ?_
          refine awp_plain F_mixed [some 64, none, some 5, some 6] rfl ?_
          simp only [zzK, Nat.reduceLT, Nat.reduceLeDiff, Nat.reduceBEq, F_zero44, F_bld44, zz7, splice, Option.getD_some, List.append_nil, zz1, zzG, zzD, zzC, Option.map_some, yyE, reduceCtorEq, Nat.reduceAdd, Nat.zero_add, zzH, zz10, zz18, F_ok44, F_sz44, evS_assign, zz6, Nat.reduceEqDiff, ↓reduceIte]
          refine hK5 _ ?_; try clear hK5 K5
          refine awp_keepL [4, 5, 6] ?_
          simp only [zzJ, Nat.reduceBEq]
          refine awp_le (le_SK id [0, 1, 2] rfl (l' := [(4, .ptr 4 0 0), (5, .ref 2 0), (6, .d (iv 20))]) (m' := [(4, (⟨True, 44, 3, true, false, 4, [[.d (.v (.int .i64 0)), .ref 0 0, .ref 1 0]]⟩ : ARow)), (0, (⟨True, 93, 7, true, true, 0, []⟩ : ARow)), (1, (⟨True, 25, 4, true, true, 1, []⟩ : ARow)), (2, (⟨True, 68, 3, true, true, 2, []⟩ : ARow))]) ?_ ?_ ?_ ?_) ?_
          · simp only [leV, look_cons, Nat.reduceBEq, cond_true, cond_false]; exact ⟨VLe.ptr_ (f := id) (by decide), VLe.nil_ (by decide), VLe.still rfl, trivial⟩
          · exact ⟨fun _ => ⟨_, rfl, RowLe.cells (VLess.one_ (VLes.cons_ (VLe.still rfl) (VLes.cons_ (VLe.nil_ (by decide)) (VLes.cons_ (VLe.nil_ (by decide)) VLes.nil_))))⟩, fun h => by simp at h, fun h => by simp at h, fun _ => rfl, fun h => by simp at h, fun _ => rfl, fun h => by simp at h, fun _ => rfl, trivial⟩
          · simp [wfV, AV.ids, lookR]
          · simp [wfR, AV.idsL, AV.ids, lookR]
          refine awp_ret ?_
          simp only [zz6, Nat.reduceEqDiff, ↓reduceIte]
          have n0 : runE r ⟨nx, ts, ps⟩ ≠ 0 := by rw [e2]; decide
          have e3 : (runE r ⟨nx, ts, ps⟩ == 0) = false := by simpa using n0
          simp only [runT, runP, runD, runN, e3, cond_false, List.map_nil]
          rw [e2]
          refine doneN [0, 1, 2] (by simp [resCs, resC, S, List.getD, look_cons, lookR, F_ag44, F_sz44, F_ok44]) ?_ (by simp [flatA, flatAs, flatD, ]) (by simp [AV.ids, AV.idsL, ]) (by decide) ?_
          · simp only [List.map_cons, List.map_nil, resA, S_getD, S_mem, lookR_cons, lookR_nil, Nat.reduceLT, Nat.reduceLeDiff, look_cons, Nat.reduceBEq, cond_true, cond_false, resAll, List.getD_cons_zero, List.getD_cons_succ, List.drop_zero, List.drop_succ_cons, List.take_succ_cons, List.take_zero, F_ag44, F_sz44, F_ok44]; rfl
          · exact ⟨⟨_, rfl, trivial, rfl, rfl, rfl, rfl⟩, by simp [flatDs, flatD, tradeC], ⟨_, rfl, trivial, rfl, rfl, rfl, rfl⟩, by simp [flatDs, flatD, posC], ⟨_, rfl, trivial, rfl, rfl, rfl, rfl⟩, by simp [flatDs, flatD, dueC], trivial⟩
        · intro hb
          have hmk := mk_ok his hb
          clear hb
          have hmv : priceV (iOf r x) = mkV r x := rfl
          simp only [hmv]
          refine awp_skip ?_
          simp only [zz6, Nat.reduceEqDiff, ↓reduceIte]
          refine hK3 _ ?_; try clear hK3 K3
          refine awp_keepL [2, 3, 4, 7, 8, 9, 10, 11, 13] ?_
          simp only [zzJ, Nat.reduceBEq]
          refine awp_seq fun K3 hK3 => ?_
          refine awp_plain F_mixed [some 66, some 67, some 68, some 69, some 70, some 65, some 71, some 72, some 15, some 14] rfl ?_
          simp only [zzK, Nat.reduceLT, Nat.reduceLeDiff, Nat.reduceBEq, F_ok25, F_ag25, F_sz25, zz8, zz23, zzD, Nat.reduceAdd, Nat.zero_add, zzH, zzC, Option.map_some, yyE, reduceCtorEq, zz19, F_off33_2, F_ok3, F_ag3, F_sz3, evS_move, evS_call, evC_value, zz14, evS_assign, posC, D.agg.injEq, zz6, Nat.reduceEqDiff, ↓reduceIte]
          refine call_go F_go14 (fun hG => rWorth_ x (iOf r x).mult (mkV r x) hwb) (by simp [AV.ids, AV.idsL]) (by simp) ?_
          simp only [zzK, Nat.reduceLT, Nat.reduceLeDiff, Nat.reduceBEq, F_ok25, F_ag25, F_sz25, zz8, zz23, zzD, Nat.reduceAdd, Nat.zero_add, zzH, zzC, Option.map_some, yyE, reduceCtorEq, zz19, F_off33_2, F_ok3, F_ag3, F_sz3, evS_move, evS_call, evC_value, zz14, evS_assign, posC, D.agg.injEq, zz6, Nat.reduceEqDiff, ↓reduceIte, atsL, oksG, freeN, AV.ren, AV.renL, addRows, ORow.row, Nat.reduceMul, Nat.reduceAdd, zz9, Option.bind_some, Option.map_some, S_mem, yyF, List.length_cons, zz2]
          refine hK3 _ ?_; try clear hK3 K3
          refine awp_keepL [2, 3, 4, 7, 8, 9, 10, 11, 13, 14, 15] ?_
          simp only [zzJ, Nat.reduceBEq]
          refine awp_seq fun K3 hK3 => ?_
          refine awp_plain F_mixed [some 74, some 75, some 76, some 77, some 73, some 78, some 79, some 16, some 12] rfl ?_
          simp only [zzK, Nat.reduceLT, Nat.reduceLeDiff, Nat.reduceBEq, zz19, zz23, F_off25_1, zzH, Nat.zero_add, Nat.reduceAdd, F_ok3, F_ag3, F_sz3, zz8, zzD, zzC, Option.map_some, yyE, reduceCtorEq, evS_move, evS_call, evC_value, zz14, evS_assign, zz6, Nat.reduceEqDiff, ↓reduceIte]
          refine call_go F_go43 (fun hG => rMul_ x.qty (mkV r x) (by omega) (by omega) (by omega) (by omega)) (by simp [AV.ids, AV.idsL]) (by simp) ?_
          simp only [zzK, Nat.reduceLT, Nat.reduceLeDiff, Nat.reduceBEq, zz19, zz23, F_off25_1, zzH, Nat.zero_add, Nat.reduceAdd, F_ok3, F_ag3, F_sz3, zz8, zzD, zzC, Option.map_some, yyE, reduceCtorEq, evS_move, evS_call, evC_value, zz14, evS_assign, zz6, Nat.reduceEqDiff, ↓reduceIte, atsL, oksG, freeN, AV.ren, AV.renL, addRows, ORow.row, Nat.reduceMul, Nat.reduceAdd, zz9, Option.bind_some, Option.map_some, S_mem, yyF, List.length_cons, zz2]
          refine hK3 _ ?_; try clear hK3 K3
          refine awp_keepL [2, 3, 4, 7, 8, 9, 10, 11, 12, 14, 15, 16] ?_
          simp only [zzJ, Nat.reduceBEq]
          refine awp_seq fun K3 hK3 => ?_
          refine awp_seq fun K4 hK4 => ?_
          refine awp_plain F_mixed [some 80, some 81, some 82, some 83, some 84, some 85] rfl ?_
          simp only [zzK, Nat.reduceLT, Nat.reduceLeDiff, Nat.reduceBEq, Nat.reduceSub, S_getD, zz5, and_imp, imp_and, imp_self, and_self, evS_move, zz29, gr_v, zz30, zz13, pickK_l, pickK_r, zz6, Nat.reduceEqDiff, ↓reduceIte]
          refine hK4 _ ?_; try clear hK4 K4
          refine awp_keepL [2, 3, 4, 7, 8, 9, 10, 11, 15, 16, 85] ?_
          simp only [zzJ, Nat.reduceBEq]
          refine awp_condS _ (by decide) (by simp only [look_cons, Nat.reduceBEq, cond_true, cond_false]; rfl) ?_ ?_
          · intro hb
            have hx := st_big hmk hwb hb
            clear hb
            have e2 : runE r ⟨nx, ts, ps⟩ = 1 := by rw [e]; show firstE (stE r) ps = _; rw [hsp, firstE_hit hfe (by rw [hx]; rfl), hx]
            refine awp_seq fun K5 hK5 => ?_
            refine awp_plain F_mixed [some 86, none, some 5, some 6] rfl ?_
            simp only [zzK, Nat.reduceLT, Nat.reduceLeDiff, Nat.reduceBEq, F_zero44, F_bld44, zz7, splice, Option.getD_some, List.append_nil, zz1, zzG, zzD, zzC, Option.map_some, yyE, reduceCtorEq, Nat.reduceAdd, Nat.zero_add, zzH, zz10, zz18, F_ok44, F_sz44, evS_assign, zz6, Nat.reduceEqDiff, ↓reduceIte]
            refine hK5 _ ?_; try clear hK5 K5
            refine awp_keepL [4, 5, 6] ?_
            simp only [zzJ, Nat.reduceBEq]
            refine awp_le (le_SK id [0, 1, 2] rfl (l' := [(4, .ptr 4 0 0), (5, .ref 2 0), (6, .d (iv 1))]) (m' := [(4, (⟨True, 44, 3, true, false, 4, [[.d (.v (.int .i64 0)), .ref 0 0, .ref 1 0]]⟩ : ARow)), (0, (⟨True, 93, 7, true, true, 0, []⟩ : ARow)), (1, (⟨True, 25, 4, true, true, 1, []⟩ : ARow)), (2, (⟨True, 68, 3, true, true, 2, []⟩ : ARow))]) ?_ ?_ ?_ ?_) ?_
            · simp only [leV, look_cons, Nat.reduceBEq, cond_true, cond_false]; exact ⟨VLe.ptr_ (f := id) (by decide), VLe.nil_ (by decide), VLe.still rfl, trivial⟩
            · exact ⟨fun _ => ⟨_, rfl, RowLe.cells (VLess.one_ (VLes.cons_ (VLe.still rfl) (VLes.cons_ (VLe.nil_ (by decide)) (VLes.cons_ (VLe.nil_ (by decide)) VLes.nil_))))⟩, fun h => by simp at h, fun h => by simp at h, fun _ => rfl, fun h => by simp at h, fun _ => rfl, fun h => by simp at h, fun _ => rfl, trivial⟩
            · simp [wfV, AV.ids, lookR]
            · simp [wfR, AV.idsL, AV.ids, lookR]
            refine awp_ret ?_
            simp only [zz6, Nat.reduceEqDiff, ↓reduceIte]
            have n0 : runE r ⟨nx, ts, ps⟩ ≠ 0 := by rw [e2]; decide
            have e3 : (runE r ⟨nx, ts, ps⟩ == 0) = false := by simpa using n0
            simp only [runT, runP, runD, runN, e3, cond_false, List.map_nil]
            rw [e2]
            refine doneN [0, 1, 2] (by simp [resCs, resC, S, List.getD, look_cons, lookR, F_ag44, F_sz44, F_ok44]) ?_ (by simp [flatA, flatAs, flatD, ]) (by simp [AV.ids, AV.idsL, ]) (by decide) ?_
            · simp only [List.map_cons, List.map_nil, resA, S_getD, S_mem, lookR_cons, lookR_nil, Nat.reduceLT, Nat.reduceLeDiff, look_cons, Nat.reduceBEq, cond_true, cond_false, resAll, List.getD_cons_zero, List.getD_cons_succ, List.drop_zero, List.drop_succ_cons, List.take_succ_cons, List.take_zero, F_ag44, F_sz44, F_ok44]; rfl
            · exact ⟨⟨_, rfl, trivial, rfl, rfl, rfl, rfl⟩, by simp [flatDs, flatD, tradeC], ⟨_, rfl, trivial, rfl, rfl, rfl, rfl⟩, by simp [flatDs, flatD, posC], ⟨_, rfl, trivial, rfl, rfl, rfl, rfl⟩, by simp [flatDs, flatD, dueC], trivial⟩
          · intro hb
            obtain ⟨hx, hc, hwv⟩ := st_fine hmk hwb hb
            clear hb
            simp only [hwv, hc, cond_true]
            refine awp_skip ?_
            simp only [zz6, Nat.reduceEqDiff, ↓reduceIte]
            refine hK3 _ ?_; try clear hK3 K3
            refine awp_keepL [2, 3, 4, 7, 8, 9, 10, 11, 15, 16] ?_
            simp only [zzJ, Nat.reduceBEq]
            refine awp_seq fun K3 hK3 => ?_
            refine awp_plain F_mixed [some 87, some 88, some 89, some 90, some 91, some 92, some 93, some 94, some 95, some 96, some 8] rfl ?_
            simp only [zzK, Nat.reduceLT, Nat.reduceLeDiff, Nat.reduceBEq, evS_move, zz19, zz23, F_off25_0, zzH, Nat.zero_add, Nat.reduceAdd, F_off23_0, F_ok3, F_ag3, F_sz3, zz8, zzD, zzC, Option.map_some, yyE, reduceCtorEq, F_off33_1, F_zero68, F_bld68, zz7, splice, Option.getD_some, List.append_nil, zz1, zzG, zz10, F_fld68_0, F_fld68_1, F_fld68_2, F_sl53, F_sz68, zz3, newRow1, maxLen_le, Nat.reduceMul, evS_call, F_by68, zz4, zz9, Option.bind_some, evS_assign, grow, unDs_map, zz6, Nat.reduceEqDiff, ↓reduceIte]
            have hm : pre.length + 1 ≤ 1000000 := by first | omega | (simp; omega)
            first | refine ⟨le_maxLen hm, by omega, ?_⟩ | refine ⟨by simp, le_maxLen hm, by omega, ?_⟩
            clear hm
            refine hK3 _ ?_; try clear hK3 K3
            refine awp_keepL [2, 3, 4, 7, 8, 9, 10, 16] ?_
            simp only [zzJ, Nat.reduceBEq]
            refine awp_seq fun K3 hK3 => ?_
            refine awp_plain F_mixed [some 97, some 98, some 99, some 100, some 101, some 102, some 103] rfl ?_
            simp only [zzK, Nat.reduceLT, Nat.reduceLeDiff, Nat.reduceBEq, Nat.reduceSub, S_getD, zz5, and_imp, imp_and, imp_self, zz19, zz23, F_off25_1, zzH, Nat.zero_add, Nat.reduceAdd, F_ok3, F_ag3, F_sz3, zz8, zzD, zzC, Option.map_some, yyE, reduceCtorEq, zz21, gr_v, zz28, evS_move, zz13, pickK_l, pickK_r, zz6, Nat.reduceEqDiff, ↓reduceIte]
            refine hK3 _ ?_; try clear hK3 K3
            refine awp_keepL [2, 3, 4, 7, 8, 9, 10, 16, 103] ?_
            simp only [zzJ, Nat.reduceBEq]
            refine awp_condS _ (by decide) (by simp only [look_cons, Nat.reduceBEq, cond_true, cond_false]; rfl) ?_ ?_
            · intro hb
              have hs : liveP (newP r x) = true := by simpa only [liveP, newP, hc, cond_true] using hb
              clear hb
              have hnw := newPs_yes hs pre
              refine awp_plain F_mixed [some 104, some 105, some 106, some 107, some 108, some 109, some 110, some 111, some 112, some 113, some 114, none] rfl ?_
              simp only [zzK, Nat.reduceLT, Nat.reduceLeDiff, Nat.reduceBEq, zz19, zz23, F_off44_2, zzH, Nat.zero_add, Nat.reduceAdd, F_ok42, F_ag42, F_sz42, zz8, zzD, zzC, Option.map_some, yyE, reduceCtorEq, F_off25_0, F_ok23, F_ag23, F_sz23, F_off25_1, F_ok3, F_ag3, F_sz3, evS_move, F_zero25, F_bld25, zz7, splice, Option.getD_some, List.append_nil, zz1, zzG, zz10, F_fld25_0, F_fld25_1, F_fld25_2, F_sl42, F_sz25, zz3, newRow1, maxLen_le, Nat.reduceMul, evS_call, F_by25, zz4, zz9, Option.bind_some, zz18, grow, unDs_map, zz6, Nat.reduceEqDiff, ↓reduceIte]
              have hm : (newPs r pre).length + 1 ≤ 1000000 := by first | omega | (simp; omega)
              first | refine ⟨le_maxLen hm, by omega, ?_⟩ | refine ⟨by simp, le_maxLen hm, by omega, ?_⟩
              clear hm
              refine hK2 _ ?_; try clear hK2 K2
              refine awp_keepL [2, 3, 4, 7, 8, 9] ?_
              simp only [zzJ, Nat.reduceBEq]
              refine awp_plain F_mixed [some 34, some 35, some 9] rfl ?_
              simp only [zzK, Nat.reduceLT, Nat.reduceLeDiff, Nat.reduceBEq, evS_move, zz21, gr_v, zz26, evS_assign, hwx, zz6, Nat.reduceEqDiff, ↓reduceIte]
              refine ⟨post2.length, _, by simp, le_SK (fun r => bif r == 500 then 113 else bif r == 8 then 96 else r) [] rfl (l' := [(2, .ptr 2 0 0), (3, .ptr 3 0 0), (4, .ptr 4 0 0), (7, .ptr 7 0 0), (8, .ref 8 ((pre ++ [x]).map (dueOf r)).length), (9, .d (iv (pre ++ [x]).length))]) (m' := [(2, (⟨True, 40, 3, true, false, 2, [[.d (.sl 3 (r.mems.map memC)), .d (.sl 12 (r.insts.map instC)), .d (.sl 4 (r.assets.map assetC))]]⟩ : ARow)), (3, (⟨True, 44, 3, true, false, 3, [[.d (iv nx), .d (.sl 7 (ts.map tradeC)), .d (.sl 4 (ps.map posC))]]⟩ : ARow)), (4, (⟨True, 44, 3, true, false, 4, [[.d (.v (.int .i64 0)), .d (.v (.slice none 0 0)), .d (.v (.slice none 0 0))]]⟩ : ARow)), (7, (⟨True, 44, 3, true, false, 7, [[.d (iv nx), .ref 28000 ts.length, .ref 500 (newPs r (pre ++ [x])).length]]⟩ : ARow)), (28000, (⟨True, 93, 7, true, true, 28000, (ts.map tradeC).map (·.map .d)⟩ : ARow)), (500, grow 25 4 500 ((newPs r (pre ++ [x])).map posC)), (8, grow 68 3 8 (((pre ++ [x]).map (dueOf r)).map dueC))]) ?_ ?_ ?_ ?_, (pre ++ [x]), post2, by simp [hsp], firstE_ok hfe hx, rfl, rfl⟩
              · simp only [leV, look_cons, Nat.reduceBEq, cond_true, cond_false, hwx]; exact ⟨(by first | exact VLe.still rfl | exact VLe.nil_ (by decide) | exact VLe.nild_ | exact VLe.refl _ | exact VLe.ptrE (by simp) (by rfl) | exact VLe.refE (by simp) (by rfl) (by first | rfl | (simp; done) | (simp; omega)) | exact VLe.dE (by first | rfl | simp)), (by first | exact VLe.still rfl | exact VLe.nil_ (by decide) | exact VLe.nild_ | exact VLe.refl _ | exact VLe.ptrE (by simp) (by rfl) | exact VLe.refE (by simp) (by rfl) (by first | rfl | (simp; done) | (simp; omega)) | exact VLe.dE (by first | rfl | simp)), (by first | exact VLe.still rfl | exact VLe.nil_ (by decide) | exact VLe.nild_ | exact VLe.refl _ | exact VLe.ptrE (by simp) (by rfl) | exact VLe.refE (by simp) (by rfl) (by first | rfl | (simp; done) | (simp; omega)) | exact VLe.dE (by first | rfl | simp)), (by first | exact VLe.still rfl | exact VLe.nil_ (by decide) | exact VLe.nild_ | exact VLe.refl _ | exact VLe.ptrE (by simp) (by rfl) | exact VLe.refE (by simp) (by rfl) (by first | rfl | (simp; done) | (simp; omega)) | exact VLe.dE (by first | rfl | simp)), (VLe.refE (by simp) (by rfl) (by simp)), (by first | exact VLe.still rfl | exact VLe.nil_ (by decide) | exact VLe.nild_ | exact VLe.refl _ | exact VLe.ptrE (by simp) (by rfl) | exact VLe.refE (by simp) (by rfl) (by first | rfl | (simp; done) | (simp; omega)) | exact VLe.dE (by first | rfl | simp)), trivial⟩
              · exact ⟨fun _ => ⟨_, rfl, (by first | exact RowLe.still (by simp [AV.idsL, AV.ids]) | exact RowLe.same (by simp) (by simp [AV.idsL, AV.ids]))⟩, fun h => by simp at h, fun _ => ⟨_, rfl, (by first | exact RowLe.still (by simp [AV.idsL, AV.ids]) | exact RowLe.same (by simp) (by simp [AV.idsL, AV.ids]))⟩, fun h => by simp at h, fun _ => ⟨_, rfl, (by first | exact RowLe.still (by simp [AV.idsL, AV.ids]) | exact RowLe.same (by simp) (by simp [AV.idsL, AV.ids]))⟩, fun h => by simp at h, fun _ => ⟨_, rfl, RowLe.cells (VLess.one_ (VLes.cons_ (VLe.dE rfl) (VLes.cons_ (VLe.refE (by simp) rfl (by simp)) (VLes.cons_ (VLe.refE (by simp) rfl (by rw [hnw]; simp)) (VLes.nil_)))))⟩, fun h => by simp at h, fun _ => ⟨_, rfl, (by first | exact RowLe.still ids_data | exact RowLe.same (by simp) ids_data)⟩, fun h => by simp at h, fun _ => ⟨_, rfl, RowLe.data_ (by rw [hnw]; simp [posC, newP])⟩, fun h => by simp at h, fun _ => ⟨_, rfl, RowLe.data_ (by simp [dueC, dueOf])⟩, fun h => by simp at h, trivial⟩
              · simp [wfV, AV.ids, AV.idsL, lookR, grow]
              · exact ⟨by simp [AV.idsL, AV.ids, lookR], by simp [AV.idsL, AV.ids, lookR], by simp [AV.idsL, AV.ids, lookR], by simp [AV.idsL, AV.ids, lookR], wf_data _ _, wf_data _ _, wf_data _ _, trivial⟩
            · intro hb
              have hs : liveP (newP r x) = false := by simpa only [liveP, newP, hc, cond_true] using hb
              clear hb
              have hnw := newPs_no hs pre
              refine awp_skip ?_
              simp only [zz6, Nat.reduceEqDiff, ↓reduceIte]
              refine hK2 _ ?_; try clear hK2 K2
              refine awp_keepL [2, 3, 4, 7, 8, 9] ?_
              simp only [zzJ, Nat.reduceBEq]
              refine awp_plain F_mixed [some 34, some 35, some 9] rfl ?_
              simp only [zzK, Nat.reduceLT, Nat.reduceLeDiff, Nat.reduceBEq, evS_move, zz21, gr_v, zz26, evS_assign, hwx, zz6, Nat.reduceEqDiff, ↓reduceIte]
              refine ⟨post2.length, _, by simp, le_SK (fun r => bif r == 8 then 96 else r) [] rfl (l' := [(2, .ptr 2 0 0), (3, .ptr 3 0 0), (4, .ptr 4 0 0), (7, .ptr 7 0 0), (8, .ref 8 ((pre ++ [x]).map (dueOf r)).length), (9, .d (iv (pre ++ [x]).length))]) (m' := [(2, (⟨True, 40, 3, true, false, 2, [[.d (.sl 3 (r.mems.map memC)), .d (.sl 12 (r.insts.map instC)), .d (.sl 4 (r.assets.map assetC))]]⟩ : ARow)), (3, (⟨True, 44, 3, true, false, 3, [[.d (iv nx), .d (.sl 7 (ts.map tradeC)), .d (.sl 4 (ps.map posC))]]⟩ : ARow)), (4, (⟨True, 44, 3, true, false, 4, [[.d (.v (.int .i64 0)), .d (.v (.slice none 0 0)), .d (.v (.slice none 0 0))]]⟩ : ARow)), (7, (⟨True, 44, 3, true, false, 7, [[.d (iv nx), .ref 28000 ts.length, .ref 500 (newPs r (pre ++ [x])).length]]⟩ : ARow)), (28000, (⟨True, 93, 7, true, true, 28000, (ts.map tradeC).map (·.map .d)⟩ : ARow)), (500, grow 25 4 500 ((newPs r (pre ++ [x])).map posC)), (8, grow 68 3 8 (((pre ++ [x]).map (dueOf r)).map dueC))]) ?_ ?_ ?_ ?_, (pre ++ [x]), post2, by simp [hsp], firstE_ok hfe hx, rfl, rfl⟩
              · simp only [leV, look_cons, Nat.reduceBEq, cond_true, cond_false, hwx]; exact ⟨(by first | exact VLe.still rfl | exact VLe.nil_ (by decide) | exact VLe.nild_ | exact VLe.refl _ | exact VLe.ptrE (by simp) (by rfl) | exact VLe.refE (by simp) (by rfl) (by first | rfl | (simp; done) | (simp; omega)) | exact VLe.dE (by first | rfl | simp)), (by first | exact VLe.still rfl | exact VLe.nil_ (by decide) | exact VLe.nild_ | exact VLe.refl _ | exact VLe.ptrE (by simp) (by rfl) | exact VLe.refE (by simp) (by rfl) (by first | rfl | (simp; done) | (simp; omega)) | exact VLe.dE (by first | rfl | simp)), (by first | exact VLe.still rfl | exact VLe.nil_ (by decide) | exact VLe.nild_ | exact VLe.refl _ | exact VLe.ptrE (by simp) (by rfl) | exact VLe.refE (by simp) (by rfl) (by first | rfl | (simp; done) | (simp; omega)) | exact VLe.dE (by first | rfl | simp)), (by first | exact VLe.still rfl | exact VLe.nil_ (by decide) | exact VLe.nild_ | exact VLe.refl _ | exact VLe.ptrE (by simp) (by rfl) | exact VLe.refE (by simp) (by rfl) (by first | rfl | (simp; done) | (simp; omega)) | exact VLe.dE (by first | rfl | simp)), (VLe.refE (by simp) (by rfl) (by simp)), (by first | exact VLe.still rfl | exact VLe.nil_ (by decide) | exact VLe.nild_ | exact VLe.refl _ | exact VLe.ptrE (by simp) (by rfl) | exact VLe.refE (by simp) (by rfl) (by first | rfl | (simp; done) | (simp; omega)) | exact VLe.dE (by first | rfl | simp)), trivial⟩
              · exact ⟨fun _ => ⟨_, rfl, (by first | exact RowLe.still (by simp [AV.idsL, AV.ids]) | exact RowLe.same (by simp) (by simp [AV.idsL, AV.ids]))⟩, fun h => by simp at h, fun _ => ⟨_, rfl, (by first | exact RowLe.still (by simp [AV.idsL, AV.ids]) | exact RowLe.same (by simp) (by simp [AV.idsL, AV.ids]))⟩, fun h => by simp at h, fun _ => ⟨_, rfl, (by first | exact RowLe.still (by simp [AV.idsL, AV.ids]) | exact RowLe.same (by simp) (by simp [AV.idsL, AV.ids]))⟩, fun h => by simp at h, fun _ => ⟨_, rfl, RowLe.cells (VLess.one_ (VLes.cons_ (VLe.dE rfl) (VLes.cons_ (VLe.refE (by simp) rfl (by simp)) (VLes.cons_ (VLe.refE (by simp) rfl (by rw [hnw])) (VLes.nil_)))))⟩, fun h => by simp at h, fun _ => ⟨_, rfl, (by first | exact RowLe.still ids_data | exact RowLe.same (by simp) ids_data)⟩, fun h => by simp at h, fun _ => ⟨_, rfl, RowLe.data_ (by rw [hnw])⟩, fun h => by simp at h, fun _ => ⟨_, rfl, RowLe.data_ (by simp [dueC, dueOf])⟩, fun h => by simp at h, trivial⟩
              · simp [wfV, AV.ids, AV.idsL, lookR, grow]
              · exact ⟨by simp [AV.idsL, AV.ids, lookR], by simp [AV.idsL, AV.ids, lookR], by simp [AV.idsL, AV.ids, lookR], by simp [AV.idsL, AV.ids, lookR], wf_data _ _, wf_data _ _, wf_data _ _, trivial⟩
    · intro hb
      obtain rfl : post = [] := by
        cases post with
        | nil => rfl
        | cons x t => have := of_decide_eq_false hb; simp at hspl; omega
      clear hb
      simp only [List.append_nil] at hsp
      subst hsp
      refine awp_exit ?_
      simp only [zz6, Nat.reduceEqDiff, ↓reduceIte]
      refine hK0 _ ?_; try clear hK0 K0
      refine awp_keepL [4, 7, 8] ?_
      simp only [zzJ, Nat.reduceBEq]
      refine awp_seq fun K0 hK0 => ?_
      refine awp_plain F_mixed [some 115, some 116, none, some 5, some 6] rfl ?_
      simp only [zzK, Nat.reduceLT, Nat.reduceLeDiff, Nat.reduceBEq, F_ok44, F_ag44, F_sz44, zz8, zz23, zzD, Nat.reduceAdd, Nat.zero_add, zzH, zzC, Option.map_some, yyE, reduceCtorEq, evS_move, zz18, splice, List.append_nil, zz1, zzG, evS_assign, zz6, Nat.reduceEqDiff, ↓reduceIte]
      refine hK0 _ ?_; try clear hK0 K0
      refine awp_keepL [4, 5, 6] ?_
      simp only [zzJ, Nat.reduceBEq]
      refine awp_le (le_SK id [] rfl (l' := [(4, .ptr 4 0 0), (5, .ref 8 (ps.map (dueOf r)).length), (6, .d (iv 0))]) (m' := [(4, (⟨True, 44, 3, true, false, 4, [[.d (iv nx), .ref 28000 ts.length, .ref 500 (newPs r ps).length]]⟩ : ARow)), (28000, (⟨True, 93, 7, true, true, 28000, (ts.map tradeC).map (·.map .d)⟩ : ARow)), (500, (⟨True, 25, 4, true, true, 500, ((newPs r ps).map posC).map (·.map .d)⟩ : ARow)), (8, (⟨True, 68, 3, true, true, 8, ((ps.map (dueOf r)).map dueC).map (·.map .d)⟩ : ARow))]) ?_ ?_ ?_ ?_) ?_
      · simp only [leV, look_cons, Nat.reduceBEq, cond_true, cond_false, len_map]; exact ⟨VLe.refl _, VLe.refl _, VLe.refl _, trivial⟩
      · exact ⟨fun _ => ⟨_, rfl, ⟨id, rfl, rfl, fun _ => rfl, id, .inl, by first | exact VLess.refl _ | (simp only [len_map]; exact VLess.refl _)⟩⟩, fun h => by simp at h, fun _ => (by refine ⟨_, rfl, ?_⟩; first | exact RowLe.uq2 rfl (by simp) ids_data | exact RowLe.uq_ (by rfl) (by simp) ids_data), fun h => by simp at h, fun _ => (by refine ⟨_, rfl, ?_⟩; first | exact RowLe.uq2 rfl (by simp) ids_data | exact RowLe.uq_ (by rfl) (by simp) ids_data), fun h => by simp at h, fun _ => (by refine ⟨_, rfl, ?_⟩; first | exact RowLe.uq2 rfl (by simp) ids_data | exact RowLe.uq_ (by rfl) (by simp) ids_data), fun h => by simp at h, trivial⟩
      · simp [wfV, AV.ids, lookR]
      · simp [wfR, AV.idsL, AV.ids, lookR, tradeC, posC, dueC]
      refine awp_ret ?_
      simp only [zz6, Nat.reduceEqDiff, ↓reduceIte]
      have e2 : runE r ⟨nx, ts, ps⟩ = 0 := by rw [e]; exact hfe
      have e3 : (runE r ⟨nx, ts, ps⟩ == 0) = true := by simp [e2]
      simp only [runT, runP, runD, runN, e3, cond_true]
      rw [e2]
      refine doneN [28000, 500, 8] (by simp [resCs, resC, S, List.getD, look_cons, lookR, F_ag44, F_sz44, F_ok44]) ?_ (by simp [flatA, flatAs, flatD, ]) (by simp [AV.ids, AV.idsL, ]) (by decide) ?_
      · simp only [List.map_cons, List.map_nil, resA, S_getD, S_mem, lookR_cons, lookR_nil, Nat.reduceLT, Nat.reduceLeDiff, look_cons, Nat.reduceBEq, cond_true, cond_false, resAll, List.getD_cons_zero, List.getD_cons_succ, List.drop_zero, List.drop_succ_cons, List.take_succ_cons, List.take_zero, F_ag44, F_sz44, F_ok44]; rfl
      · exact ⟨⟨_, rfl, trivial, rfl, rfl, rfl, rfl⟩, by simp [flatDs, flatD, tradeC], ⟨_, rfl, trivial, rfl, rfl, rfl, rfl⟩, by simp [flatDs, flatD, posC], ⟨_, rfl, trivial, rfl, rfl, rfl, rfl⟩, by simp [flatDs, flatD, dueC], trivial⟩
end Go.Proofs.Ytdgkiemehmmobaa
