import Derived.Test.YtdgkiemehmmobaaSpecP
import Derived.Test.YtdgkiemehmmobaaWpF
namespace Go.Proofs.Ytdgkiemehmmobaa
open Go.RowKit
set_option linter.unusedVariables false
set_option linter.unusedSimpArgs false
theorem F_ag44 : aggT Try.prog 44 = true := by kernel_rfl
theorem F_sz44 : szT Try.prog 44 = 3 := by kernel_rfl
theorem F_ok44 : tyOk Try.prog 44 = true := by kernel_rfl
theorem F_zero44 : zeroT Try.prog 44 = some [(.int .i64 0), (.slice none 0 0), (.slice none 0 0)] := by kernel_rfl
theorem F_go37 : goFn Try.prog 37 := ⟨_, Try.func37, rfl, rfl⟩
theorem F_go38 : goFn Try.prog 38 := ⟨_, Try.func38, rfl, rfl⟩
theorem F_bld44 : bldT Try.prog 44 = true := by kernel_rfl
theorem F_go39 : goFn Try.prog 39 := ⟨_, Try.func39, rfl, rfl⟩
theorem F_zero68 : zeroT Try.prog 68 = some [(.int .i64 0), (.int .i64 0), (.int .i64 0)] := by kernel_rfl
theorem F_bld68 : bldT Try.prog 68 = true := by kernel_rfl
theorem F_fld68_0 : fldT Try.prog 68 0 = some (0, 1) := by kernel_rfl
theorem F_fld68_1 : fldT Try.prog 68 1 = some (1, 1) := by kernel_rfl
theorem F_fld68_2 : fldT Try.prog 68 2 = some (2, 1) := by kernel_rfl
theorem F_sl53 : sliceT Try.prog 53 = some 68 := by kernel_rfl
theorem F_sz68 : szT Try.prog 68 = 3 := by kernel_rfl
theorem F_by68 : byT Try.prog 68 = 24 := by kernel_rfl
theorem F_by25 : byT Try.prog 25 = 32 := by kernel_rfl
theorem F_by93 : byT Try.prog 93 = 56 := by kernel_rfl
theorem F_fld44_0 : fldT Try.prog 44 0 = some (0, 1) := by kernel_rfl
theorem F_fld44_1 : fldT Try.prog 44 1 = some (1, 1) := by kernel_rfl
theorem F_fld44_2 : fldT Try.prog 44 2 = some (2, 1) := by kernel_rfl
set_option maxRecDepth 100000 in
set_option maxHeartbeats 4000000 in
theorem run_ (r : RollV) (nx : Int) (ts : List TradeV) (ps : List PosV) (hr : r.Small) (ht : ts.length ≤ 500000) (hp : ps.length ≤ 500000) : ACalls Try.prog 18 [.agg (rollC r), .agg (bookC ⟨nx, ts, ps⟩)] [⟨93, 7, (runT r ⟨nx, ts, ps⟩).map tradeC⟩, ⟨25, 4, (runP r ⟨nx, ts, ps⟩).map posC⟩, ⟨68, 3, (runD r ⟨nx, ts, ps⟩).map dueC⟩] (.tp [.ag [.d (iv (runN r ⟨nx, ts, ps⟩)), .ref 0 (runT r ⟨nx, ts, ps⟩).length, .ref 1 (runP r ⟨nx, ts, ps⟩).length], .ref 2 (runD r ⟨nx, ts, ps⟩).length, .d (iv (runE r ⟨nx, ts, ps⟩))]) := by
  refine acalls_S (rs := [.cell 4 44, .tmp 5, .tmp 6]) Try.func18 rfl rfl 104 [(0, .d (.agg (rollC r))), (1, .d (.agg (bookC ⟨nx, ts, ps⟩)))] rfl (by simp) rfl ?_
  refine awp_seq fun K0 hK0 => ?_
  refine awp_plain F_mixed [some 2, some 3, some 4, some 5, some 6] rfl ?_
  simp only [zzK, Nat.reduceLT, Nat.reduceLeDiff, Nat.reduceBEq, zz35, newRow1, zz1, zzG, zzD, zzC, Option.map_some, yyE, reduceCtorEq, Nat.reduceAdd, Nat.zero_add, zzH, zz32, F_zero44, zz10, evS_assign, rollC, memsD, instsD, assetsD, bookC, tradesB, poss, zz6, Nat.reduceEqDiff, ↓reduceIte]
  refine hK0 _ ?_; try clear hK0 K0
  refine awp_keepL [2, 3, 4] ?_
  simp only [zzJ, Nat.reduceBEq]
  refine awp_seq fun K0 hK0 => ?_
  refine awp_plain F_mixed [some 17, some 18, some 7] rfl ?_
  simp only [zzK, Nat.reduceLT, Nat.reduceLeDiff, Nat.reduceBEq, F_ok40, F_ag40, F_sz40, zz8, zz23, zzD, Nat.reduceAdd, Nat.zero_add, zzH, zzC, Option.map_some, yyE, reduceCtorEq, evS_call, evC_value, evS_assign, memsD, instsD, assetsD, rollC, D.agg.injEq, memA, memC, instA, instC, zzG, zz6, Nat.reduceEqDiff, ↓reduceIte]
  refine call_go F_go37 (fun hG => check_ r hr) (by simp [AV.ids, AV.idsL, instA, instC]) (by simp) ?_
  simp only [zzK, Nat.reduceLT, Nat.reduceLeDiff, Nat.reduceBEq, F_ok40, F_ag40, F_sz40, zz8, zz23, zzD, Nat.reduceAdd, Nat.zero_add, zzH, zzC, Option.map_some, yyE, reduceCtorEq, evS_call, evC_value, evS_assign, memsD, instsD, assetsD, rollC, D.agg.injEq, memA, memC, instA, instC, zzG, zz6, Nat.reduceEqDiff, ↓reduceIte, atsL, oksG, freeN, AV.ren, AV.renL, addRows, ORow.row, Nat.reduceMul, Nat.reduceAdd, zz9, Option.bind_some, Option.map_some, S_mem, yyF, List.length_cons, zz2]
  refine hK0 _ ?_; try clear hK0 K0
  refine awp_keepL [2, 3, 4, 7] ?_
  simp only [zzJ, Nat.reduceBEq]
  refine awp_seq fun K0 hK0 => ?_
  refine awp_seq fun K1 hK1 => ?_
  refine awp_plain F_mixed [some 19, some 20] rfl ?_
  simp only [zzK, Nat.reduceLT, Nat.reduceLeDiff, Nat.reduceBEq, evS_move, zz21, gr_v, zz34, zz6, Nat.reduceEqDiff, ↓reduceIte]
  refine hK1 _ ?_; try clear hK1 K1
  refine awp_keepL [2, 3, 4, 7, 20] ?_
  simp only [zzJ, Nat.reduceBEq]
  refine awp_condS _ (by decide) (by simp only [look_cons, Nat.reduceBEq, cond_true, cond_false]; rfl) ?_ ?_
  · intro hb
    have h0 : rollE r = 0 := by simpa using hb
    clear hb
    refine awp_plain F_mixed [some 21, some 22, some 7] rfl ?_
    simp only [zzK, Nat.reduceLT, Nat.reduceLeDiff, Nat.reduceBEq, F_ok44, F_ag44, F_sz44, zz8, zz23, zzD, Nat.reduceAdd, Nat.zero_add, zzH, zzC, Option.map_some, yyE, reduceCtorEq, evS_call, evC_value, evS_assign, bookC, tradesB, poss, D.agg.injEq, zz6, Nat.reduceEqDiff, ↓reduceIte]
    refine call_go F_go38 (fun hG => bCheck_ nx ts ps ht hp) (by simp [AV.ids, AV.idsL]) (by simp) ?_
    simp only [zzK, Nat.reduceLT, Nat.reduceLeDiff, Nat.reduceBEq, F_ok44, F_ag44, F_sz44, zz8, zz23, zzD, Nat.reduceAdd, Nat.zero_add, zzH, zzC, Option.map_some, yyE, reduceCtorEq, evS_call, evC_value, evS_assign, bookC, tradesB, poss, D.agg.injEq, zz6, Nat.reduceEqDiff, ↓reduceIte, atsL, oksG, freeN, AV.ren, AV.renL, addRows, ORow.row, Nat.reduceMul, Nat.reduceAdd, zz9, Option.bind_some, Option.map_some, S_mem, yyF, List.length_cons, zz2]
    refine hK0 _ ?_; try clear hK0 K0
    refine awp_keepL [2, 3, 4, 7] ?_
    simp only [zzJ, Nat.reduceBEq]
    refine awp_seq fun K0 hK0 => ?_
    refine awp_seq fun K1 hK1 => ?_
    refine awp_plain F_mixed [some 23, some 24] rfl ?_
    simp only [zzK, Nat.reduceLT, Nat.reduceLeDiff, Nat.reduceBEq, evS_move, zz21, gr_v, zz28, zz6, Nat.reduceEqDiff, ↓reduceIte]
    refine hK1 _ ?_; try clear hK1 K1
    refine awp_keepL [2, 3, 4, 7, 24] ?_
    simp only [zzJ, Nat.reduceBEq]
    refine awp_condS _ (by decide) (by simp only [look_cons, Nat.reduceBEq, cond_true, cond_false]; rfl) ?_ ?_
    · intro hb
      have h1 : bookE ⟨nx, ts, ps⟩ ≠ 0 := by simpa using hb
      clear hb
      have e := runE_book (b := ⟨nx, ts, ps⟩) h0 h1
      refine awp_seq fun K2 hK2 => ?_
      refine awp_plain F_mixed [some 25, some 26, none, some 5, some 6] rfl ?_
      simp only [zzK, Nat.reduceLT, Nat.reduceLeDiff, Nat.reduceBEq, F_zero44, F_bld44, zz7, splice, Option.getD_some, List.append_nil, zz1, zzG, zzD, zzC, Option.map_some, yyE, reduceCtorEq, Nat.reduceAdd, Nat.zero_add, zzH, zz10, evS_move, zz18, F_ok44, F_sz44, evS_assign, zz6, Nat.reduceEqDiff, ↓reduceIte]
      refine hK2 _ ?_; try clear hK2 K2
      refine awp_keepL [4, 5, 6] ?_
      simp only [zzJ, Nat.reduceBEq]
      refine awp_le (le_SK id [0, 1, 2] rfl (l' := [(4, .ptr 4 0 0), (5, .ref 2 0), (6, .d (iv (bookE ⟨nx, ts, ps⟩)))]) (m' := [(4, (⟨True, 44, 3, true, false, 4, [[.d (.v (.int .i64 0)), .ref 0 0, .ref 1 0]]⟩ : ARow)), (0, (⟨True, 93, 7, true, true, 0, []⟩ : ARow)), (1, (⟨True, 25, 4, true, true, 1, []⟩ : ARow)), (2, (⟨True, 68, 3, true, true, 2, []⟩ : ARow))]) ?_ ?_ ?_ ?_) ?_
      · simp only [leV, look_cons, Nat.reduceBEq, cond_true, cond_false]; exact ⟨VLe.ptr_ (f := id) (by decide), VLe.nil_ (by decide), VLe.still rfl, trivial⟩
      · exact ⟨fun _ => ⟨_, rfl, RowLe.cells (VLess.one_ (VLes.cons_ (VLe.still rfl) (VLes.cons_ (VLe.nil_ (by decide)) (VLes.cons_ (VLe.nil_ (by decide)) VLes.nil_))))⟩, fun h => by simp at h, fun h => by simp at h, fun _ => rfl, fun h => by simp at h, fun _ => rfl, fun h => by simp at h, fun _ => rfl, trivial⟩
      · simp [wfV, AV.ids, lookR]
      · simp [wfR, AV.idsL, AV.ids, lookR]
      refine awp_ret ?_
      simp only [zz6, Nat.reduceEqDiff, ↓reduceIte]
      have n0 : runE r ⟨nx, ts, ps⟩ ≠ 0 := by rw [e]; exact h1
      have e3 : (runE r ⟨nx, ts, ps⟩ == 0) = false := by simpa using n0
      simp only [runT, runP, runD, runN, e3, cond_false, List.map_nil]
      rw [e]
      refine doneN [0, 1, 2] (by simp [resCs, resC, S, List.getD, look_cons, lookR, F_ag44, F_sz44, F_ok44]) ?_ (by simp [flatA, flatAs, flatD, ]) (by simp [AV.ids, AV.idsL, ]) (by decide) ?_
      · simp only [List.map_cons, List.map_nil, resA, S_getD, S_mem, lookR_cons, lookR_nil, Nat.reduceLT, Nat.reduceLeDiff, look_cons, Nat.reduceBEq, cond_true, cond_false, resAll, List.getD_cons_zero, List.getD_cons_succ, List.drop_zero, List.drop_succ_cons, List.take_succ_cons, List.take_zero, F_ag44, F_sz44, F_ok44]; rfl
      · exact ⟨⟨_, rfl, trivial, rfl, rfl, rfl, rfl⟩, by simp [flatDs, flatD, tradeC], ⟨_, rfl, trivial, rfl, rfl, rfl, rfl⟩, by simp [flatDs, flatD, posC], ⟨_, rfl, trivial, rfl, rfl, rfl, rfl⟩, by simp [flatDs, flatD, dueC], trivial⟩
    · intro hb
      have h1 : bookE ⟨nx, ts, ps⟩ = 0 := by simpa using hb
      clear hb
      have e := runE_poss (b := ⟨nx, ts, ps⟩) h0 h1
      refine awp_skip ?_
      simp only [zz6, Nat.reduceEqDiff, ↓reduceIte]
      refine hK0 _ ?_; try clear hK0 K0
      refine awp_keepL [2, 3, 4] ?_
      simp only [zzJ, Nat.reduceBEq]
      refine awp_seq fun K0 hK0 => ?_
      refine awp_plain F_mixed [some 8] rfl ?_
      simp only [zzK, Nat.reduceLT, Nat.reduceLeDiff, Nat.reduceBEq, evS_assign, zz6, Nat.reduceEqDiff, ↓reduceIte]
      refine hK0 _ ?_; try clear hK0 K0
      refine awp_keepL [2, 3, 4, 8] ?_
      simp only [zzJ, Nat.reduceBEq]
      refine awp_seq fun K0 hK0 => ?_
      refine awp_plain F_mixed [some 9] rfl ?_
      simp only [zzK, Nat.reduceLT, Nat.reduceLeDiff, Nat.reduceBEq, evS_assign, zz6, Nat.reduceEqDiff, ↓reduceIte]
      refine hK0 _ ?_; try clear hK0 K0
      refine awp_keepL [2, 3, 4, 8, 9] ?_
      simp only [zzJ, Nat.reduceBEq]
      refine awp_seq fun K0 hK0 => ?_
      refine awp_seq fun K1 hK1 => ?_
      refine awp_plain F_mixed [some 27, some 28, some 29, some 30] rfl ?_
      simp only [zzK, Nat.reduceLT, Nat.reduceLeDiff, Nat.reduceBEq, zz19, zz23, F_off44_2, zzH, Nat.zero_add, Nat.reduceAdd, F_ok42, F_ag42, F_sz42, zz8, zzD, zzC, Option.map_some, yyE, reduceCtorEq, evS_call, zz12, F_sl42, Option.isSome_some, evS_move, len_map, zz6, Nat.reduceEqDiff, ↓reduceIte]
      refine hK1 _ ?_; try clear hK1 K1
      refine awp_keepL [2, 3, 4, 8, 9, 28, 29, 30] ?_
      simp only [zzJ, Nat.reduceBEq]
      refine awp_block ?_
      refine awp_loop (fun m s => ∃ pre post : List PosV, ps = pre ++ post ∧ firstE (stE r) pre = 0 ∧ m = post.length ∧ s = S 104 [(2, .ptr 2 0 0), (3, .ptr 3 0 0), (4, .ptr 4 0 0), (8, .ref 8 (pre.map (dueOf r)).length), (9, .ref 9 (newPs r pre).length), (28, .d (poss ps)), (29, .d (iv ps.length)), (30, .d (iv pre.length))] [(2, (⟨True, 40, 3, true, false, 2, [[.d (.sl 3 (r.mems.map memC)), .d (.sl 12 (r.insts.map instC)), .d (.sl 4 (r.assets.map assetC))]]⟩ : ARow)), (3, (⟨True, 44, 3, true, false, 3, [[.d (iv nx), .d (.sl 7 (ts.map tradeC)), .d (.sl 4 (ps.map posC))]]⟩ : ARow)), (4, (⟨True, 44, 3, true, false, 4, [[.d (.v (.int .i64 0)), .d (.v (.slice none 0 0)), .d (.v (.slice none 0 0))]]⟩ : ARow)), (8, grow 68 3 8 ((pre.map (dueOf r)).map dueC)), (9, grow 25 4 9 ((newPs r pre).map posC))]) ps.length _ (le_SK id [8, 9] rfl (l' := [(2, .ptr 2 0 0), (3, .ptr 3 0 0), (4, .ptr 4 0 0), (8, .ref 8 (([] : List PosV).map (dueOf r)).length), (9, .ref 9 (newPs r ([] : List PosV)).length), (28, .d (poss ps)), (29, .d (iv ps.length)), (30, .d (iv ([] : List PosV).length))]) (m' := [(2, (⟨True, 40, 3, true, false, 2, [[.d (.sl 3 (r.mems.map memC)), .d (.sl 12 (r.insts.map instC)), .d (.sl 4 (r.assets.map assetC))]]⟩ : ARow)), (3, (⟨True, 44, 3, true, false, 3, [[.d (iv nx), .d (.sl 7 (ts.map tradeC)), .d (.sl 4 (ps.map posC))]]⟩ : ARow)), (4, (⟨True, 44, 3, true, false, 4, [[.d (.v (.int .i64 0)), .d (.v (.slice none 0 0)), .d (.v (.slice none 0 0))]]⟩ : ARow)), (8, grow 68 3 8 ((([] : List PosV).map (dueOf r)).map dueC)), (9, grow 25 4 9 ((newPs r ([] : List PosV)).map posC))]) ?_ ?_ ?_ ?_) ⟨[], ps, rfl, rfl, rfl, rfl⟩ ?_
      · simp only [leV, look_cons, Nat.reduceBEq, cond_true, cond_false, poss, len_map, List.nil_append]; exact ⟨VLe.ptr_ (f := id) (r := 2) (by simp), VLe.ptr_ (f := id) (r := 3) (by simp), VLe.ptr_ (f := id) (r := 4) (by simp), VLe.nil_ (by decide), VLe.nil_ (by decide), VLe.still rfl, VLe.still rfl, VLe.still rfl, trivial⟩
      · exact ⟨fun _ => ⟨_, rfl, RowLe.still (by simp [AV.idsL, AV.ids])⟩, fun h => by simp at h, fun _ => ⟨_, rfl, RowLe.still (by simp [AV.idsL, AV.ids])⟩, fun h => by simp at h, fun _ => ⟨_, rfl, RowLe.still (by simp [AV.idsL, AV.ids])⟩, fun h => by simp at h, fun h => by simp at h, fun _ => rfl, fun h => by simp at h, fun _ => rfl, trivial⟩
      · simp [wfV, AV.ids, lookR]
      · simp [wfR, grow, newPs, AV.idsL, AV.ids]
      rintro m s ⟨pre, post, rfl, hfe, rfl, rfl⟩
      have hnl := newPs_len r pre
      refine awp_seq fun K2 hK2 => ?_
      refine awp_plain F_mixed [some 31] rfl ?_
      simp only [zzK, Nat.reduceLT, Nat.reduceLeDiff, Nat.reduceBEq, zz21, gr_v, zz22, zz6, Nat.reduceEqDiff, ↓reduceIte]
      refine hK2 _ ?_; try clear hK2 K2
      refine awp_keepL [2, 3, 4, 8, 9, 28, 29, 30, 31] ?_
      simp only [zzJ, Nat.reduceBEq]
      refine awp_seq fun K2 hK2 => ?_
      refine awp_condS _ (by decide) (by simp only [look_cons, Nat.reduceBEq, cond_true, cond_false]; rfl) ?_ ?_
      · intro hb
        obtain ⟨x, post, rfl⟩ := more_of hb; clear hb
        refine awp_skip ?_
        simp only [zz6, Nat.reduceEqDiff, ↓reduceIte]
        refine hK2 _ ?_; try clear hK2 K2
        refine awp_keepL [2, 3, 4, 8, 9, 28, 29, 30] ?_
        simp only [zzJ, Nat.reduceBEq]
        refine awp_seq fun K2 hK2 => ?_
        refine awp_block ?_
        refine awp_seq fun K3 hK3 => ?_
        refine awp_plain F_mixed [some 32, some 33, some 11, none] rfl ?_
        simp only [zzK, Nat.reduceLT, Nat.reduceLeDiff, Nat.reduceBEq, evS_indexAddr, zz23, zz24, F_sl42, F_sz25, Option.map_some, zzC, yyE, reduceCtorEq, F_ok25, F_ag25, zz8, zzD, Nat.reduceAdd, Nat.zero_add, zzH, zz32, newRow1, F_zero25, zz10, zz18, splice, List.append_nil, zz1, zzG, poss, posC, getD_mid, len_map, lt_mid, ge_mid, zz6, Nat.reduceEqDiff, ↓reduceIte]
        refine hK3 _ ?_; try clear hK3 K3
        refine awp_keepL [2, 3, 4, 8, 9, 11, 28, 29, 30] ?_
        simp only [zzJ, Nat.reduceBEq]
        refine awp_seq fun K3 hK3 => ?_
        refine awp_plain F_mixed [some 35, some 36, some 37, some 34, some 38, some 39, some 40, some 12, none, some 13, some 14] rfl ?_
        simp only [zzK, Nat.reduceLT, Nat.reduceLeDiff, Nat.reduceBEq, F_ok40, F_ag40, F_sz40, zz8, zz23, zzD, Nat.reduceAdd, Nat.zero_add, zzH, zzC, Option.map_some, yyE, reduceCtorEq, F_ok25, F_ag25, F_sz25, evS_call, evC_value, evS_move, zz14, zz32, newRow1, F_zero33, zz10, zz18, F_ok33, F_sz33, splice, List.append_nil, zz1, zzG, evS_assign, memsD, instsD, assetsD, rollC, D.agg.injEq, memA, memC, instA, instC, List.map_cons, posC, D.agg.injEq, zz6, Nat.reduceEqDiff, ↓reduceIte]
        refine call_go F_go39 (fun hG => price_ r x hr) (by simp [AV.ids, AV.idsL, instA, instC]) (by simp) ?_
        simp only [zzK, Nat.reduceLT, Nat.reduceLeDiff, Nat.reduceBEq, F_ok40, F_ag40, F_sz40, zz8, zz23, zzD, Nat.reduceAdd, Nat.zero_add, zzH, zzC, Option.map_some, yyE, reduceCtorEq, F_ok25, F_ag25, F_sz25, evS_call, evC_value, evS_move, zz14, zz32, newRow1, F_zero33, zz10, zz18, F_ok33, F_sz33, splice, List.append_nil, zz1, zzG, evS_assign, memsD, instsD, assetsD, rollC, D.agg.injEq, memA, memC, instA, instC, List.map_cons, posC, D.agg.injEq, zz6, Nat.reduceEqDiff, ↓reduceIte, atsL, oksG, freeN, AV.ren, AV.renL, addRows, ORow.row, Nat.reduceMul, Nat.reduceAdd, zz9, Option.bind_some, Option.map_some, S_mem, yyF, List.length_cons, zz2]
        refine hK3 _ ?_; try clear hK3 K3
        refine awp_keepL [2, 3, 4, 8, 9, 11, 12, 13, 14, 28, 29, 30] ?_
        simp only [zzJ, Nat.reduceBEq]
        refine awp_seq fun K3 hK3 => ?_
        refine awp_seq fun K4 hK4 => ?_
        refine awp_plain F_mixed [some 41, some 42] rfl ?_
        simp only [zzK, Nat.reduceLT, Nat.reduceLeDiff, Nat.reduceBEq, evS_move, zz21, gr_v, zz28, zz6, Nat.reduceEqDiff, ↓reduceIte]
        refine hK4 _ ?_; try clear hK4 K4
        refine awp_keepL [2, 3, 4, 8, 9, 11, 12, 13, 14, 28, 29, 30, 42] ?_
        simp only [zzJ, Nat.reduceBEq]
        refine awp_condS _ (by decide) (by simp only [look_cons, Nat.reduceBEq, cond_true, cond_false]; rfl) ?_ ?_
        · intro hb
          have hm := hb
          clear hb
          have hx := stE_mk hm
          have e2 : runE r ⟨nx, ts, pre ++ x :: post⟩ = mkE r x := by rw [e]; show firstE (stE r) (pre ++ x :: post) = _; rw [firstE_hit hfe (by rw [hx]; exact hm), hx]
          refine awp_seq fun K5 hK5 => ?_
          refine awp_plain F_mixed [some 43, some 44, none, some 5, some 6] rfl ?_
          simp only [zzK, Nat.reduceLT, Nat.reduceLeDiff, Nat.reduceBEq, F_zero44, F_bld44, zz7, splice, Option.getD_some, List.append_nil, zz1, zzG, zzD, zzC, Option.map_some, yyE, reduceCtorEq, Nat.reduceAdd, Nat.zero_add, zzH, zz10, evS_move, zz18, F_ok44, F_sz44, evS_assign, zz6, Nat.reduceEqDiff, ↓reduceIte]
          refine hK5 _ ?_; try clear hK5 K5
          refine awp_keepL [4, 5, 6] ?_
          simp only [zzJ, Nat.reduceBEq]
          refine awp_le (le_SK id [0, 1, 2] rfl (l' := [(4, .ptr 4 0 0), (5, .ref 2 0), (6, .d (iv (mkE r x)))]) (m' := [(4, (⟨True, 44, 3, true, false, 4, [[.d (.v (.int .i64 0)), .ref 0 0, .ref 1 0]]⟩ : ARow)), (0, (⟨True, 93, 7, true, true, 0, []⟩ : ARow)), (1, (⟨True, 25, 4, true, true, 1, []⟩ : ARow)), (2, (⟨True, 68, 3, true, true, 2, []⟩ : ARow))]) ?_ ?_ ?_ ?_) ?_
          · simp only [leV, look_cons, Nat.reduceBEq, cond_true, cond_false]; exact ⟨VLe.ptr_ (f := id) (by decide), VLe.nil_ (by decide), VLe.still rfl, trivial⟩
          · exact ⟨fun _ => ⟨_, rfl, RowLe.cells (VLess.one_ (VLes.cons_ (VLe.still rfl) (VLes.cons_ (VLe.nil_ (by decide)) (VLes.cons_ (VLe.nil_ (by decide)) VLes.nil_))))⟩, fun h => by simp at h, fun h => by simp at h, fun _ => rfl, fun h => by simp at h, fun _ => rfl, fun h => by simp at h, fun _ => rfl, trivial⟩
          · simp [wfV, AV.ids, lookR]
          · simp [wfR, AV.idsL, AV.ids, lookR]
          refine awp_ret ?_
          simp only [zz6, Nat.reduceEqDiff, ↓reduceIte]
          have n0 : runE r ⟨nx, ts, (pre ++ x :: post)⟩ ≠ 0 := by rw [e2]; simpa using hm
          have e3 : (runE r ⟨nx, ts, (pre ++ x :: post)⟩ == 0) = false := by simpa using n0
          simp only [runT, runP, runD, runN, e3, cond_false, List.map_nil]
          rw [e2]
          refine doneN [0, 1, 2] (by simp [resCs, resC, S, List.getD, look_cons, lookR, F_ag44, F_sz44, F_ok44]) ?_ (by simp [flatA, flatAs, flatD, ]) (by simp [AV.ids, AV.idsL, ]) (by decide) ?_
          · simp only [List.map_cons, List.map_nil, resA, S_getD, S_mem, lookR_cons, lookR_nil, Nat.reduceLT, Nat.reduceLeDiff, look_cons, Nat.reduceBEq, cond_true, cond_false, resAll, List.getD_cons_zero, List.getD_cons_succ, List.drop_zero, List.drop_succ_cons, List.take_succ_cons, List.take_zero, F_ag44, F_sz44, F_ok44]; rfl
          · exact ⟨⟨_, rfl, trivial, rfl, rfl, rfl, rfl⟩, by simp [flatDs, flatD, tradeC], ⟨_, rfl, trivial, rfl, rfl, rfl, rfl⟩, by simp [flatDs, flatD, posC], ⟨_, rfl, trivial, rfl, rfl, rfl, rfl⟩, by simp [flatDs, flatD, dueC], trivial⟩
        · intro hb
          have hm := hb
          clear hb
          refine awp_skip ?_
          simp only [zz6, Nat.reduceEqDiff, ↓reduceIte]
          refine hK3 _ ?_; try clear hK3 K3
          refine awp_keepL [2, 3, 4, 8, 9, 11, 12, 13, 28, 29, 30] ?_
          simp only [zzJ, Nat.reduceBEq]
          refine awp_seq fun K3 hK3 => ?_
          refine awp_plain F_mixed [some 46, some 47, some 48, some 49, some 50, some 45, some 51, some 52, some 15, some 14] rfl ?_
          simp only [zzK, Nat.reduceLT, Nat.reduceLeDiff, Nat.reduceBEq, F_ok25, F_ag25, F_sz25, zz8, zz23, zzD, Nat.reduceAdd, Nat.zero_add, zzH, zzC, Option.map_some, yyE, reduceCtorEq, zz19, F_off33_2, F_ok3, F_ag3, F_sz3, evS_move, evS_call, evC_value, zz14, evS_assign, posC, instA, instC, D.agg.injEq, zz6, Nat.reduceEqDiff, ↓reduceIte]
          refine call_go F_go8 (fun hG => Worth_ x (iOf r x).mult (mkV r x)) (by simp [AV.ids, AV.idsL, instA, instC]) (by simp) ?_
          simp only [zzK, Nat.reduceLT, Nat.reduceLeDiff, Nat.reduceBEq, F_ok25, F_ag25, F_sz25, zz8, zz23, zzD, Nat.reduceAdd, Nat.zero_add, zzH, zzC, Option.map_some, yyE, reduceCtorEq, zz19, F_off33_2, F_ok3, F_ag3, F_sz3, evS_move, evS_call, evC_value, zz14, evS_assign, posC, instA, instC, D.agg.injEq, zz6, Nat.reduceEqDiff, ↓reduceIte, atsL, oksG, freeN, AV.ren, AV.renL, addRows, ORow.row, Nat.reduceMul, Nat.reduceAdd, zz9, Option.bind_some, Option.map_some, S_mem, yyF, List.length_cons, zz2]
          refine hK3 _ ?_; try clear hK3 K3
          refine awp_keepL [2, 3, 4, 8, 9, 11, 12, 13, 14, 15, 28, 29, 30] ?_
          simp only [zzJ, Nat.reduceBEq]
          refine awp_seq fun K3 hK3 => ?_
          refine awp_seq fun K4 hK4 => ?_
          refine awp_plain F_mixed [some 53, some 54] rfl ?_
          simp only [zzK, Nat.reduceLT, Nat.reduceLeDiff, Nat.reduceBEq, evS_move, zz21, gr_v, zz28, zz6, Nat.reduceEqDiff, ↓reduceIte]
          refine hK4 _ ?_; try clear hK4 K4
          refine awp_keepL [2, 3, 4, 8, 9, 11, 12, 13, 14, 15, 28, 29, 30, 54] ?_
          simp only [zzJ, Nat.reduceBEq]
          refine awp_condS _ (by decide) (by simp only [look_cons, Nat.reduceBEq, cond_true, cond_false]; rfl) ?_ ?_
          · intro hb
            have hw : (stW r x != 0) = true := hb
            clear hb
            have hx := stE_w hm hw
            have e2 : runE r ⟨nx, ts, pre ++ x :: post⟩ = stW r x := by rw [e]; show firstE (stE r) (pre ++ x :: post) = _; rw [firstE_hit hfe (by rw [hx]; exact hw), hx]
            refine awp_seq fun K5 hK5 => ?_
            refine awp_plain F_mixed [some 55, some 56, none, some 5, some 6] rfl ?_
            simp only [zzK, Nat.reduceLT, Nat.reduceLeDiff, Nat.reduceBEq, F_zero44, F_bld44, zz7, splice, Option.getD_some, List.append_nil, zz1, zzG, zzD, zzC, Option.map_some, yyE, reduceCtorEq, Nat.reduceAdd, Nat.zero_add, zzH, zz10, evS_move, zz18, F_ok44, F_sz44, evS_assign, zz6, Nat.reduceEqDiff, ↓reduceIte]
            refine hK5 _ ?_; try clear hK5 K5
            refine awp_keepL [4, 5, 6] ?_
            simp only [zzJ, Nat.reduceBEq]
            refine awp_le (le_SK id [0, 1, 2] rfl (l' := [(4, .ptr 4 0 0), (5, .ref 2 0), (6, .d (iv (stW r x)))]) (m' := [(4, (⟨True, 44, 3, true, false, 4, [[.d (.v (.int .i64 0)), .ref 0 0, .ref 1 0]]⟩ : ARow)), (0, (⟨True, 93, 7, true, true, 0, []⟩ : ARow)), (1, (⟨True, 25, 4, true, true, 1, []⟩ : ARow)), (2, (⟨True, 68, 3, true, true, 2, []⟩ : ARow))]) ?_ ?_ ?_ ?_) ?_
            · simp only [leV, look_cons, Nat.reduceBEq, cond_true, cond_false]; exact ⟨VLe.ptr_ (f := id) (by decide), VLe.nil_ (by decide), VLe.still rfl, trivial⟩
            · exact ⟨fun _ => ⟨_, rfl, RowLe.cells (VLess.one_ (VLes.cons_ (VLe.still rfl) (VLes.cons_ (VLe.nil_ (by decide)) (VLes.cons_ (VLe.nil_ (by decide)) VLes.nil_))))⟩, fun h => by simp at h, fun h => by simp at h, fun _ => rfl, fun h => by simp at h, fun _ => rfl, fun h => by simp at h, fun _ => rfl, trivial⟩
            · simp [wfV, AV.ids, lookR]
            · simp [wfR, AV.idsL, AV.ids, lookR]
            refine awp_ret ?_
            simp only [zz6, Nat.reduceEqDiff, ↓reduceIte]
            have n0 : runE r ⟨nx, ts, (pre ++ x :: post)⟩ ≠ 0 := by rw [e2]; simpa using hw
            have e3 : (runE r ⟨nx, ts, (pre ++ x :: post)⟩ == 0) = false := by simpa using n0
            simp only [runT, runP, runD, runN, e3, cond_false, List.map_nil]
            rw [e2]
            refine doneN [0, 1, 2] (by simp [resCs, resC, S, List.getD, look_cons, lookR, F_ag44, F_sz44, F_ok44]) ?_ (by simp [flatA, flatAs, flatD, ]) (by simp [AV.ids, AV.idsL, ]) (by decide) ?_
            · simp only [List.map_cons, List.map_nil, resA, S_getD, S_mem, lookR_cons, lookR_nil, Nat.reduceLT, Nat.reduceLeDiff, look_cons, Nat.reduceBEq, cond_true, cond_false, resAll, List.getD_cons_zero, List.getD_cons_succ, List.drop_zero, List.drop_succ_cons, List.take_succ_cons, List.take_zero, F_ag44, F_sz44, F_ok44]; rfl
            · exact ⟨⟨_, rfl, trivial, rfl, rfl, rfl, rfl⟩, by simp [flatDs, flatD, tradeC], ⟨_, rfl, trivial, rfl, rfl, rfl, rfl⟩, by simp [flatDs, flatD, posC], ⟨_, rfl, trivial, rfl, rfl, rfl, rfl⟩, by simp [flatDs, flatD, dueC], trivial⟩
          · intro hb
            have hw : (stW r x != 0) = false := hb
            clear hb
            have hwb := worth_zero (show stW r x = 0 by simpa using hw)
            have hwq := worth_bounds hwb.1
            have hwp := hwb.1
            simp [worthBad] at hwp
            refine awp_skip ?_
            simp only [zz6, Nat.reduceEqDiff, ↓reduceIte]
            refine hK3 _ ?_; try clear hK3 K3
            refine awp_keepL [2, 3, 4, 8, 9, 11, 12, 13, 15, 28, 29, 30] ?_
            simp only [zzJ, Nat.reduceBEq]
            refine awp_seq fun K3 hK3 => ?_
            refine awp_plain F_mixed [some 58, some 59, some 60, some 61, some 62, some 57, some 63, some 64, some 16, some 14] rfl ?_
            simp only [zzK, Nat.reduceLT, Nat.reduceLeDiff, Nat.reduceBEq, zz19, zz23, F_off25_1, zzH, Nat.zero_add, Nat.reduceAdd, F_ok3, F_ag3, F_sz3, zz8, zzD, zzC, Option.map_some, yyE, reduceCtorEq, evS_move, evS_call, evC_value, zz14, evS_assign, posC, wideA, wideC, D.agg.injEq, zz6, Nat.reduceEqDiff, ↓reduceIte]
            refine call_go F_go31 (fun hG => Times_ x.qty (mkV r x) (by omega) (by omega) (by omega) (by omega)) (by simp [AV.ids, AV.idsL, wideA, wideC]) (by simp) ?_
            simp only [zzK, Nat.reduceLT, Nat.reduceLeDiff, Nat.reduceBEq, zz19, zz23, F_off25_1, zzH, Nat.zero_add, Nat.reduceAdd, F_ok3, F_ag3, F_sz3, zz8, zzD, zzC, Option.map_some, yyE, reduceCtorEq, evS_move, evS_call, evC_value, zz14, evS_assign, posC, wideA, wideC, D.agg.injEq, zz6, Nat.reduceEqDiff, ↓reduceIte, atsL, oksG, freeN, AV.ren, AV.renL, addRows, ORow.row, Nat.reduceMul, Nat.reduceAdd, zz9, Option.bind_some, Option.map_some, S_mem, yyF, List.length_cons, zz2]
            refine call_go F_go32 (fun hG => wInt_ (x.qty * mkV r x)) (by simp [AV.ids, AV.idsL, wideA, wideC]) (by simp) ?_
            simp only [zzK, Nat.reduceLT, Nat.reduceLeDiff, Nat.reduceBEq, zz19, zz23, F_off25_1, zzH, Nat.zero_add, Nat.reduceAdd, F_ok3, F_ag3, F_sz3, zz8, zzD, zzC, Option.map_some, yyE, reduceCtorEq, evS_move, evS_call, evC_value, zz14, evS_assign, posC, wideA, wideC, D.agg.injEq, zz6, Nat.reduceEqDiff, ↓reduceIte, atsL, oksG, freeN, AV.ren, AV.renL, addRows, ORow.row, Nat.reduceMul, Nat.reduceAdd, zz9, Option.bind_some, Option.map_some, S_mem, yyF, List.length_cons, zz2]
            refine hK3 _ ?_; try clear hK3 K3
            refine awp_keepL [2, 3, 4, 8, 9, 11, 12, 14, 15, 16, 28, 29, 30] ?_
            simp only [zzJ, Nat.reduceBEq]
            refine awp_seq fun K3 hK3 => ?_
            refine awp_seq fun K4 hK4 => ?_
            refine awp_plain F_mixed [some 65, some 66] rfl ?_
            simp only [zzK, Nat.reduceLT, Nat.reduceLeDiff, Nat.reduceBEq, evS_move, zz21, gr_v, zz28, zz6, Nat.reduceEqDiff, ↓reduceIte]
            refine hK4 _ ?_; try clear hK4 K4
            refine awp_keepL [2, 3, 4, 8, 9, 11, 12, 14, 15, 16, 28, 29, 30, 66] ?_
            simp only [zzJ, Nat.reduceBEq]
            refine awp_condS _ (by decide) (by simp only [look_cons, Nat.reduceBEq, cond_true, cond_false]; rfl) ?_ ?_
            · intro hb
              have hc : rightN (x.qty * mkV r x) = false := by revert hb; cases rightN (x.qty * mkV r x) <;> simp
              clear hb
              simp only [hc, cond_false]
              have hx : stE r x = 1 := by rw [stE_c hm hw, hc]; rfl
              have e2 : runE r ⟨nx, ts, pre ++ x :: post⟩ = 1 := by rw [e]; show firstE (stE r) (pre ++ x :: post) = _; rw [firstE_hit hfe (by rw [hx]; rfl), hx]
              refine awp_seq fun K5 hK5 => ?_
              refine awp_plain F_mixed [some 67, some 68, none, some 5, some 6] rfl ?_
              simp only [zzK, Nat.reduceLT, Nat.reduceLeDiff, Nat.reduceBEq, F_zero44, F_bld44, zz7, splice, Option.getD_some, List.append_nil, zz1, zzG, zzD, zzC, Option.map_some, yyE, reduceCtorEq, Nat.reduceAdd, Nat.zero_add, zzH, zz10, evS_move, zz18, F_ok44, F_sz44, evS_assign, zz6, Nat.reduceEqDiff, ↓reduceIte]
              refine hK5 _ ?_; try clear hK5 K5
              refine awp_keepL [4, 5, 6] ?_
              simp only [zzJ, Nat.reduceBEq]
              refine awp_le (le_SK id [0, 1, 2] rfl (l' := [(4, .ptr 4 0 0), (5, .ref 2 0), (6, .d (iv 1))]) (m' := [(4, (⟨True, 44, 3, true, false, 4, [[.d (.v (.int .i64 0)), .ref 0 0, .ref 1 0]]⟩ : ARow)), (0, (⟨True, 93, 7, true, true, 0, []⟩ : ARow)), (1, (⟨True, 25, 4, true, true, 1, []⟩ : ARow)), (2, (⟨True, 68, 3, true, true, 2, []⟩ : ARow))]) ?_ ?_ ?_ ?_) ?_
              · simp only [leV, look_cons, Nat.reduceBEq, cond_true, cond_false]; exact ⟨VLe.ptr_ (f := id) (by decide), VLe.nil_ (by decide), VLe.still rfl, trivial⟩
              · exact ⟨fun _ => ⟨_, rfl, RowLe.cells (VLess.one_ (VLes.cons_ (VLe.still rfl) (VLes.cons_ (VLe.nil_ (by decide)) (VLes.cons_ (VLe.nil_ (by decide)) VLes.nil_))))⟩, fun h => by simp at h, fun h => by simp at h, fun _ => rfl, fun h => by simp at h, fun _ => rfl, fun h => by simp at h, fun _ => rfl, trivial⟩
              · simp [wfV, AV.ids, lookR]
              · simp [wfR, AV.idsL, AV.ids, lookR]
              refine awp_ret ?_
              simp only [zz6, Nat.reduceEqDiff, ↓reduceIte]
              have n0 : runE r ⟨nx, ts, (pre ++ x :: post)⟩ ≠ 0 := by rw [e2]; decide
              have e3 : (runE r ⟨nx, ts, (pre ++ x :: post)⟩ == 0) = false := by simpa using n0
              simp only [runT, runP, runD, runN, e3, cond_false, List.map_nil]
              rw [e2]
              refine doneN [0, 1, 2] (by simp [resCs, resC, S, List.getD, look_cons, lookR, F_ag44, F_sz44, F_ok44]) ?_ (by simp [flatA, flatAs, flatD, ]) (by simp [AV.ids, AV.idsL, ]) (by decide) ?_
              · simp only [List.map_cons, List.map_nil, resA, S_getD, S_mem, lookR_cons, lookR_nil, Nat.reduceLT, Nat.reduceLeDiff, look_cons, Nat.reduceBEq, cond_true, cond_false, resAll, List.getD_cons_zero, List.getD_cons_succ, List.drop_zero, List.drop_succ_cons, List.take_succ_cons, List.take_zero, F_ag44, F_sz44, F_ok44]; rfl
              · exact ⟨⟨_, rfl, trivial, rfl, rfl, rfl, rfl⟩, by simp [flatDs, flatD, tradeC], ⟨_, rfl, trivial, rfl, rfl, rfl, rfl⟩, by simp [flatDs, flatD, posC], ⟨_, rfl, trivial, rfl, rfl, rfl, rfl⟩, by simp [flatDs, flatD, dueC], trivial⟩
            · intro hb
              have hc : rightN (x.qty * mkV r x) = true := by revert hb; cases rightN (x.qty * mkV r x) <;> simp
              clear hb
              have hx : stE r x = 0 := by rw [stE_c hm hw, hc]; rfl
              simp only [hc, cond_true]
              refine awp_skip ?_
              simp only [zz6, Nat.reduceEqDiff, ↓reduceIte]
              refine hK3 _ ?_; try clear hK3 K3
              refine awp_keepL [2, 3, 4, 8, 9, 11, 12, 15, 16, 28, 29, 30] ?_
              simp only [zzJ, Nat.reduceBEq]
              refine awp_seq fun K3 hK3 => ?_
              refine awp_plain F_mixed [some 69, some 70, some 71, some 72, some 73, some 74, some 75, some 76, some 77, some 78, some 8] rfl ?_
              simp only [zzK, Nat.reduceLT, Nat.reduceLeDiff, Nat.reduceBEq, evS_move, zz19, zz23, F_off25_0, zzH, Nat.zero_add, Nat.reduceAdd, F_off23_0, F_ok3, F_ag3, F_sz3, zz8, zzD, zzC, Option.map_some, yyE, reduceCtorEq, F_off33_1, F_zero68, F_bld68, zz7, splice, Option.getD_some, List.append_nil, zz1, zzG, zz10, F_fld68_0, F_fld68_1, F_fld68_2, F_sl53, F_sz68, zz3, newRow1, maxLen_le, Nat.reduceMul, evS_call, F_by68, zz4, zz9, Option.bind_some, evS_assign, grow, D.agg.injEq, unDs_map, zz6, Nat.reduceEqDiff, ↓reduceIte]
              have hmx : pre.length + 1 ≤ 1000000 := by simp at hp; omega
              first | refine ⟨le_maxLen hmx, by omega, ?_⟩ | refine ⟨by simp, le_maxLen hmx, by omega, ?_⟩
              clear hmx
              refine hK3 _ ?_; try clear hK3 K3
              refine awp_keepL [2, 3, 4, 8, 9, 11, 16, 28, 29, 30] ?_
              simp only [zzJ, Nat.reduceBEq]
              refine awp_seq fun K3 hK3 => ?_
              refine awp_plain F_mixed [some 79, some 80, none] rfl ?_
              simp only [zzK, Nat.reduceLT, Nat.reduceLeDiff, Nat.reduceBEq, evS_move, zz19, zz23, F_off25_2, zzH, Nat.zero_add, Nat.reduceAdd, zz18, F_ok3, F_sz3, splice, List.append_nil, zzD, zzC, Option.map_some, yyE, reduceCtorEq, zz1, zzG, zz6, Nat.reduceEqDiff, ↓reduceIte]
              refine hK3 _ ?_; try clear hK3 K3
              refine awp_keepL [2, 3, 4, 8, 9, 11, 28, 29, 30] ?_
              simp only [zzJ, Nat.reduceBEq]
              refine awp_seq fun K3 hK3 => ?_
              refine awp_plain F_mixed [some 81, some 82, some 83, some 84, some 85, some 86, some 87, some 88] rfl ?_
              simp only [zzK, Nat.reduceLT, Nat.reduceLeDiff, Nat.reduceBEq, Nat.reduceSub, S_getD, zz5, and_imp, imp_and, imp_self, zz19, zz23, F_off25_1, zzH, Nat.zero_add, Nat.reduceAdd, F_ok3, F_ag3, F_sz3, zz8, zzD, zzC, Option.map_some, yyE, reduceCtorEq, zz21, gr_v, zz28, evS_move, F_off25_2, zz13, pickK_l, pickK_r, zz6, Nat.reduceEqDiff, ↓reduceIte]
              refine hK3 _ ?_; try clear hK3 K3
              refine awp_keepL [2, 3, 4, 8, 9, 11, 28, 29, 30, 88] ?_
              simp only [zzJ, Nat.reduceBEq]
              refine awp_condS _ (by decide) (by simp only [look_cons, Nat.reduceBEq, cond_true, cond_false]; rfl) ?_ ?_
              · intro hb
                have hs : liveP (newP r x) = true := by simpa only [liveP, newP, hc, cond_true] using hb
                clear hb
                refine awp_plain F_mixed [some 89, some 90, some 91, some 92, some 9] rfl ?_
                simp only [zzK, Nat.reduceLT, Nat.reduceLeDiff, Nat.reduceBEq, evS_move, F_ok25, F_ag25, F_sz25, zz8, zz23, zzD, Nat.reduceAdd, Nat.zero_add, zzH, zzC, Option.map_some, yyE, reduceCtorEq, F_sl42, F_zero25, zz3, newRow1, zz1, zzG, maxLen_le, Nat.reduceMul, evS_call, F_by25, zz4, zz9, Option.bind_some, evS_assign, grow, D.agg.injEq, unDs_map, zz6, Nat.reduceEqDiff, ↓reduceIte]
                have hmx : (newPs r pre).length + 1 ≤ 1000000 := by simp at hp; omega
                first | refine ⟨le_maxLen hmx, by omega, ?_⟩ | refine ⟨by simp, le_maxLen hmx, by omega, ?_⟩
                clear hmx
                refine hK2 _ ?_; try clear hK2 K2
                refine awp_keepL [2, 3, 4, 8, 9, 28, 29, 30] ?_
                simp only [zzJ, Nat.reduceBEq]
                refine awp_plain F_mixed [some 93, some 30] rfl ?_
                simp only [zzK, Nat.reduceLT, Nat.reduceLeDiff, Nat.reduceBEq, zz21, gr_v, zz26, evS_move, zz6, Nat.reduceEqDiff, ↓reduceIte]
                refine ⟨post.length, _, by simp, le_SK (fun r => bif r == 9 then 92 else bif r == 8 then 78 else r) [] rfl (l' := [(2, .ptr 2 0 0), (3, .ptr 3 0 0), (4, .ptr 4 0 0), (8, .ref 8 ((pre ++ [x]).map (dueOf r)).length), (9, .ref 9 (newPs r (pre ++ [x])).length), (28, .d (poss (pre ++ x :: post))), (29, .d (iv (pre ++ x :: post).length)), (30, .d (iv (pre ++ [x]).length))]) (m' := [(2, (⟨True, 40, 3, true, false, 2, [[.d (.sl 3 (r.mems.map memC)), .d (.sl 12 (r.insts.map instC)), .d (.sl 4 (r.assets.map assetC))]]⟩ : ARow)), (3, (⟨True, 44, 3, true, false, 3, [[.d (iv nx), .d (.sl 7 (ts.map tradeC)), .d (.sl 4 ((pre ++ x :: post).map posC))]]⟩ : ARow)), (4, (⟨True, 44, 3, true, false, 4, [[.d (.v (.int .i64 0)), .d (.v (.slice none 0 0)), .d (.v (.slice none 0 0))]]⟩ : ARow)), (8, grow 68 3 8 (((pre ++ [x]).map (dueOf r)).map dueC)), (9, grow 25 4 9 ((newPs r (pre ++ [x])).map posC))]) ?_ ?_ ?_ ?_, pre ++ [x], post, by simp, firstE_ok hfe hx, rfl, rfl⟩
                · simp only [leV, look_cons, Nat.reduceBEq, cond_true, cond_false, poss, len_map, wrap_len pre x (by simp at hp; omega)]
                  refine ⟨VLe.ptr_ (f := (fun r => bif r == 9 then 92 else bif r == 8 then 78 else r)) (r := 2) (by simp), VLe.ptr_ (f := (fun r => bif r == 9 then 92 else bif r == 8 then 78 else r)) (r := 3) (by simp), VLe.ptr_ (f := (fun r => bif r == 9 then 92 else bif r == 8 then 78 else r)) (r := 4) (by simp), ?_, ?_, VLe.still rfl, VLe.still rfl, VLe.still rfl, trivial⟩
                  · rw [show pre.length + 1 = (pre ++ [x]).length from by simp]; exact VLe.ref_ (f := (fun r => bif r == 9 then 92 else bif r == 8 then 78 else r)) (r := 8) (by simp)
                  · rw [newPs_yes hs]
                    rw [show (AV.ref 92 _ : AV) = .ref ((fun r => bif r == 9 then 92 else bif r == 8 then 78 else r) 9) (newPs r pre ++ [newP r x]).length from by simp]; try exact VLe.ref_ (f := (fun r => bif r == 9 then 92 else bif r == 8 then 78 else r)) (r := 9) (by simp)
                · exact ⟨fun _ => ⟨_, rfl, RowLe.still (by simp [AV.idsL, AV.ids])⟩, fun h => by simp at h, fun _ => ⟨_, rfl, RowLe.still (by simp [AV.idsL, AV.ids])⟩, fun h => by simp at h, fun _ => ⟨_, rfl, RowLe.still (by simp [AV.idsL, AV.ids])⟩, fun h => by simp at h, fun _ => ⟨_, rfl, RowLe.data_ (by simp [dueC, dueOf])⟩, fun h => by simp at h, fun _ => ⟨_, rfl, RowLe.data_ (by rw [newPs_yes hs] <;> simp [posC, newP])⟩, fun h => by simp at h, trivial⟩
                · simp [wfV, AV.ids, lookR, grow]
                · exact ⟨by simp [AV.idsL, AV.ids], by simp [AV.idsL, AV.ids], by simp [AV.idsL, AV.ids], wf_data _ _, wf_data _ _, trivial⟩
              · intro hb
                have hs : liveP (newP r x) = false := by simpa only [liveP, newP, hc, cond_true] using hb
                clear hb
                refine awp_skip ?_
                simp only [zz6, Nat.reduceEqDiff, ↓reduceIte]
                refine hK2 _ ?_; try clear hK2 K2
                refine awp_keepL [2, 3, 4, 8, 9, 28, 29, 30] ?_
                simp only [zzJ, Nat.reduceBEq]
                refine awp_plain F_mixed [some 93, some 30] rfl ?_
                simp only [zzK, Nat.reduceLT, Nat.reduceLeDiff, Nat.reduceBEq, zz21, gr_v, zz26, evS_move, zz6, Nat.reduceEqDiff, ↓reduceIte]
                refine ⟨post.length, _, by simp, le_SK (fun r => bif r == 9 then 9 else bif r == 8 then 78 else r) [] rfl (l' := [(2, .ptr 2 0 0), (3, .ptr 3 0 0), (4, .ptr 4 0 0), (8, .ref 8 ((pre ++ [x]).map (dueOf r)).length), (9, .ref 9 (newPs r (pre ++ [x])).length), (28, .d (poss (pre ++ x :: post))), (29, .d (iv (pre ++ x :: post).length)), (30, .d (iv (pre ++ [x]).length))]) (m' := [(2, (⟨True, 40, 3, true, false, 2, [[.d (.sl 3 (r.mems.map memC)), .d (.sl 12 (r.insts.map instC)), .d (.sl 4 (r.assets.map assetC))]]⟩ : ARow)), (3, (⟨True, 44, 3, true, false, 3, [[.d (iv nx), .d (.sl 7 (ts.map tradeC)), .d (.sl 4 ((pre ++ x :: post).map posC))]]⟩ : ARow)), (4, (⟨True, 44, 3, true, false, 4, [[.d (.v (.int .i64 0)), .d (.v (.slice none 0 0)), .d (.v (.slice none 0 0))]]⟩ : ARow)), (8, grow 68 3 8 (((pre ++ [x]).map (dueOf r)).map dueC)), (9, grow 25 4 9 ((newPs r (pre ++ [x])).map posC))]) ?_ ?_ ?_ ?_, pre ++ [x], post, by simp, firstE_ok hfe hx, rfl, rfl⟩
                · simp only [leV, look_cons, Nat.reduceBEq, cond_true, cond_false, poss, len_map, wrap_len pre x (by simp at hp; omega)]
                  refine ⟨VLe.ptr_ (f := (fun r => bif r == 9 then 9 else bif r == 8 then 78 else r)) (r := 2) (by simp), VLe.ptr_ (f := (fun r => bif r == 9 then 9 else bif r == 8 then 78 else r)) (r := 3) (by simp), VLe.ptr_ (f := (fun r => bif r == 9 then 9 else bif r == 8 then 78 else r)) (r := 4) (by simp), ?_, ?_, VLe.still rfl, VLe.still rfl, VLe.still rfl, trivial⟩
                  · rw [show pre.length + 1 = (pre ++ [x]).length from by simp]; exact VLe.ref_ (f := (fun r => bif r == 9 then 9 else bif r == 8 then 78 else r)) (r := 8) (by simp)
                  · rw [newPs_no hs]
                    rw [show (AV.ref 9 _ : AV) = .ref ((fun r => bif r == 9 then 9 else bif r == 8 then 78 else r) 9) (newPs r pre).length from by simp]; try exact VLe.ref_ (f := (fun r => bif r == 9 then 9 else bif r == 8 then 78 else r)) (r := 9) (by simp)
                · exact ⟨fun _ => ⟨_, rfl, RowLe.still (by simp [AV.idsL, AV.ids])⟩, fun h => by simp at h, fun _ => ⟨_, rfl, RowLe.still (by simp [AV.idsL, AV.ids])⟩, fun h => by simp at h, fun _ => ⟨_, rfl, RowLe.still (by simp [AV.idsL, AV.ids])⟩, fun h => by simp at h, fun _ => ⟨_, rfl, RowLe.data_ (by simp [dueC, dueOf])⟩, fun h => by simp at h, fun _ => ⟨_, rfl, RowLe.data_ (by rw [newPs_no hs] <;> simp [posC, newP])⟩, fun h => by simp at h, trivial⟩
                · simp [wfV, AV.ids, lookR, grow]
                · exact ⟨by simp [AV.idsL, AV.ids], by simp [AV.idsL, AV.ids], by simp [AV.idsL, AV.ids], wf_data _ _, wf_data _ _, trivial⟩
      · intro hb
        obtain rfl := none_of hb; clear hb
        simp only [List.append_nil] at e hp ⊢
        refine awp_exit ?_
        simp only [zz6, Nat.reduceEqDiff, ↓reduceIte]
        refine hK0 _ ?_; try clear hK0 K0
        refine awp_keepL [3, 4, 8, 9] ?_
        simp only [zzJ, Nat.reduceBEq]
        refine awp_seq fun K0 hK0 => ?_
        refine awp_draw F_mixed [some 94, some 95, some 96, some 97, some 98, some 99, some 100, some 101, none] rfl (by kernel_rfl) ?_
        simp only [zzK, Nat.reduceLT, Nat.reduceLeDiff, Nat.reduceBEq, zz19, zz23, F_off44_0, zzH, Nat.zero_add, Nat.reduceAdd, F_ok3, F_ag3, F_sz3, zz8, zzD, zzC, Option.map_some, yyE, reduceCtorEq, F_sl41, F_zero93, F_sz93, zz3, newRow1, zz1, zzG, maxLen_le, Nat.reduceMul, F_off44_1, F_ok41, F_ag41, F_sz41, evS_call, F_by93, zz4, zz9, Option.bind_some, evS_move, F_zero44, F_bld44, zz7, splice, Option.getD_some, List.append_nil, zz10, F_fld44_0, F_fld44_1, F_fld44_2, zz18, F_ok44, F_sz44, len_map, zz6, Nat.reduceEqDiff, ↓reduceIte]
        refine ⟨le_maxLen (n := ts.length) (by omega), by omega, ?_⟩
        refine hK0 _ ?_; try clear hK0 K0
        refine awp_keepL [3, 4, 8] ?_
        simp only [zzJ, Nat.reduceBEq]
        refine awp_seq fun K0 hK0 => ?_
        refine awp_plain F_mixed [some 102, some 103, none, some 5, some 6] rfl ?_
        simp only [zzK, Nat.reduceLT, Nat.reduceLeDiff, Nat.reduceBEq, F_ok44, F_ag44, F_sz44, zz8, zz23, zzD, Nat.reduceAdd, Nat.zero_add, zzH, zzC, Option.map_some, yyE, reduceCtorEq, evS_move, zz18, splice, List.append_nil, zz1, zzG, evS_assign, zz6, Nat.reduceEqDiff, ↓reduceIte]
        refine hK0 _ ?_; try clear hK0 K0
        refine awp_keepL [4, 5, 6] ?_
        simp only [zzJ, Nat.reduceBEq]
        refine awp_le (le_SK id [] rfl (l' := [(4, .ptr 4 0 0), (5, .ref 8 (pre.map (dueOf r)).length), (6, .d (iv 0))]) (m' := [(4, (⟨True, 44, 3, true, false, 4, [[.d (iv nx), .ref 99 ts.length, .ref 9 (newPs r pre).length]]⟩ : ARow)), (99, (⟨True, 93, 7, true, true, 96, (ts.map tradeC).map (·.map .d)⟩ : ARow)), (9, (⟨True, 25, 4, true, true, 9, ((newPs r pre).map posC).map (·.map .d)⟩ : ARow)), (8, (⟨True, 68, 3, true, true, 8, ((pre.map (dueOf r)).map dueC).map (·.map .d)⟩ : ARow))]) ?_ ?_ ?_ ?_) ?_
        · simp only [leV, look_cons, Nat.reduceBEq, cond_true, cond_false, len_map]; exact ⟨VLe.refl _, VLe.refl _, VLe.refl _, trivial⟩
        · exact ⟨fun _ => ⟨_, rfl, ⟨id, rfl, rfl, fun _ => rfl, id, .inl, by simp only [len_map]; exact VLess.refl _⟩⟩, fun h => by simp at h, fun _ => (by refine ⟨_, rfl, ?_⟩; exact RowLe.uq_ (by rfl) (by simp) ids_data), fun h => by simp at h, fun _ => (by refine ⟨_, rfl, ?_⟩; exact RowLe.uq_ (by rfl) (by simp) ids_data), fun h => by simp at h, fun _ => (by refine ⟨_, rfl, ?_⟩; exact RowLe.uq_ (by rfl) (by simp) ids_data), fun h => by simp at h, trivial⟩
        · simp [wfV, AV.ids, lookR]
        · simp [wfR, AV.idsL, AV.ids, lookR, tradeC, posC, dueC]
        refine awp_ret ?_
        simp only [zz6, Nat.reduceEqDiff, ↓reduceIte]
        try simp only [List.append_nil]
        have e2 : runE r ⟨nx, ts, pre⟩ = 0 := by rw [e]; exact hfe
        have e3 : (runE r ⟨nx, ts, pre⟩ == 0) = true := by simp [e2]
        simp only [runT, runP, runD, runN, e3, cond_true]
        rw [e2]
        refine doneN [99, 9, 8] (by simp [resCs, resC, S, List.getD, look_cons, lookR, F_ag44, F_sz44, F_ok44]) ?_ (by simp [flatA, flatAs, flatD, ]) (by simp [AV.ids, AV.idsL, ]) (by decide) ?_
        · simp only [List.map_cons, List.map_nil, resA, S_getD, S_mem, lookR_cons, lookR_nil, Nat.reduceLT, Nat.reduceLeDiff, look_cons, Nat.reduceBEq, cond_true, cond_false, resAll, List.getD_cons_zero, List.getD_cons_succ, List.drop_zero, List.drop_succ_cons, List.take_succ_cons, List.take_zero, F_ag44, F_sz44, F_ok44]; rfl
        · exact ⟨⟨_, rfl, trivial, rfl, rfl, rfl, rfl⟩, by simp [flatDs, flatD, tradeC], ⟨_, rfl, trivial, rfl, rfl, rfl, rfl⟩, by simp [flatDs, flatD, posC], ⟨_, rfl, trivial, rfl, rfl, rfl, rfl⟩, by simp [flatDs, flatD, dueC], trivial⟩
  · intro hb
    have h0 : rollE r ≠ 0 := by simpa using hb
    clear hb
    have e := runE_roll (b := ⟨nx, ts, ps⟩) h0
    refine awp_skip ?_
    simp only [zz6, Nat.reduceEqDiff, ↓reduceIte]
    refine hK0 _ ?_; try clear hK0 K0
    refine awp_keepL [2, 3, 4, 7] ?_
    simp only [zzJ, Nat.reduceBEq]
    refine awp_seq fun K0 hK0 => ?_
    refine awp_seq fun K1 hK1 => ?_
    refine awp_plain F_mixed [some 23, some 24] rfl ?_
    simp only [zzK, Nat.reduceLT, Nat.reduceLeDiff, Nat.reduceBEq, evS_move, zz21, gr_v, zz28, zz6, Nat.reduceEqDiff, ↓reduceIte]
    refine hK1 _ ?_; try clear hK1 K1
    refine awp_keepL [2, 3, 4, 7, 24] ?_
    simp only [zzJ, Nat.reduceBEq]
    refine awp_condS _ (by decide) (by simp only [look_cons, Nat.reduceBEq, cond_true, cond_false]; rfl) ?_ ?_
    · intro hb
      clear hb
      refine awp_seq fun K2 hK2 => ?_
      refine awp_plain F_mixed [some 25, some 26, none, some 5, some 6] rfl ?_
      simp only [zzK, Nat.reduceLT, Nat.reduceLeDiff, Nat.reduceBEq, F_zero44, F_bld44, zz7, splice, Option.getD_some, List.append_nil, zz1, zzG, zzD, zzC, Option.map_some, yyE, reduceCtorEq, Nat.reduceAdd, Nat.zero_add, zzH, zz10, evS_move, zz18, F_ok44, F_sz44, evS_assign, zz6, Nat.reduceEqDiff, ↓reduceIte]
      refine hK2 _ ?_; try clear hK2 K2
      refine awp_keepL [4, 5, 6] ?_
      simp only [zzJ, Nat.reduceBEq]
      refine awp_le (le_SK id [0, 1, 2] rfl (l' := [(4, .ptr 4 0 0), (5, .ref 2 0), (6, .d (iv (rollE r)))]) (m' := [(4, (⟨True, 44, 3, true, false, 4, [[.d (.v (.int .i64 0)), .ref 0 0, .ref 1 0]]⟩ : ARow)), (0, (⟨True, 93, 7, true, true, 0, []⟩ : ARow)), (1, (⟨True, 25, 4, true, true, 1, []⟩ : ARow)), (2, (⟨True, 68, 3, true, true, 2, []⟩ : ARow))]) ?_ ?_ ?_ ?_) ?_
      · simp only [leV, look_cons, Nat.reduceBEq, cond_true, cond_false]; exact ⟨VLe.ptr_ (f := id) (by decide), VLe.nil_ (by decide), VLe.still rfl, trivial⟩
      · exact ⟨fun _ => ⟨_, rfl, RowLe.cells (VLess.one_ (VLes.cons_ (VLe.still rfl) (VLes.cons_ (VLe.nil_ (by decide)) (VLes.cons_ (VLe.nil_ (by decide)) VLes.nil_))))⟩, fun h => by simp at h, fun h => by simp at h, fun _ => rfl, fun h => by simp at h, fun _ => rfl, fun h => by simp at h, fun _ => rfl, trivial⟩
      · simp [wfV, AV.ids, lookR]
      · simp [wfR, AV.idsL, AV.ids, lookR]
      refine awp_ret ?_
      simp only [zz6, Nat.reduceEqDiff, ↓reduceIte]
      have n0 : runE r ⟨nx, ts, ps⟩ ≠ 0 := by rw [e]; exact h0
      have e3 : (runE r ⟨nx, ts, ps⟩ == 0) = false := by simpa using n0
      simp only [runT, runP, runD, runN, e3, cond_false, List.map_nil]
      rw [e]
      refine doneN [0, 1, 2] (by simp [resCs, resC, S, List.getD, look_cons, lookR, F_ag44, F_sz44, F_ok44]) ?_ (by simp [flatA, flatAs, flatD, ]) (by simp [AV.ids, AV.idsL, ]) (by decide) ?_
      · simp only [List.map_cons, List.map_nil, resA, S_getD, S_mem, lookR_cons, lookR_nil, Nat.reduceLT, Nat.reduceLeDiff, look_cons, Nat.reduceBEq, cond_true, cond_false, resAll, List.getD_cons_zero, List.getD_cons_succ, List.drop_zero, List.drop_succ_cons, List.take_succ_cons, List.take_zero, F_ag44, F_sz44, F_ok44]; rfl
      · exact ⟨⟨_, rfl, trivial, rfl, rfl, rfl, rfl⟩, by simp [flatDs, flatD, tradeC], ⟨_, rfl, trivial, rfl, rfl, rfl, rfl⟩, by simp [flatDs, flatD, posC], ⟨_, rfl, trivial, rfl, rfl, rfl, rfl⟩, by simp [flatDs, flatD, dueC], trivial⟩
    · intro hb
      simp [h0] at hb
end Go.Proofs.Ytdgkiemehmmobaa
