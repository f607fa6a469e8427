import Derived.Test.YtdgkiemehmmobaaWpT
import Derived.Test.YtdgkiemehmmobaaWpH
namespace Go.Proofs.Ytdgkiemehmmobaa
open Go.RowKit
set_option linter.unusedVariables false
set_option linter.unusedSimpArgs false
theorem F_go86 : goFn Try.prog 86 := ⟨_, Try.func86, rfl, rfl⟩
theorem F_go77 : goFn Try.prog 77 := ⟨_, Try.func77, rfl, rfl⟩
theorem F_off93_6 : offT Try.prog 93 6 = some 6 := by kernel_rfl
theorem F_ok4 : tyOk Try.prog 4 = true := by kernel_rfl
theorem F_ag4 : aggT Try.prog 4 = false := by kernel_rfl
theorem F_sz4 : szT Try.prog 4 = 1 := by kernel_rfl
theorem F_go44 : goFn Try.prog 44 := ⟨_, Try.func44, rfl, rfl⟩
theorem F_go45 : goFn Try.prog 45 := ⟨_, Try.func45, rfl, rfl⟩
theorem F_go47 : goFn Try.prog 47 := ⟨_, Try.func47, rfl, rfl⟩
theorem F_go78 : goFn Try.prog 78 := ⟨_, Try.func78, rfl, rfl⟩
theorem F_go79 : goFn Try.prog 79 := ⟨_, Try.func79, rfl, rfl⟩
theorem F_go48 : goFn Try.prog 48 := ⟨_, Try.func48, rfl, rfl⟩
theorem F_go49 : goFn Try.prog 49 := ⟨_, Try.func49, rfl, rfl⟩
theorem F_go50 : goFn Try.prog 50 := ⟨_, Try.func50, rfl, rfl⟩
theorem F_zero40 : zeroT Try.prog 40 = some [(.slice none 0 0), (.slice none 0 0), (.slice none 0 0)] := by kernel_rfl
theorem F_by107 : byT Try.prog 107 = 24 := by kernel_rfl
theorem F_by33 : byT Try.prog 33 = 96 := by kernel_rfl
theorem F_by115 : byT Try.prog 115 = 32 := by kernel_rfl
theorem F_off68_0 : offT Try.prog 68 0 = some 0 := by kernel_rfl
theorem F_off68_1 : offT Try.prog 68 1 = some 1 := by kernel_rfl
theorem F_off68_2 : offT Try.prog 68 2 = some 2 := by kernel_rfl
theorem F_ok68 : tyOk Try.prog 68 = true := by kernel_rfl
theorem F_ag68 : aggT Try.prog 68 = true := by kernel_rfl
theorem F_go46 : goFn Try.prog 46 := ⟨_, Try.func46, rfl, rfl⟩
theorem F_go11 : goFn Try.prog 11 := ⟨_, Try.func11, rfl, rfl⟩
theorem F_go12 : goFn Try.prog 12 := ⟨_, Try.func12, rfl, rfl⟩
theorem F_go13 : goFn Try.prog 13 := ⟨_, Try.func13, rfl, rfl⟩
theorem F_go16 : goFn Try.prog 16 := ⟨_, Try.func16, rfl, rfl⟩
theorem F_go18 : goFn Try.prog 18 := ⟨_, Try.func18, rfl, rfl⟩
theorem F_go19 : goFn Try.prog 19 := ⟨_, Try.func19, rfl, rfl⟩
theorem F_go20 : goFn Try.prog 20 := ⟨_, Try.func20, rfl, rfl⟩
theorem F_go21 : goFn Try.prog 21 := ⟨_, Try.func21, rfl, rfl⟩
theorem F_go22 : goFn Try.prog 22 := ⟨_, Try.func22, rfl, rfl⟩
theorem F_go23 : goFn Try.prog 23 := ⟨_, Try.func23, rfl, rfl⟩
theorem F_go24 : goFn Try.prog 24 := ⟨_, Try.func24, rfl, rfl⟩
theorem F_go9 : goFn Try.prog 9 := ⟨_, Try.func9, rfl, rfl⟩
theorem twinBkF (nx : Int) (ts : List TradeV) (ps : List PosV) (ht : ts.length ≤ 1000000) (hp : ps.length ≤ 1000000) : ACalls Try.prog 17 [.agg (bookC ⟨nx, ts, ps⟩)] [] (.d (.agg (bookC ⟨nx, ts, ps⟩))) :=
  (twinBk_ nx ts ps ht hp).freeze (by simp [frzOk, frzOkL])
theorem runS (r : RollV) (b : BookV) (hr : r.Small) (hb : b.Small) : ACalls Try.prog 18 [.agg (rollC r), .agg (bookC b)] [⟨93, 7, (runT r b).map tradeC⟩, ⟨25, 4, (runP r b).map posC⟩, ⟨68, 3, (runD r b).map dueC⟩] (.tp [.ag [.d (iv (runN r b)), .ref 0 (runT r b).length, .ref 1 (runP r b).length], .ref 2 (runD r b).length, .d (iv (runE r b))]) :=
  run_ r b.next b.trades b.poss hr hb.trades hb.poss
theorem rRunF (r : RollV) (b : BookV) (hr : r.Small) (hb : b.Small) : ACalls Try.prog 19 [.agg (rollC r), .agg (bookC b)] [] (.tp [.d (.agg [iv (runN r b), .sl 7 ((runT r b).map tradeC), .sl 4 ((runP r b).map posC)]), .d (.sl 3 ((runD r b).map dueC)), .d (iv (runE r b))]) :=
  (rRun_ r b.next b.trades b.poss hr hb.trades hb.poss).freezeT (by simp [frzOk, frzOkL])
theorem kKey_ (w n : Int) : ACalls Try.prog 86 [.agg [iv w, iv n], .agg [iv w, iv n]] [] (bv true) := by
  refine acalls_S (rs := [.tmp 4]) Try.func86 rfl rfl 17 [(0, .d (.agg [iv w, iv n])), (1, .d (.agg [iv w, iv n]))] rfl (by simp) rfl ?_
  refine awp_seq fun K0 hK0 => ?_
  refine awp_plain F_mixed [some 2, some 3, some 4] rfl ?_
  simp only [zzK, Nat.reduceLT, Nat.reduceLeDiff, Nat.reduceBEq, zz35, newRow1, zz1, zzG, zzD, zzC, Option.map_some, yyE, reduceCtorEq, Nat.reduceAdd, Nat.zero_add, zzH, evS_assign, zz6, Nat.reduceEqDiff, ↓reduceIte]
  refine hK0 _ ?_; try clear hK0 K0
  refine awp_keepL [2, 3] ?_
  simp only [zzJ, Nat.reduceBEq]
  refine awp_seq fun K0 hK0 => ?_
  refine awp_plain F_mixed [some 5, some 6, some 7, some 8, some 9, some 10, some 11, some 12, some 13, some 14, some 15, some 16, some 4] rfl ?_
  simp only [zzK, Nat.reduceLT, Nat.reduceLeDiff, Nat.reduceBEq, Nat.reduceSub, S_getD, zz5, and_imp, imp_and, imp_self, zz19, zz23, F_off23_0, zzH, Nat.zero_add, Nat.reduceAdd, F_ok3, F_ag3, F_sz3, zz8, zzD, zzC, Option.map_some, yyE, reduceCtorEq, zz21, gr_v, zz34, evS_move, F_off23_1, zz13, pickK_l, pickK_r, evS_assign, zz6, Nat.reduceEqDiff, ↓reduceIte]
  refine hK0 _ ?_; try clear hK0 K0
  refine awp_keepL [4] ?_
  simp only [zzJ, Nat.reduceBEq]
  refine awp_ret ?_
  simp only [zz6, Nat.reduceEqDiff, ↓reduceIte]
  refine done0 (by simp only [resCs, resC]; trivial) ?_ (by simp [flatA, flatAs, flatD]) (by simp [AV.ids, AV.idsL])
  simp only [List.map_cons, List.map_nil, resA, S_getD, Nat.reduceLT, Nat.reduceLeDiff, look_cons, Nat.reduceBEq, cond_true, cond_false, resAll]
  simp
theorem kPos_ (p : PosV) : ACalls Try.prog 77 [.agg (posC p), .agg (posC p)] [] (bv true) := by
  refine acalls_S (rs := [.tmp 4]) Try.func77 rfl rfl 24 [(0, .d (.agg (posC p))), (1, .d (.agg (posC p)))] rfl (by simp) rfl ?_
  refine awp_seq fun K0 hK0 => ?_
  refine awp_plain F_mixed [some 2, some 3, some 4] rfl ?_
  simp only [zzK, Nat.reduceLT, Nat.reduceLeDiff, Nat.reduceBEq, zz35, newRow1, zz1, zzG, zzD, zzC, Option.map_some, yyE, reduceCtorEq, Nat.reduceAdd, Nat.zero_add, zzH, evS_assign, posC, zz6, Nat.reduceEqDiff, ↓reduceIte]
  refine hK0 _ ?_; try clear hK0 K0
  refine awp_keepL [2, 3] ?_
  simp only [zzJ, Nat.reduceBEq]
  refine awp_seq fun K0 hK0 => ?_
  refine awp_plain F_mixed [some 5, some 6, some 7, some 8, some 9, some 10, some 11, some 12, some 13, some 14, some 15, some 16, some 17, some 18, some 19, some 20, some 21, some 22, some 23, some 4] rfl ?_
  simp only [zzK, Nat.reduceLT, Nat.reduceLeDiff, Nat.reduceBEq, Nat.reduceSub, S_getD, zz5, and_imp, imp_and, imp_self, zz19, zz23, F_off25_0, zzH, Nat.zero_add, Nat.reduceAdd, F_ok23, F_ag23, F_sz23, zz8, zzD, zzC, Option.map_some, yyE, reduceCtorEq, evS_call, evC_value, evS_move, F_off25_1, F_ok3, F_ag3, F_sz3, zz21, gr_v, zz34, zz13, pickK_l, pickK_r, F_off25_2, evS_assign, D.agg.injEq, zz6, Nat.reduceEqDiff, ↓reduceIte]
  refine call_go F_go86 (fun hG => kKey_ p.who p.inst) (by simp [AV.ids, AV.idsL]) (by simp) ?_
  simp only [zzK, Nat.reduceLT, Nat.reduceLeDiff, Nat.reduceBEq, Nat.reduceSub, S_getD, zz5, and_imp, imp_and, imp_self, zz19, zz23, F_off25_0, zzH, Nat.zero_add, Nat.reduceAdd, F_ok23, F_ag23, F_sz23, zz8, zzD, zzC, Option.map_some, yyE, reduceCtorEq, evS_call, evC_value, evS_move, F_off25_1, F_ok3, F_ag3, F_sz3, zz21, gr_v, zz34, zz13, pickK_l, pickK_r, F_off25_2, evS_assign, D.agg.injEq, zz6, Nat.reduceEqDiff, ↓reduceIte, atsL, oksG, freeN, AV.ren, AV.renL, addRows, ORow.row, Nat.reduceMul, Nat.reduceAdd, zz9, Option.bind_some, Option.map_some, S_mem, yyF, List.length_cons, zz2]
  refine hK0 _ ?_; try clear hK0 K0
  refine awp_keepL [4] ?_
  simp only [zzJ, Nat.reduceBEq]
  refine awp_ret ?_
  simp only [zz6, Nat.reduceEqDiff, ↓reduceIte]
  refine done0 (by simp only [resCs, resC]; trivial) ?_ (by simp [flatA, flatAs, flatD]) (by simp [AV.ids, AV.idsL])
  simp only [List.map_cons, List.map_nil, resA, S_getD, Nat.reduceLT, Nat.reduceLeDiff, look_cons, Nat.reduceBEq, cond_true, cond_false, resAll]
  simp
theorem kPoss_ (l : List PosV) (hl : l.length ≤ 1000000) : ACalls Try.prog 45 [poss l, poss l] [] (bv true) := by
  refine acalls_S (rs := [.tmp 4]) Try.func45 rfl rfl 27 [(0, .d (poss l)), (1, .d (poss l))] rfl (by simp) rfl ?_
  refine awp_seq fun K0 hK0 => ?_
  refine awp_plain F_mixed [some 4] rfl ?_
  simp only [zzK, Nat.reduceLT, Nat.reduceLeDiff, Nat.reduceBEq, evS_assign, zz6, Nat.reduceEqDiff, ↓reduceIte]
  refine hK0 _ ?_; try clear hK0 K0
  refine awp_keepL [0, 1] ?_
  simp only [zzJ, Nat.reduceBEq]
  refine awp_seq fun K0 hK0 => ?_
  refine awp_seq fun K1 hK1 => ?_
  refine awp_plain F_mixed [some 6, some 7, some 8, some 9, some 10] rfl ?_
  simp only [zzK, Nat.reduceLT, Nat.reduceLeDiff, Nat.reduceBEq, evS_move, evS_call, zz12, F_sl42, Option.isSome_some, zz21, gr_v, zz28, poss, len_map, zz6, Nat.reduceEqDiff, ↓reduceIte]
  refine hK1 _ ?_; try clear hK1 K1
  refine awp_keepL [0, 1, 10] ?_
  simp only [zzJ, Nat.reduceBEq]
  refine awp_condS _ (by decide) (by simp only [look_cons, Nat.reduceBEq, cond_true, cond_false]; rfl) ?_ ?_
  · intro hb
    simp at hb
  · intro hb
    clear hb
    refine awp_skip ?_
    simp only [zz6, Nat.reduceEqDiff, ↓reduceIte]
    refine hK0 _ ?_; try clear hK0 K0
    refine awp_keepL [0, 1] ?_
    simp only [zzJ, Nat.reduceBEq]
    refine awp_seq fun K0 hK0 => ?_
    refine awp_seq fun K1 hK1 => ?_
    refine awp_plain F_mixed [some 5] rfl ?_
    simp only [zzK, Nat.reduceLT, Nat.reduceLeDiff, Nat.reduceBEq, evS_assign, zz6, Nat.reduceEqDiff, ↓reduceIte]
    refine hK1 _ ?_; try clear hK1 K1
    refine awp_keepL [0, 1, 5] ?_
    simp only [zzJ, Nat.reduceBEq]
    refine awp_block ?_
    refine awp_loop (fun m s => ∃ pre post : List PosV, l = pre ++ post ∧ m = post.length ∧ s = S 27 [(0, .d (poss l)), (1, .d (poss l)), (5, .d (iv pre.length))] []) l.length _ (le_SK id [] rfl (l' := [(0, .d (poss l)), (1, .d (poss l)), (5, .d (iv ([] : List PosV).length))]) (m' := []) ?_ ?_ ?_ ?_) ⟨[], l, rfl, rfl, rfl⟩ ?_
    · simp only [leV, look_cons, Nat.reduceBEq, cond_true, cond_false, poss, len_map]; exact ⟨VLe.refl _, VLe.refl _, VLe.refl _, trivial⟩
    · exact trivial
    · simp [wfV, AV.ids, AV.idsL, lookR]
    · simp [wfR, AV.idsL, AV.ids]
    rintro m s ⟨pre, post, rfl, rfl, rfl⟩
    refine awp_seq fun K2 hK2 => ?_
    refine awp_seq fun K3 hK3 => ?_
    refine awp_plain F_mixed [some 11, some 12, some 13, some 14] rfl ?_
    simp only [zzK, Nat.reduceLT, Nat.reduceLeDiff, Nat.reduceBEq, evS_move, evS_call, zz12, F_sl42, Option.isSome_some, zz21, gr_v, zz22, poss, len_map, zz6, Nat.reduceEqDiff, ↓reduceIte]
    refine hK3 _ ?_; try clear hK3 K3
    refine awp_keepL [0, 1, 5, 14] ?_
    simp only [zzJ, Nat.reduceBEq]
    refine awp_condS _ (by decide) (by simp only [look_cons, Nat.reduceBEq, cond_true, cond_false]; rfl) ?_ ?_
    · intro hb
      obtain ⟨x, post, rfl⟩ := more_of hb; clear hb
      refine awp_skip ?_
      simp only [zz6, Nat.reduceEqDiff, ↓reduceIte]
      refine hK2 _ ?_; try clear hK2 K2
      refine awp_keepL [0, 1, 5] ?_
      simp only [zzJ, Nat.reduceBEq]
      refine awp_seq fun K2 hK2 => ?_
      refine awp_block ?_
      refine awp_seq fun K3 hK3 => ?_
      refine awp_draw F_mixed [some 17, some 18, some 19, some 20, some 21, some 22, some 23, some 24, some 25, some 26] rfl (by kernel_rfl) ?_
      simp only [zzK, Nat.reduceLT, Nat.reduceLeDiff, Nat.reduceBEq, evS_move, evS_indexAddr, zz23, zz24, F_sl42, F_sz25, Option.map_some, zzC, yyE, reduceCtorEq, F_ok25, F_ag25, zz8, zzD, Nat.reduceAdd, Nat.zero_add, zzH, evS_call, evC_value, zz29, gr_v, zz30, poss, posC, getD_mid, len_map, lt_mid, ge_mid, D.agg.injEq, zz6, Nat.reduceEqDiff, ↓reduceIte]
      refine call_go F_go77 (fun hG => kPos_ x) (by simp [AV.ids, AV.idsL]) (by simp) ?_
      simp only [zzK, Nat.reduceLT, Nat.reduceLeDiff, Nat.reduceBEq, evS_move, evS_indexAddr, zz23, zz24, F_sl42, F_sz25, Option.map_some, zzC, yyE, reduceCtorEq, F_ok25, F_ag25, zz8, zzD, Nat.reduceAdd, Nat.zero_add, zzH, evS_call, evC_value, zz29, gr_v, zz30, poss, posC, getD_mid, len_map, lt_mid, ge_mid, D.agg.injEq, zz6, Nat.reduceEqDiff, ↓reduceIte, atsL, oksG, freeN, AV.ren, AV.renL, addRows, ORow.row, Nat.reduceMul, Nat.reduceAdd, zz9, Option.bind_some, Option.map_some, S_mem, yyF, List.length_cons, zz2]
      refine hK3 _ ?_; try clear hK3 K3
      refine awp_keepL [0, 1, 5, 26] ?_
      simp only [zzJ, Nat.reduceBEq]
      refine awp_condS _ (by decide) (by simp only [look_cons, Nat.reduceBEq, cond_true, cond_false]; rfl) ?_ ?_
      · intro hb
        simp at hb
      · intro hb
        clear hb
        refine awp_skip ?_
        simp only [zz6, Nat.reduceEqDiff, ↓reduceIte]
        refine hK2 _ ?_; try clear hK2 K2
        refine awp_keepL [0, 1, 5] ?_
        simp only [zzJ, Nat.reduceBEq]
        refine awp_plain F_mixed [some 15, some 16, some 5] rfl ?_
        simp only [zzK, Nat.reduceLT, Nat.reduceLeDiff, Nat.reduceBEq, evS_move, zz21, gr_v, zz26, evS_assign, zz6, Nat.reduceEqDiff, ↓reduceIte]
        refine ⟨post.length, _, by simp, le_SK id [] rfl (l' := [(0, .d (poss (pre ++ x :: post))), (1, .d (poss (pre ++ x :: post))), (5, .d (iv (pre ++ [x]).length))]) (m' := []) ?_ ?_ ?_ ?_, pre ++ [x], post, by simp, rfl, rfl⟩
        · simp only [leV, look_cons, Nat.reduceBEq, cond_true, cond_false, poss, len_map, wrap_len pre x (by simp at hl; omega)]; exact ⟨VLe.refl _, VLe.refl _, VLe.refl _, trivial⟩
        · exact trivial
        · simp [wfV, AV.ids, AV.idsL, lookR]
        · simp [wfR, AV.idsL, AV.ids]
    · intro hb
      clear hb
      refine awp_exit ?_
      simp only [zz6, Nat.reduceEqDiff, ↓reduceIte]
      refine hK0 _ ?_; try clear hK0 K0
      refine awp_keepL [] ?_
      simp only [zzJ, Nat.reduceBEq]
      refine awp_seq fun K0 hK0 => ?_
      refine awp_plain F_mixed [some 4] rfl ?_
      simp only [zzK, Nat.reduceLT, Nat.reduceLeDiff, Nat.reduceBEq, evS_assign, zz6, Nat.reduceEqDiff, ↓reduceIte]
      refine hK0 _ ?_; try clear hK0 K0
      refine awp_keepL [4] ?_
      simp only [zzJ, Nat.reduceBEq]
      refine awp_ret ?_
      simp only [zz6, Nat.reduceEqDiff, ↓reduceIte]
      refine done0 (by simp only [resCs, resC]; trivial) ?_ (by simp [flatA, flatAs, flatD]) (by simp [AV.ids, AV.idsL])
      simp only [List.map_cons, List.map_nil, resA, S_getD, Nat.reduceLT, Nat.reduceLeDiff, look_cons, Nat.reduceBEq, cond_true, cond_false, resAll]
      
set_option maxRecDepth 100000 in
set_option maxHeartbeats 4000000 in
theorem kTrades_ (l : List TradeV) (hl : l.length ≤ 1000000) : ACalls Try.prog 44 [tradesB l, tradesB l] [] (bv true) := by
  refine acalls_S (rs := [.tmp 4]) Try.func44 rfl rfl 74 [(0, .d (tradesB l)), (1, .d (tradesB l))] rfl (by simp) rfl ?_
  refine awp_seq fun K0 hK0 => ?_
  refine awp_plain F_mixed [some 4] rfl ?_
  simp only [zzK, Nat.reduceLT, Nat.reduceLeDiff, Nat.reduceBEq, evS_assign, zz6, Nat.reduceEqDiff, ↓reduceIte]
  refine hK0 _ ?_; try clear hK0 K0
  refine awp_keepL [0, 1] ?_
  simp only [zzJ, Nat.reduceBEq]
  refine awp_seq fun K0 hK0 => ?_
  refine awp_seq fun K1 hK1 => ?_
  refine awp_plain F_mixed [some 8, some 9, some 10, some 11, some 12] rfl ?_
  simp only [zzK, Nat.reduceLT, Nat.reduceLeDiff, Nat.reduceBEq, evS_move, evS_call, zz12, F_sl41, Option.isSome_some, zz21, gr_v, zz28, tradesB, len_map, zz6, Nat.reduceEqDiff, ↓reduceIte]
  refine hK1 _ ?_; try clear hK1 K1
  refine awp_keepL [0, 1, 12] ?_
  simp only [zzJ, Nat.reduceBEq]
  refine awp_condS _ (by decide) (by simp only [look_cons, Nat.reduceBEq, cond_true, cond_false]; rfl) ?_ ?_
  · intro hb
    simp at hb
  · intro hb
    clear hb
    refine awp_skip ?_
    simp only [zz6, Nat.reduceEqDiff, ↓reduceIte]
    refine hK0 _ ?_; try clear hK0 K0
    refine awp_keepL [0, 1] ?_
    simp only [zzJ, Nat.reduceBEq]
    refine awp_seq fun K0 hK0 => ?_
    refine awp_seq fun K1 hK1 => ?_
    refine awp_plain F_mixed [some 5] rfl ?_
    simp only [zzK, Nat.reduceLT, Nat.reduceLeDiff, Nat.reduceBEq, evS_assign, zz6, Nat.reduceEqDiff, ↓reduceIte]
    refine hK1 _ ?_; try clear hK1 K1
    refine awp_keepL [0, 1, 5] ?_
    simp only [zzJ, Nat.reduceBEq]
    refine awp_block ?_
    refine awp_loop (fun m s => ∃ pre post : List TradeV, l = pre ++ post ∧ m = post.length ∧ s = S 74 [(0, .d (tradesB l)), (1, .d (tradesB l)), (5, .d (iv pre.length))] []) l.length _ (le_SK id [] rfl (l' := [(0, .d (tradesB l)), (1, .d (tradesB l)), (5, .d (iv ([] : List TradeV).length))]) (m' := []) ?_ ?_ ?_ ?_) ⟨[], l, rfl, rfl, rfl⟩ ?_
    · simp only [leV, look_cons, Nat.reduceBEq, cond_true, cond_false, tradesB, len_map]; exact ⟨VLe.refl _, VLe.refl _, VLe.refl _, trivial⟩
    · exact trivial
    · simp [wfV, AV.ids, AV.idsL, lookR]
    · simp [wfR, AV.idsL, AV.ids]
    rintro m s ⟨pre, post, rfl, rfl, rfl⟩
    refine awp_seq fun K2 hK2 => ?_
    refine awp_seq fun K3 hK3 => ?_
    refine awp_plain F_mixed [some 13, some 14, some 15, some 16] rfl ?_
    simp only [zzK, Nat.reduceLT, Nat.reduceLeDiff, Nat.reduceBEq, evS_move, evS_call, zz12, F_sl41, Option.isSome_some, zz21, gr_v, zz22, tradesB, len_map, zz6, Nat.reduceEqDiff, ↓reduceIte]
    refine hK3 _ ?_; try clear hK3 K3
    refine awp_keepL [0, 1, 5, 16] ?_
    simp only [zzJ, Nat.reduceBEq]
    refine awp_condS _ (by decide) (by simp only [look_cons, Nat.reduceBEq, cond_true, cond_false]; rfl) ?_ ?_
    · intro hb
      obtain ⟨x, post, rfl⟩ := more_of hb; clear hb
      refine awp_skip ?_
      simp only [zz6, Nat.reduceEqDiff, ↓reduceIte]
      refine hK2 _ ?_; try clear hK2 K2
      refine awp_keepL [0, 1, 5] ?_
      simp only [zzJ, Nat.reduceBEq]
      refine awp_seq fun K2 hK2 => ?_
      refine awp_block ?_
      refine awp_seq fun K3 hK3 => ?_
      refine awp_tree F_mixed [some 19, some 20, some 21, some 22, some 23, some 24, some 25, some 26, some 6, some 7, none, none] rfl (.one 0 (.one 1 (.one 2 (.one 3 (.one 4 (.one 5 (.one 6 (.one 8 (.one 9 (.two (.one 7 (.one 10 (.one 11 .nil))) (.one 10 (.one 7 (.one 11 .nil))))))))))))) (by kernel_rfl) ?_
      simp only [zzK, Nat.reduceLT, Nat.reduceLeDiff, Nat.reduceBEq, evS_move, evS_indexAddr, zz23, zz24, F_sl41, F_sz93, Option.map_some, zzC, yyE, reduceCtorEq, F_ok93, F_ag93, zz8, zzD, Nat.reduceAdd, Nat.zero_add, zzH, zz32, newRow1, F_zero93, zz10, zz18, splice, List.append_nil, zz1, zzG, tradesB, tradeC, getD_mid, len_map, lt_mid, ge_mid, D.agg.injEq, zz6, Nat.reduceEqDiff, ↓reduceIte, evT, List.getElem?_cons_zero, List.getElem?_cons_succ]
      refine hK3 _ ?_; try clear hK3 K3
      refine awp_keepL [0, 1, 5, 6, 7] ?_
      simp only [zzJ, Nat.reduceBEq]
      refine awp_seq fun K3 hK3 => ?_
      refine awp_plain F_mixed [some 27, some 28, some 29, some 30, some 31, some 32, some 33, some 34, some 35, some 36, some 37, some 38, some 39, some 40, some 41, some 42, some 43, some 44, some 45, some 46, some 47, some 48, some 49, some 50, some 51, some 52, some 53, some 54, some 55, some 56, some 57, some 58, some 59, some 60, some 61, some 62, some 63, some 64, some 65, some 66, some 67, some 68, some 69, some 70, some 71, some 72, some 73] rfl ?_
      simp only [zzK, Nat.reduceLT, Nat.reduceLeDiff, Nat.reduceBEq, Nat.reduceSub, S_getD, zz5, and_imp, imp_and, imp_self, zz19, zz23, F_off93_0, zzH, Nat.zero_add, Nat.reduceAdd, F_ok3, F_ag3, F_sz3, zz8, zzD, zzC, Option.map_some, yyE, reduceCtorEq, zz21, gr_v, zz28, evS_move, F_off93_1, zz13, pickK_l, pickK_r, F_off93_2, F_off93_3, F_off93_4, F_off93_5, F_off93_6, F_ok4, F_ag4, F_sz4, b_neqb, pure_neqb F_bool4, zz6, Nat.reduceEqDiff, ↓reduceIte]
      refine hK3 _ ?_; try clear hK3 K3
      refine awp_keepL [0, 1, 5, 73] ?_
      simp only [zzJ, Nat.reduceBEq]
      refine awp_condS _ (by decide) (by simp only [look_cons, Nat.reduceBEq, cond_true, cond_false]; rfl) ?_ ?_
      · intro hb
        simp at hb
      · intro hb
        clear hb
        refine awp_skip ?_
        simp only [zz6, Nat.reduceEqDiff, ↓reduceIte]
        refine hK2 _ ?_; try clear hK2 K2
        refine awp_keepL [0, 1, 5] ?_
        simp only [zzJ, Nat.reduceBEq]
        refine awp_plain F_mixed [some 17, some 18, some 5] rfl ?_
        simp only [zzK, Nat.reduceLT, Nat.reduceLeDiff, Nat.reduceBEq, evS_move, zz21, gr_v, zz26, evS_assign, zz6, Nat.reduceEqDiff, ↓reduceIte]
        refine ⟨post.length, _, by simp, le_SK id [] rfl (l' := [(0, .d (tradesB (pre ++ x :: post))), (1, .d (tradesB (pre ++ x :: post))), (5, .d (iv (pre ++ [x]).length))]) (m' := []) ?_ ?_ ?_ ?_, pre ++ [x], post, by simp, rfl, rfl⟩
        · simp only [leV, look_cons, Nat.reduceBEq, cond_true, cond_false, tradesB, len_map, wrap_len pre x (by simp at hl; omega)]; exact ⟨VLe.refl _, VLe.refl _, VLe.refl _, trivial⟩
        · exact trivial
        · simp [wfV, AV.ids, AV.idsL, lookR]
        · simp [wfR, AV.idsL, AV.ids]
    · intro hb
      clear hb
      refine awp_exit ?_
      simp only [zz6, Nat.reduceEqDiff, ↓reduceIte]
      refine hK0 _ ?_; try clear hK0 K0
      refine awp_keepL [] ?_
      simp only [zzJ, Nat.reduceBEq]
      refine awp_seq fun K0 hK0 => ?_
      refine awp_plain F_mixed [some 4] rfl ?_
      simp only [zzK, Nat.reduceLT, Nat.reduceLeDiff, Nat.reduceBEq, evS_assign, zz6, Nat.reduceEqDiff, ↓reduceIte]
      refine hK0 _ ?_; try clear hK0 K0
      refine awp_keepL [4] ?_
      simp only [zzJ, Nat.reduceBEq]
      refine awp_ret ?_
      simp only [zz6, Nat.reduceEqDiff, ↓reduceIte]
      refine done0 (by simp only [resCs, resC]; trivial) ?_ (by simp [flatA, flatAs, flatD]) (by simp [AV.ids, AV.idsL])
      simp only [List.map_cons, List.map_nil, resA, S_getD, Nat.reduceLT, Nat.reduceLeDiff, look_cons, Nat.reduceBEq, cond_true, cond_false, resAll]
      
theorem kBook_ (nx : Int) (ts : List TradeV) (ps : List PosV) (ht : ts.length ≤ 1000000) (hp : ps.length ≤ 1000000) : ACalls Try.prog 20 [.agg (bookC ⟨nx, ts, ps⟩), .agg (bookC ⟨nx, ts, ps⟩)] [] (bv true) := by
  refine acalls_S (rs := [.tmp 4]) Try.func20 rfl rfl 24 [(0, .d (.agg (bookC ⟨nx, ts, ps⟩))), (1, .d (.agg (bookC ⟨nx, ts, ps⟩)))] rfl (by simp) rfl ?_
  refine awp_seq fun K0 hK0 => ?_
  refine awp_plain F_mixed [some 2, some 3, some 4] rfl ?_
  simp only [zzK, Nat.reduceLT, Nat.reduceLeDiff, Nat.reduceBEq, zz35, newRow1, zz1, zzG, zzD, zzC, Option.map_some, yyE, reduceCtorEq, Nat.reduceAdd, Nat.zero_add, zzH, evS_assign, bookC, tradesB, poss, zz6, Nat.reduceEqDiff, ↓reduceIte]
  refine hK0 _ ?_; try clear hK0 K0
  refine awp_keepL [2, 3] ?_
  simp only [zzJ, Nat.reduceBEq]
  refine awp_seq fun K0 hK0 => ?_
  refine awp_plain F_mixed [some 5, some 6, some 7, some 8, some 9, some 10, some 11, some 12, some 13, some 14, some 15, some 16, some 17, some 18, some 19, some 20, some 21, some 22, some 23, some 4] rfl ?_
  simp only [zzK, Nat.reduceLT, Nat.reduceLeDiff, Nat.reduceBEq, Nat.reduceSub, S_getD, zz5, and_imp, imp_and, imp_self, zz19, zz23, F_off44_0, zzH, Nat.zero_add, Nat.reduceAdd, F_ok3, F_ag3, F_sz3, zz8, zzD, zzC, Option.map_some, yyE, reduceCtorEq, zz21, gr_v, zz34, evS_move, F_off44_1, F_ok41, F_ag41, F_sz41, evS_call, evC_value, zz13, pickK_l, pickK_r, F_off44_2, F_ok42, F_ag42, F_sz42, evS_assign, tradesB, poss, zz6, Nat.reduceEqDiff, ↓reduceIte]
  refine call_go F_go44 (fun hG => kTrades_ ts ht) (by simp [AV.ids, AV.idsL]) (by simp) ?_
  simp only [zzK, Nat.reduceLT, Nat.reduceLeDiff, Nat.reduceBEq, Nat.reduceSub, S_getD, zz5, and_imp, imp_and, imp_self, zz19, zz23, F_off44_0, zzH, Nat.zero_add, Nat.reduceAdd, F_ok3, F_ag3, F_sz3, zz8, zzD, zzC, Option.map_some, yyE, reduceCtorEq, zz21, gr_v, zz34, evS_move, F_off44_1, F_ok41, F_ag41, F_sz41, evS_call, evC_value, zz13, pickK_l, pickK_r, F_off44_2, F_ok42, F_ag42, F_sz42, evS_assign, tradesB, poss, zz6, Nat.reduceEqDiff, ↓reduceIte, atsL, oksG, freeN, AV.ren, AV.renL, addRows, ORow.row, Nat.reduceMul, Nat.reduceAdd, zz9, Option.bind_some, Option.map_some, S_mem, yyF, List.length_cons, zz2]
  refine call_go F_go45 (fun hG => kPoss_ ps hp) (by simp [AV.ids, AV.idsL]) (by simp) ?_
  simp only [zzK, Nat.reduceLT, Nat.reduceLeDiff, Nat.reduceBEq, Nat.reduceSub, S_getD, zz5, and_imp, imp_and, imp_self, zz19, zz23, F_off44_0, zzH, Nat.zero_add, Nat.reduceAdd, F_ok3, F_ag3, F_sz3, zz8, zzD, zzC, Option.map_some, yyE, reduceCtorEq, zz21, gr_v, zz34, evS_move, F_off44_1, F_ok41, F_ag41, F_sz41, evS_call, evC_value, zz13, pickK_l, pickK_r, F_off44_2, F_ok42, F_ag42, F_sz42, evS_assign, tradesB, poss, zz6, Nat.reduceEqDiff, ↓reduceIte, atsL, oksG, freeN, AV.ren, AV.renL, addRows, ORow.row, Nat.reduceMul, Nat.reduceAdd, zz9, Option.bind_some, Option.map_some, S_mem, yyF, List.length_cons, zz2]
  refine hK0 _ ?_; try clear hK0 K0
  refine awp_keepL [4] ?_
  simp only [zzJ, Nat.reduceBEq]
  refine awp_ret ?_
  simp only [zz6, Nat.reduceEqDiff, ↓reduceIte]
  refine done0 (by simp only [resCs, resC]; trivial) ?_ (by simp [flatA, flatAs, flatD]) (by simp [AV.ids, AV.idsL])
  simp only [List.map_cons, List.map_nil, resA, S_getD, Nat.reduceLT, Nat.reduceLeDiff, look_cons, Nat.reduceBEq, cond_true, cond_false, resAll]
  simp
theorem spoilPoss_ (l : List PosV) (hl : l.length ≤ 1000000) : MCalls Try.prog 47 [.m 0] [⟨25, 4, l.map posC⟩] [⟨25, 4, (l.map spoilP).map posC⟩] [] (.tp []) := by
  refine mcalls_S (rs := []) Try.func47 rfl rfl 14 [(0, .ref 1000000000 (l.map posC).length)] [(1000000000, (⟨True, 25, 4, true, false, 1000000000, (l.map posC).map (·.map .d)⟩ : ARow))] rfl (by simp) (by rfl) (by rfl) (by rfl) (by rfl) (by rfl) ?_
  simp only [avC_map, len_map]
  refine awp_seq fun K0 hK0 => ?_
  refine awp_plain F_mixed [some 2] rfl ?_
  simp only [zzK, Nat.reduceLT, Nat.reduceLeDiff, Nat.reduceBEq, evS_assign, zz6, Nat.reduceEqDiff, ↓reduceIte]
  refine hK0 _ ?_; try clear hK0 K0
  refine awp_keepL [0, 2] ?_
  simp only [zzJ, Nat.reduceBEq]
  refine awp_block ?_
  refine awp_loop (fun m s => ∃ A pre post : List PosV, l = pre ++ post ∧ A = pre.map spoilP ∧ m = post.length ∧ s = S 14 [(0, .ref 1000000000 (A ++ post).length), (2, .d (iv A.length))] [(1000000000, (⟨True, 25, 4, true, false, 1000000000, (A ++ post).map (avC posC)⟩ : ARow))]) l.length _ (le_SK id [] rfl (l' := [(0, .ref 1000000000 (([] : List PosV) ++ l).length), (2, .d (iv ([] : List PosV).length))]) (m' := [(1000000000, (⟨True, 25, 4, true, false, 1000000000, (([] : List PosV) ++ l).map (avC posC)⟩ : ARow))]) ?_ ?_ ?_ ?_) ⟨[], [], l, rfl, rfl, rfl, rfl⟩ ?_
  · simp only [leV, look_cons, Nat.reduceBEq, cond_true, cond_false]; exact ⟨VLe.refl _, VLe.refl _, trivial⟩
  · exact ⟨fun _ => ⟨_, rfl, RowLe.same (by simp) (idsL_avC _ _)⟩, fun h => by simp at h, trivial⟩
  · simp [wfV, AV.ids, lookR]
  · exact ⟨fun e he r' hr' => by rw [idsL_avC _ _ e he] at hr'; simp at hr', trivial⟩
  rintro m s ⟨A, pre, post, hsp, hA, rfl, rfl⟩
  refine awp_seq fun K1 hK1 => ?_
  refine awp_seq fun K2 hK2 => ?_
  refine awp_plain F_mixed [some 3, some 4, some 5, some 6] rfl ?_
  simp only [zzK, Nat.reduceLT, Nat.reduceLeDiff, Nat.reduceBEq, evS_move, evS_call, zz12, F_sl42, Option.isSome_some, zz21, gr_v, zz22, zz6, Nat.reduceEqDiff, ↓reduceIte]
  refine hK2 _ ?_; try clear hK2 K2
  refine awp_keepL [0, 2, 6] ?_
  simp only [zzJ, Nat.reduceBEq]
  refine awp_condS _ (by decide) (by simp only [look_cons, Nat.reduceBEq, cond_true, cond_false]; rfl) ?_ ?_
  · intro hb
    obtain ⟨x, post, rfl⟩ := more_of hb; clear hb
    have hw : IntKind.wrap .i64 ((A.length : Int) + 1) = ((A ++ [spoilP x]).length : Int) := by
      have e := congrArg List.length hsp
      simp only [List.length_append, List.length_cons] at e
      have e2 : A.length = pre.length := by rw [hA]; simp
      rw [wrapI (by omega) (by omega)]; simp
    refine awp_skip ?_
    simp only [zz6, Nat.reduceEqDiff, ↓reduceIte]
    refine hK1 _ ?_; try clear hK1 K1
    refine awp_keepL [0, 2] ?_
    simp only [zzJ, Nat.reduceBEq]
    refine awp_seq fun K1 hK1 => ?_
    refine awp_block ?_
    refine awp_plain F_mixed [some 9, some 10, some 11, some 12, some 13, none] rfl ?_
    simp only [zzK, Nat.reduceLT, Nat.reduceLeDiff, Nat.reduceBEq, evS_move, evS_indexAddr, zz23, zz24, F_sl42, F_sz25, Option.map_some, zzC, yyE, reduceCtorEq, zz19, F_off25_0, zzH, Nat.zero_add, Nat.reduceAdd, F_off23_0, zz18, F_ok3, F_sz3, splice, List.append_nil, zzD, zz1, zzG, getD_mid, len_map, lt_mid, ge_mid, lt_midN, set_mid, avC, posC, List.map_cons, zz6, Nat.reduceEqDiff, ↓reduceIte]
    refine hK1 _ ?_; try clear hK1 K1
    refine awp_keepL [0, 2] ?_
    simp only [zzJ, Nat.reduceBEq]
    refine awp_plain F_mixed [some 7, some 8, some 2] rfl ?_
    simp only [zzK, Nat.reduceLT, Nat.reduceLeDiff, Nat.reduceBEq, evS_move, zz21, gr_v, zz26, evS_assign, zz6, Nat.reduceEqDiff, ↓reduceIte]
    refine ⟨post.length, _, by simp, le_SK id [] rfl (l' := [(0, .ref 1000000000 ((A ++ [spoilP x]) ++ post).length), (2, .d (iv (A ++ [spoilP x]).length))]) (m' := [(1000000000, (⟨True, 25, 4, true, false, 1000000000, ((A ++ [spoilP x]) ++ post).map (avC posC)⟩ : ARow))]) ?_ ?_ ?_ ?_, A ++ [spoilP x], pre ++ [x], post, by simp [hsp], by simp [hA], rfl, rfl⟩
    · simp only [leV, look_cons, Nat.reduceBEq, cond_true, cond_false, hw]
      refine ⟨?_, VLe.refl _, trivial⟩
      rw [show (A ++ x :: post).length = (A ++ [spoilP x] ++ post).length from by simp]; exact VLe.refl _
    · exact ⟨fun _ => ⟨_, rfl, RowLe.same (by simp [avC, posC, spoilP]) (by
        intro e he
        rcases List.mem_append.1 he with he | he
        · exact idsL_avC _ _ e he
        · rcases List.mem_cons.1 he with rfl | he
          · simp [AV.idsL, AV.ids]
          · exact idsL_avC _ _ e he)⟩, fun h => by simp at h, trivial⟩
    · simp [wfV, AV.ids, lookR]
    · exact ⟨fun e he r' hr' => by rw [idsL_avC _ _ e he] at hr'; simp at hr', trivial⟩
  · intro hb
    obtain rfl := none_of hb; clear hb
    simp only [List.append_nil] at hsp ⊢
    obtain rfl : l = pre := hsp
    subst hA
    refine awp_exit ?_
    simp only [zz6, Nat.reduceEqDiff, ↓reduceIte]
    try simp only [List.append_nil]
    refine doneM [] (by simp [resCs, resC, S, List.getD, look_cons, lookR, ]) ?_ (by simp [flatA, flatAs, flatD, ]) (by simp [AV.ids, AV.idsL, ]) (by decide) (by simp) ?_ ?_
    · simp only [List.map_cons, List.map_nil, resA, S_getD, S_mem, lookR_cons, lookR_nil, Nat.reduceLT, Nat.reduceLeDiff, look_cons, Nat.reduceBEq, cond_true, cond_false, resAll, List.getD_cons_zero, List.getD_cons_succ, List.drop_zero, List.drop_succ_cons, List.take_succ_cons, List.take_zero, ]; rfl
    · exact trivial
    · exact ⟨⟨_, rfl, trivial, rfl, rfl, (avC_map _ _).symm⟩, by simp [flatDs, flatD, posC, spoilP], trivial⟩
theorem spoilBook_ (nx : Int) (l : List TradeV) (ps : List PosV) (hl : l.length ≤ 1000000) (hp : ps.length ≤ 1000000) : MCalls Try.prog 22 [.a (.ag [.d (iv nx), .ref 0 l.length, .ref 1 ps.length])] [⟨93, 7, l.map tradeC⟩, ⟨25, 4, ps.map posC⟩] [⟨93, 7, (l.map spoilT).map tradeC⟩, ⟨25, 4, (ps.map spoilP).map posC⟩] [] (.tp []) := by
  refine mcalls_S (rs := []) Try.func22 rfl rfl 18 [(0, .ag [.d (iv nx), .ref 1000000000 l.length, .ref 1000000001 ps.length])] [(1000000000, (⟨True, 93, 7, true, false, 1000000000, (l.map tradeC).map (·.map .d)⟩ : ARow)), (1000000001, (⟨True, 25, 4, true, false, 1000000001, (ps.map posC).map (·.map .d)⟩ : ARow))] rfl (by simp) (by rfl) (by rfl) (by rfl) (by rfl) (by rfl) ?_
  rw [avC_map tradeC l]
  refine awp_seq fun K0 hK0 => ?_
  refine awp_plain F_mixed [some 1] rfl ?_
  simp only [zzK, Nat.reduceLT, Nat.reduceLeDiff, Nat.reduceBEq, zz35, newRow1, zz1, zzG, zzD, zzC, Option.map_some, yyE, reduceCtorEq, Nat.reduceAdd, Nat.zero_add, zzH, zz6, Nat.reduceEqDiff, ↓reduceIte]
  refine hK0 _ ?_; try clear hK0 K0
  refine awp_keepL [1] ?_
  simp only [zzJ, Nat.reduceBEq]
  refine awp_seq fun K0 hK0 => ?_
  refine awp_seq fun K1 hK1 => ?_
  refine awp_plain F_mixed [some 2] rfl ?_
  simp only [zzK, Nat.reduceLT, Nat.reduceLeDiff, Nat.reduceBEq, evS_assign, zz6, Nat.reduceEqDiff, ↓reduceIte]
  refine hK1 _ ?_; try clear hK1 K1
  refine awp_keepL [1, 2] ?_
  simp only [zzJ, Nat.reduceBEq]
  refine awp_block ?_
  refine awp_loop (fun m s => ∃ A pre post : List TradeV, l = pre ++ post ∧ A = pre.map spoilT ∧ m = post.length ∧ s = S 18 [(1, .ptr 1 0 0), (2, .d (iv A.length))] [(1, (⟨True, 44, 3, true, false, 1, [[.d (iv nx), .ref 1000000000 (A ++ post).length, .ref 1000000001 ps.length]]⟩ : ARow)), (1000000000, (⟨True, 93, 7, true, false, 1000000000, (A ++ post).map (avC tradeC)⟩ : ARow)), (1000000001, (⟨True, 25, 4, true, false, 1000000001, (ps.map posC).map (·.map .d)⟩ : ARow))]) l.length _ (le_SK id [] rfl (l' := [(1, .ptr 1 0 0), (2, .d (iv ([] : List TradeV).length))]) (m' := [(1, (⟨True, 44, 3, true, false, 1, [[.d (iv nx), .ref 1000000000 (([] : List TradeV) ++ l).length, .ref 1000000001 ps.length]]⟩ : ARow)), (1000000000, (⟨True, 93, 7, true, false, 1000000000, (([] : List TradeV) ++ l).map (avC tradeC)⟩ : ARow)), (1000000001, (⟨True, 25, 4, true, false, 1000000001, (ps.map posC).map (·.map .d)⟩ : ARow))]) ?_ ?_ ?_ ?_) ⟨[], [], l, rfl, rfl, rfl, rfl⟩ ?_
  · simp only [leV, look_cons, Nat.reduceBEq, cond_true, cond_false]; exact ⟨VLe.refl _, VLe.refl _, trivial⟩
  · exact ⟨fun _ => ⟨_, rfl, RowLe.cells (VLess.one_ (VLes.cons_ (VLe.dE rfl) (VLes.cons_ (VLe.refE (by simp) (by rfl) (by simp)) (VLes.cons_ (VLe.refE (by simp) (by rfl) (by first | rfl | simp)) VLes.nil_))))⟩, fun h => by simp at h, fun _ => ⟨_, rfl, RowLe.same (by simp) (idsL_avC _ _)⟩, fun h => by simp at h, fun _ => ⟨_, rfl, RowLe.uq2 rfl (by simp) ids_data⟩, fun h => by simp at h, trivial⟩
  · simp [wfV, AV.ids, lookR]
  · exact ⟨by simp [AV.idsL, AV.ids, lookR], fun e he r' hr' => by rw [idsL_avC _ _ e he] at hr'; simp at hr', wf_data _ _, trivial⟩
  rintro m s ⟨A, pre, post, hsp, hA, rfl, rfl⟩
  refine awp_seq fun K2 hK2 => ?_
  refine awp_seq fun K3 hK3 => ?_
  refine awp_plain F_mixed [some 3, some 4, some 5, some 6, some 7] rfl ?_
  simp only [zzK, Nat.reduceLT, Nat.reduceLeDiff, Nat.reduceBEq, evS_move, zz19, zz23, F_off44_1, zzH, Nat.zero_add, Nat.reduceAdd, F_ok41, F_ag41, F_sz41, zz8, zzD, zzC, Option.map_some, yyE, reduceCtorEq, evS_call, zz12, F_sl41, Option.isSome_some, zz21, gr_v, zz22, len_map, zz6, Nat.reduceEqDiff, ↓reduceIte]
  refine hK3 _ ?_; try clear hK3 K3
  refine awp_keepL [1, 2, 7] ?_
  simp only [zzJ, Nat.reduceBEq]
  refine awp_condS _ (by decide) (by simp only [look_cons, Nat.reduceBEq, cond_true, cond_false]; rfl) ?_ ?_
  · intro hb
    obtain ⟨x, post, rfl⟩ := more_of hb; clear hb
    have hw : IntKind.wrap .i64 ((A.length : Int) + 1) = ((A ++ [spoilT x]).length : Int) := by
      have e := congrArg List.length hsp
      simp only [List.length_append, List.length_cons] at e
      have e2 : A.length = pre.length := by rw [hA]; simp
      rw [wrapI (by omega) (by omega)]; simp
    refine awp_skip ?_
    simp only [zz6, Nat.reduceEqDiff, ↓reduceIte]
    refine hK2 _ ?_; try clear hK2 K2
    refine awp_keepL [1, 2] ?_
    simp only [zzJ, Nat.reduceBEq]
    refine awp_seq fun K2 hK2 => ?_
    refine awp_block ?_
    refine awp_plain F_mixed [some 10, some 11, some 12, some 13, some 14, none] rfl ?_
    simp only [zzK, Nat.reduceLT, Nat.reduceLeDiff, Nat.reduceBEq, zz19, zz23, F_off44_1, zzH, Nat.zero_add, Nat.reduceAdd, F_ok41, F_ag41, F_sz41, zz8, zzD, zzC, Option.map_some, yyE, reduceCtorEq, evS_move, evS_indexAddr, zz24, F_sl41, F_sz93, F_off93_0, zz18, F_ok3, F_sz3, splice, List.append_nil, zz1, zzG, getD_mid, len_map, lt_mid, ge_mid, lt_midN, set_mid, avC, tradeC, List.map_cons, zz6, Nat.reduceEqDiff, ↓reduceIte]
    refine hK2 _ ?_; try clear hK2 K2
    refine awp_keepL [1, 2] ?_
    simp only [zzJ, Nat.reduceBEq]
    refine awp_plain F_mixed [some 8, some 9, some 2] rfl ?_
    simp only [zzK, Nat.reduceLT, Nat.reduceLeDiff, Nat.reduceBEq, evS_move, zz21, gr_v, zz26, evS_assign, zz6, Nat.reduceEqDiff, ↓reduceIte]
    refine ⟨post.length, _, by simp, le_SK id [] rfl (l' := [(1, .ptr 1 0 0), (2, .d (iv (A ++ [spoilT x]).length))]) (m' := [(1, (⟨True, 44, 3, true, false, 1, [[.d (iv nx), .ref 1000000000 ((A ++ [spoilT x]) ++ post).length, .ref 1000000001 ps.length]]⟩ : ARow)), (1000000000, (⟨True, 93, 7, true, false, 1000000000, ((A ++ [spoilT x]) ++ post).map (avC tradeC)⟩ : ARow)), (1000000001, (⟨True, 25, 4, true, false, 1000000001, (ps.map posC).map (·.map .d)⟩ : ARow))]) ?_ ?_ ?_ ?_, A ++ [spoilT x], pre ++ [x], post, by simp [hsp], by simp [hA], rfl, rfl⟩
    · simp only [leV, look_cons, Nat.reduceBEq, cond_true, cond_false, hw]
      exact ⟨VLe.refl _, VLe.refl _, trivial⟩
    · exact ⟨fun _ => ⟨_, rfl, RowLe.cells (VLess.one_ (VLes.cons_ (VLe.dE rfl) (VLes.cons_ (VLe.refE (by simp) (by rfl) (by simp)) (VLes.cons_ (VLe.refE (by simp) (by rfl) (by first | rfl | simp)) VLes.nil_))))⟩, fun h => by simp at h, fun _ => ⟨_, rfl, RowLe.same (by simp [avC, tradeC, spoilT]) (by
        intro e he
        rcases List.mem_append.1 he with he | he
        · exact idsL_avC _ _ e he
        · rcases List.mem_cons.1 he with rfl | he
          · simp [AV.idsL, AV.ids]
          · exact idsL_avC _ _ e he)⟩, fun h => by simp at h, fun _ => ⟨_, rfl, RowLe.uq2 rfl (by simp) ids_data⟩, fun h => by simp at h, trivial⟩
    · simp [wfV, AV.ids, lookR]
    · exact ⟨by simp [AV.idsL, AV.ids, lookR], fun e he r' hr' => by rw [idsL_avC _ _ e he] at hr'; simp at hr', wf_data _ _, trivial⟩
  · intro hb
    obtain rfl := none_of hb; clear hb
    simp only [List.append_nil] at hsp ⊢
    obtain rfl : l = pre := hsp
    subst hA
    refine awp_exit ?_
    simp only [zz6, Nat.reduceEqDiff, ↓reduceIte]
    refine hK0 _ ?_; try clear hK0 K0
    refine awp_keepL [1] ?_
    simp only [zzJ, Nat.reduceBEq]
    refine awp_mut [some 15, some 16, some 17] rfl 2 rfl ?_
    simp only [zzK, Nat.reduceLT, Nat.reduceLeDiff, Nat.reduceBEq, zz19, zz23, F_off44_2, zzH, Nat.zero_add, Nat.reduceAdd, F_ok42, F_ag42, F_sz42, zz8, zzD, zzC, Option.map_some, yyE, reduceCtorEq, evS_call, evC_value, len_map, zz6, Nat.reduceEqDiff, ↓reduceIte]
    refine mut_go [1000000001] F_go47 (spoilPoss_ ps hp) (by simp [AV.ids, AV.idsL]) (by decide) (by first | exact ⟨by decide, by simp⟩ | rfl) ?_
    simp only [zzK, Nat.reduceLT, Nat.reduceLeDiff, Nat.reduceBEq, zz19, zz23, F_off44_2, zzH, Nat.zero_add, Nat.reduceAdd, F_ok42, F_ag42, F_sz42, zz8, zzD, zzC, Option.map_some, yyE, reduceCtorEq, evS_call, evC_value, len_map, zz6, Nat.reduceEqDiff, ↓reduceIte, mArgs_nil, asE_cl, asF_cl, asD_ptr, asG_ptr, asD_ep, asG_ep, List.mem_singleton, forall_eq, asEc_cons, asEc_nil, mArgs_d, mArgs_m, mRows_nil, mRows_cons, mNewL, nxM, mBase, mName, oksL, List.getElem?_cons_zero, List.getElem?_cons_succ, asE_ag, asE_d, asE_ref, asEc_cons, asEc_nil, asF_d, asF_ref, asF_ag, asGs, AV.ids, AV.idsL, List.length_singleton, List.not_mem_nil, false_implies, forall_const, atsL, asD_self, asD_nil, asD_sl, asD_agg, asD_int, asD_bool, asD_func, asD_ag, asD_ref, asG_d, asG_ag, asG_ref, freeN, AV.ren, AV.renL, addRows, ORow.row, Nat.reduceMul, Nat.reduceAdd, zz9, Option.bind_some, Option.map_some, S_mem, yyF, List.length_cons, S_func, Sk_func]
    first | refine ⟨by simp [flatDs, flatD, posC, spoilP], ?_⟩ | skip
    try simp only [List.append_nil]
    refine doneM [] (by simp [resCs, resC, S, List.getD, look_cons, lookR, ]) ?_ (by simp [flatA, flatAs, flatD, ]) (by simp [AV.ids, AV.idsL, ]) (by decide) (by simp) ?_ ?_
    · simp only [List.map_cons, List.map_nil, resA, S_getD, S_mem, lookR_cons, lookR_nil, Nat.reduceLT, Nat.reduceLeDiff, look_cons, Nat.reduceBEq, cond_true, cond_false, resAll, List.getD_cons_zero, List.getD_cons_succ, List.drop_zero, List.drop_succ_cons, List.take_succ_cons, List.take_zero, ]; rfl
    · exact trivial
    · exact ⟨⟨_, rfl, trivial, rfl, rfl, (avC_map _ _).symm⟩, by simp [flatDs, flatD, tradeC, spoilT], ⟨_, rfl, trivial, rfl, rfl, rfl⟩, by simp [flatDs, flatD, posC, spoilP], trivial⟩
theorem kMems_ (l : List MemV) (hl : l.length ≤ 1000000) : ACalls Try.prog 48 [memsD l, memsD l] [] (bv true) := by
  refine acalls_S (rs := [.tmp 4]) Try.func48 rfl rfl 54 [(0, .d (memsD l)), (1, .d (memsD l))] rfl (by simp) rfl ?_
  refine awp_seq fun K0 hK0 => ?_
  refine awp_plain F_mixed [some 4] rfl ?_
  simp only [zzK, Nat.reduceLT, Nat.reduceLeDiff, Nat.reduceBEq, evS_assign, zz6, Nat.reduceEqDiff, ↓reduceIte]
  refine hK0 _ ?_; try clear hK0 K0
  refine awp_keepL [0, 1] ?_
  simp only [zzJ, Nat.reduceBEq]
  refine awp_seq fun K0 hK0 => ?_
  refine awp_seq fun K1 hK1 => ?_
  refine awp_plain F_mixed [some 6, some 7, some 8, some 9, some 10] rfl ?_
  simp only [zzK, Nat.reduceLT, Nat.reduceLeDiff, Nat.reduceBEq, evS_move, evS_call, zz12, F_sl36, Option.isSome_some, zz21, gr_v, zz28, memsD, len_map, zz6, Nat.reduceEqDiff, ↓reduceIte]
  refine hK1 _ ?_; try clear hK1 K1
  refine awp_keepL [0, 1, 10] ?_
  simp only [zzJ, Nat.reduceBEq]
  refine awp_condS _ (by decide) (by simp only [look_cons, Nat.reduceBEq, cond_true, cond_false]; rfl) ?_ ?_
  · intro hb
    simp at hb
  · intro hb
    clear hb
    refine awp_skip ?_
    simp only [zz6, Nat.reduceEqDiff, ↓reduceIte]
    refine hK0 _ ?_; try clear hK0 K0
    refine awp_keepL [0, 1] ?_
    simp only [zzJ, Nat.reduceBEq]
    refine awp_seq fun K0 hK0 => ?_
    refine awp_seq fun K1 hK1 => ?_
    refine awp_plain F_mixed [some 5] rfl ?_
    simp only [zzK, Nat.reduceLT, Nat.reduceLeDiff, Nat.reduceBEq, evS_assign, zz6, Nat.reduceEqDiff, ↓reduceIte]
    refine hK1 _ ?_; try clear hK1 K1
    refine awp_keepL [0, 1, 5] ?_
    simp only [zzJ, Nat.reduceBEq]
    refine awp_block ?_
    refine awp_loop (fun m s => ∃ pre post : List MemV, l = pre ++ post ∧ m = post.length ∧ s = S 54 [(0, .d (memsD l)), (1, .d (memsD l)), (5, .d (iv pre.length))] []) l.length _ (le_SK id [] rfl (l' := [(0, .d (memsD l)), (1, .d (memsD l)), (5, .d (iv ([] : List MemV).length))]) (m' := []) ?_ ?_ ?_ ?_) ⟨[], l, rfl, rfl, rfl⟩ ?_
    · simp only [leV, look_cons, Nat.reduceBEq, cond_true, cond_false, memsD, len_map]; exact ⟨VLe.refl _, VLe.refl _, VLe.refl _, trivial⟩
    · exact trivial
    · simp [wfV, AV.ids, AV.idsL, lookR]
    · simp [wfR, AV.idsL, AV.ids]
    rintro m s ⟨pre, post, rfl, rfl, rfl⟩
    refine awp_seq fun K2 hK2 => ?_
    refine awp_seq fun K3 hK3 => ?_
    refine awp_plain F_mixed [some 11, some 12, some 13, some 14] rfl ?_
    simp only [zzK, Nat.reduceLT, Nat.reduceLeDiff, Nat.reduceBEq, evS_move, evS_call, zz12, F_sl36, Option.isSome_some, zz21, gr_v, zz22, memsD, len_map, zz6, Nat.reduceEqDiff, ↓reduceIte]
    refine hK3 _ ?_; try clear hK3 K3
    refine awp_keepL [0, 1, 5, 14] ?_
    simp only [zzJ, Nat.reduceBEq]
    refine awp_condS _ (by decide) (by simp only [look_cons, Nat.reduceBEq, cond_true, cond_false]; rfl) ?_ ?_
    · intro hb
      obtain ⟨x, post, rfl⟩ := more_of hb; clear hb
      refine awp_skip ?_
      simp only [zz6, Nat.reduceEqDiff, ↓reduceIte]
      refine hK2 _ ?_; try clear hK2 K2
      refine awp_keepL [0, 1, 5] ?_
      simp only [zzJ, Nat.reduceBEq]
      refine awp_seq fun K2 hK2 => ?_
      refine awp_block ?_
      refine awp_seq fun K3 hK3 => ?_
      refine awp_draw F_mixed [some 17, some 18, some 19, some 20, some 21, some 22, some 23, some 24, some 25, some 26, some 27, some 28, some 29, some 30, some 31, some 32, some 33, some 34, some 35, some 36, some 37, some 38, some 39, some 40, some 41, some 42, some 43, some 44, some 45, some 46, some 47, some 48, some 49, some 50, some 51, some 52, some 53] rfl (by kernel_rfl) ?_
      simp only [zzK, Nat.reduceLT, Nat.reduceLeDiff, Nat.reduceBEq, Nat.reduceSub, S_getD, zz5, and_imp, imp_and, imp_self, evS_move, evS_indexAddr, zz23, zz24, F_sl36, F_sz107, Option.map_some, zzC, yyE, reduceCtorEq, zz19, F_off107_0, zzH, Nat.zero_add, Nat.reduceAdd, F_ok3, F_ag3, F_sz3, zz8, zzD, zz21, gr_v, zz28, F_off107_1, zz13, pickK_l, pickK_r, F_off107_2, memsD, memC, getD_mid, len_map, lt_mid, ge_mid, D.agg.injEq, zz6, Nat.reduceEqDiff, ↓reduceIte]
      refine hK3 _ ?_; try clear hK3 K3
      refine awp_keepL [0, 1, 5, 53] ?_
      simp only [zzJ, Nat.reduceBEq]
      refine awp_condS _ (by decide) (by simp only [look_cons, Nat.reduceBEq, cond_true, cond_false]; rfl) ?_ ?_
      · intro hb
        simp at hb
      · intro hb
        clear hb
        refine awp_skip ?_
        simp only [zz6, Nat.reduceEqDiff, ↓reduceIte]
        refine hK2 _ ?_; try clear hK2 K2
        refine awp_keepL [0, 1, 5] ?_
        simp only [zzJ, Nat.reduceBEq]
        refine awp_plain F_mixed [some 15, some 16, some 5] rfl ?_
        simp only [zzK, Nat.reduceLT, Nat.reduceLeDiff, Nat.reduceBEq, evS_move, zz21, gr_v, zz26, evS_assign, zz6, Nat.reduceEqDiff, ↓reduceIte]
        refine ⟨post.length, _, by simp, le_SK id [] rfl (l' := [(0, .d (memsD (pre ++ x :: post))), (1, .d (memsD (pre ++ x :: post))), (5, .d (iv (pre ++ [x]).length))]) (m' := []) ?_ ?_ ?_ ?_, pre ++ [x], post, by simp, rfl, rfl⟩
        · simp only [leV, look_cons, Nat.reduceBEq, cond_true, cond_false, memsD, len_map, wrap_len pre x (by simp at hl; omega)]; exact ⟨VLe.refl _, VLe.refl _, VLe.refl _, trivial⟩
        · exact trivial
        · simp [wfV, AV.ids, AV.idsL, lookR]
        · simp [wfR, AV.idsL, AV.ids]
    · intro hb
      clear hb
      refine awp_exit ?_
      simp only [zz6, Nat.reduceEqDiff, ↓reduceIte]
      refine hK0 _ ?_; try clear hK0 K0
      refine awp_keepL [] ?_
      simp only [zzJ, Nat.reduceBEq]
      refine awp_seq fun K0 hK0 => ?_
      refine awp_plain F_mixed [some 4] rfl ?_
      simp only [zzK, Nat.reduceLT, Nat.reduceLeDiff, Nat.reduceBEq, evS_assign, zz6, Nat.reduceEqDiff, ↓reduceIte]
      refine hK0 _ ?_; try clear hK0 K0
      refine awp_keepL [4] ?_
      simp only [zzJ, Nat.reduceBEq]
      refine awp_ret ?_
      simp only [zz6, Nat.reduceEqDiff, ↓reduceIte]
      refine done0 (by simp only [resCs, resC]; trivial) ?_ (by simp [flatA, flatAs, flatD]) (by simp [AV.ids, AV.idsL])
      simp only [List.map_cons, List.map_nil, resA, S_getD, Nat.reduceLT, Nat.reduceLeDiff, look_cons, Nat.reduceBEq, cond_true, cond_false, resAll]
      
theorem kInst_ (i : InstV) : ACalls Try.prog 78 [.agg (instC i), .agg (instC i)] [] (bv true) := by
  refine acalls_S (rs := [.tmp 4]) Try.func78 rfl rfl 59 [(0, .d (.agg (instC i))), (1, .d (.agg (instC i)))] rfl (by simp) rfl ?_
  refine awp_seq fun K0 hK0 => ?_
  refine awp_plain F_mixed [some 2, some 3, some 4] rfl ?_
  simp only [zzK, Nat.reduceLT, Nat.reduceLeDiff, Nat.reduceBEq, zz35, newRow1, zz1, zzG, zzD, zzC, Option.map_some, yyE, reduceCtorEq, Nat.reduceAdd, Nat.zero_add, zzH, evS_assign, instC, zz6, Nat.reduceEqDiff, ↓reduceIte]
  refine hK0 _ ?_; try clear hK0 K0
  refine awp_keepL [2, 3] ?_
  simp only [zzJ, Nat.reduceBEq]
  refine awp_seq fun K0 hK0 => ?_
  refine awp_seq fun K1 hK1 => ?_
  refine awp_plain F_mixed [some 5] rfl ?_
  simp only [zzK, Nat.reduceLT, Nat.reduceLeDiff, Nat.reduceBEq, evS_assign, zz6, Nat.reduceEqDiff, ↓reduceIte]
  refine hK1 _ ?_; try clear hK1 K1
  refine awp_keepL [2, 3, 5] ?_
  simp only [zzJ, Nat.reduceBEq]
  refine awp_block ?_
  refine awp_loop (fun m s => (m = 6 ∧ s = S 59 [(2, .ptr 2 0 0), (3, .ptr 3 0 0), (5, .d (iv 0))] [(2, (⟨True, 33, 12, true, false, 2, [[.d (iv i.no), .d (iv i.cur), .d (iv i.mult), .d (iv i.add), .d (iv i.set), .d (iv i.price), .d (iv i.s0), .d (iv i.s1), .d (iv i.s2), .d (iv i.s3), .d (iv i.s4), .d (iv i.s5)]]⟩ : ARow)), (3, (⟨True, 33, 12, true, false, 3, [[.d (iv i.no), .d (iv i.cur), .d (iv i.mult), .d (iv i.add), .d (iv i.set), .d (iv i.price), .d (iv i.s0), .d (iv i.s1), .d (iv i.s2), .d (iv i.s3), .d (iv i.s4), .d (iv i.s5)]]⟩ : ARow))]) ∨ (m = 5 ∧ s = S 59 [(2, .ptr 2 0 0), (3, .ptr 3 0 0), (5, .d (iv 1))] [(2, (⟨True, 33, 12, true, false, 2, [[.d (iv i.no), .d (iv i.cur), .d (iv i.mult), .d (iv i.add), .d (iv i.set), .d (iv i.price), .d (iv i.s0), .d (iv i.s1), .d (iv i.s2), .d (iv i.s3), .d (iv i.s4), .d (iv i.s5)]]⟩ : ARow)), (3, (⟨True, 33, 12, true, false, 3, [[.d (iv i.no), .d (iv i.cur), .d (iv i.mult), .d (iv i.add), .d (iv i.set), .d (iv i.price), .d (iv i.s0), .d (iv i.s1), .d (iv i.s2), .d (iv i.s3), .d (iv i.s4), .d (iv i.s5)]]⟩ : ARow))]) ∨ (m = 4 ∧ s = S 59 [(2, .ptr 2 0 0), (3, .ptr 3 0 0), (5, .d (iv 2))] [(2, (⟨True, 33, 12, true, false, 2, [[.d (iv i.no), .d (iv i.cur), .d (iv i.mult), .d (iv i.add), .d (iv i.set), .d (iv i.price), .d (iv i.s0), .d (iv i.s1), .d (iv i.s2), .d (iv i.s3), .d (iv i.s4), .d (iv i.s5)]]⟩ : ARow)), (3, (⟨True, 33, 12, true, false, 3, [[.d (iv i.no), .d (iv i.cur), .d (iv i.mult), .d (iv i.add), .d (iv i.set), .d (iv i.price), .d (iv i.s0), .d (iv i.s1), .d (iv i.s2), .d (iv i.s3), .d (iv i.s4), .d (iv i.s5)]]⟩ : ARow))]) ∨ (m = 3 ∧ s = S 59 [(2, .ptr 2 0 0), (3, .ptr 3 0 0), (5, .d (iv 3))] [(2, (⟨True, 33, 12, true, false, 2, [[.d (iv i.no), .d (iv i.cur), .d (iv i.mult), .d (iv i.add), .d (iv i.set), .d (iv i.price), .d (iv i.s0), .d (iv i.s1), .d (iv i.s2), .d (iv i.s3), .d (iv i.s4), .d (iv i.s5)]]⟩ : ARow)), (3, (⟨True, 33, 12, true, false, 3, [[.d (iv i.no), .d (iv i.cur), .d (iv i.mult), .d (iv i.add), .d (iv i.set), .d (iv i.price), .d (iv i.s0), .d (iv i.s1), .d (iv i.s2), .d (iv i.s3), .d (iv i.s4), .d (iv i.s5)]]⟩ : ARow))]) ∨ (m = 2 ∧ s = S 59 [(2, .ptr 2 0 0), (3, .ptr 3 0 0), (5, .d (iv 4))] [(2, (⟨True, 33, 12, true, false, 2, [[.d (iv i.no), .d (iv i.cur), .d (iv i.mult), .d (iv i.add), .d (iv i.set), .d (iv i.price), .d (iv i.s0), .d (iv i.s1), .d (iv i.s2), .d (iv i.s3), .d (iv i.s4), .d (iv i.s5)]]⟩ : ARow)), (3, (⟨True, 33, 12, true, false, 3, [[.d (iv i.no), .d (iv i.cur), .d (iv i.mult), .d (iv i.add), .d (iv i.set), .d (iv i.price), .d (iv i.s0), .d (iv i.s1), .d (iv i.s2), .d (iv i.s3), .d (iv i.s4), .d (iv i.s5)]]⟩ : ARow))]) ∨ (m = 1 ∧ s = S 59 [(2, .ptr 2 0 0), (3, .ptr 3 0 0), (5, .d (iv 5))] [(2, (⟨True, 33, 12, true, false, 2, [[.d (iv i.no), .d (iv i.cur), .d (iv i.mult), .d (iv i.add), .d (iv i.set), .d (iv i.price), .d (iv i.s0), .d (iv i.s1), .d (iv i.s2), .d (iv i.s3), .d (iv i.s4), .d (iv i.s5)]]⟩ : ARow)), (3, (⟨True, 33, 12, true, false, 3, [[.d (iv i.no), .d (iv i.cur), .d (iv i.mult), .d (iv i.add), .d (iv i.set), .d (iv i.price), .d (iv i.s0), .d (iv i.s1), .d (iv i.s2), .d (iv i.s3), .d (iv i.s4), .d (iv i.s5)]]⟩ : ARow))]) ∨ (m = 0 ∧ s = S 59 [(2, .ptr 2 0 0), (3, .ptr 3 0 0), (5, .d (iv 6))] [(2, (⟨True, 33, 12, true, false, 2, [[.d (iv i.no), .d (iv i.cur), .d (iv i.mult), .d (iv i.add), .d (iv i.set), .d (iv i.price), .d (iv i.s0), .d (iv i.s1), .d (iv i.s2), .d (iv i.s3), .d (iv i.s4), .d (iv i.s5)]]⟩ : ARow)), (3, (⟨True, 33, 12, true, false, 3, [[.d (iv i.no), .d (iv i.cur), .d (iv i.mult), .d (iv i.add), .d (iv i.set), .d (iv i.price), .d (iv i.s0), .d (iv i.s1), .d (iv i.s2), .d (iv i.s3), .d (iv i.s4), .d (iv i.s5)]]⟩ : ARow))])) 6 _ (le_SK id [] rfl (l' := [(2, .ptr 2 0 0), (3, .ptr 3 0 0), (5, .d (iv 0))]) (m' := [(2, (⟨True, 33, 12, true, false, 2, [[.d (iv i.no), .d (iv i.cur), .d (iv i.mult), .d (iv i.add), .d (iv i.set), .d (iv i.price), .d (iv i.s0), .d (iv i.s1), .d (iv i.s2), .d (iv i.s3), .d (iv i.s4), .d (iv i.s5)]]⟩ : ARow)), (3, (⟨True, 33, 12, true, false, 3, [[.d (iv i.no), .d (iv i.cur), .d (iv i.mult), .d (iv i.add), .d (iv i.set), .d (iv i.price), .d (iv i.s0), .d (iv i.s1), .d (iv i.s2), .d (iv i.s3), .d (iv i.s4), .d (iv i.s5)]]⟩ : ARow))]) ?_ ?_ ?_ ?_) (.inl (⟨rfl, rfl⟩)) ?_
  · simp only [leV, look_cons, Nat.reduceBEq, cond_true, cond_false]; exact ⟨VLe.refl _, VLe.refl _, VLe.refl _, trivial⟩
  · exact ⟨fun _ => ⟨_, rfl, ⟨id, rfl, rfl, fun _ => rfl, id, .inl, VLess.refl _⟩⟩, fun h => by simp at h, fun _ => ⟨_, rfl, ⟨id, rfl, rfl, fun _ => rfl, id, .inl, VLess.refl _⟩⟩, fun h => by simp at h, trivial⟩
  · simp [wfV, AV.ids, AV.idsL, lookR]
  · simp [wfR, AV.idsL, AV.ids]
  rintro m s (⟨rfl, rfl⟩ | ⟨rfl, rfl⟩ | ⟨rfl, rfl⟩ | ⟨rfl, rfl⟩ | ⟨rfl, rfl⟩ | ⟨rfl, rfl⟩ | ⟨rfl, rfl⟩)
  · skip
    refine awp_seq fun K2 hK2 => ?_
    refine awp_seq fun K3 hK3 => ?_
    refine awp_plain F_mixed [some 6, some 7] rfl ?_
    simp only [zzK, Nat.reduceLT, Nat.reduceLeDiff, Nat.reduceBEq, evS_move, zz21, gr_v, zz22, zz6, Nat.reduceEqDiff, ↓reduceIte]
    refine hK3 _ ?_; try clear hK3 K3
    refine awp_keepL [2, 3, 5, 7] ?_
    simp only [zzJ, Nat.reduceBEq]
    refine awp_condS _ (by decide) (by simp only [look_cons, Nat.reduceBEq, cond_true, cond_false]; rfl) ?_ ?_
    · intro hb
      clear hb
      refine awp_skip ?_
      simp only [zz6, Nat.reduceEqDiff, ↓reduceIte]
      refine hK2 _ ?_; try clear hK2 K2
      refine awp_keepL [2, 3, 5] ?_
      simp only [zzJ, Nat.reduceBEq]
      refine awp_seq fun K2 hK2 => ?_
      refine awp_block ?_
      refine awp_seq fun K3 hK3 => ?_
      refine awp_draw F_mixed [some 10, some 11, some 12, some 13, some 14, some 15, some 16, some 17, some 18] rfl (by kernel_rfl) ?_
      simp only [zzK, Nat.reduceLT, Nat.reduceLeDiff, Nat.reduceBEq, evS_move, zz19, zz23, F_off33_6, zzH, Nat.zero_add, Nat.reduceAdd, evS_indexAddr, zz15, F_arr31, F_sz3, zzC, Option.map_some, yyE, reduceCtorEq, F_ok3, F_ag3, zz8, zzD, zz21, gr_v, zz28, Int.reduceToNat, Int.reduceLT, Int.reduceLE, cast6, Nat.reduceMul, zz6, Nat.reduceEqDiff, ↓reduceIte]
      refine hK3 _ ?_; try clear hK3 K3
      refine awp_keepL [2, 3, 5, 18] ?_
      simp only [zzJ, Nat.reduceBEq]
      refine awp_condS _ (by decide) (by simp only [look_cons, Nat.reduceBEq, cond_true, cond_false]; rfl) ?_ ?_
      · intro hb
        simp at hb
      · intro hb
        clear hb
        refine awp_skip ?_
        simp only [zz6, Nat.reduceEqDiff, ↓reduceIte]
        refine hK2 _ ?_; try clear hK2 K2
        refine awp_keepL [2, 3, 5] ?_
        simp only [zzJ, Nat.reduceBEq]
        refine awp_plain F_mixed [some 8, some 9, some 5] rfl ?_
        simp only [zzK, Nat.reduceLT, Nat.reduceLeDiff, Nat.reduceBEq, evS_move, zz21, gr_v, zz26, evS_assign, zz6, Nat.reduceEqDiff, ↓reduceIte]
        refine ⟨5, _, by decide, le_SK id [] rfl (l' := [(2, .ptr 2 0 0), (3, .ptr 3 0 0), (5, .d (iv 1))]) (m' := [(2, (⟨True, 33, 12, true, false, 2, [[.d (iv i.no), .d (iv i.cur), .d (iv i.mult), .d (iv i.add), .d (iv i.set), .d (iv i.price), .d (iv i.s0), .d (iv i.s1), .d (iv i.s2), .d (iv i.s3), .d (iv i.s4), .d (iv i.s5)]]⟩ : ARow)), (3, (⟨True, 33, 12, true, false, 3, [[.d (iv i.no), .d (iv i.cur), .d (iv i.mult), .d (iv i.add), .d (iv i.set), .d (iv i.price), .d (iv i.s0), .d (iv i.s1), .d (iv i.s2), .d (iv i.s3), .d (iv i.s4), .d (iv i.s5)]]⟩ : ARow))]) ?_ ?_ ?_ ?_, .inr (.inl (⟨rfl, rfl⟩))⟩
        · simp only [leV, look_cons, Nat.reduceBEq, cond_true, cond_false]; exact ⟨VLe.refl _, VLe.refl _, VLe.refl _, trivial⟩
        · exact ⟨fun _ => ⟨_, rfl, ⟨id, rfl, rfl, fun _ => rfl, id, .inl, VLess.refl _⟩⟩, fun h => by simp at h, fun _ => ⟨_, rfl, ⟨id, rfl, rfl, fun _ => rfl, id, .inl, VLess.refl _⟩⟩, fun h => by simp at h, trivial⟩
        · simp [wfV, AV.ids, AV.idsL, lookR]
        · simp [wfR, AV.idsL, AV.ids]
    · intro hb
      simp at hb
  · skip
    refine awp_seq fun K2 hK2 => ?_
    refine awp_seq fun K3 hK3 => ?_
    refine awp_plain F_mixed [some 6, some 7] rfl ?_
    simp only [zzK, Nat.reduceLT, Nat.reduceLeDiff, Nat.reduceBEq, evS_move, zz21, gr_v, zz22, zz6, Nat.reduceEqDiff, ↓reduceIte]
    refine hK3 _ ?_; try clear hK3 K3
    refine awp_keepL [2, 3, 5, 7] ?_
    simp only [zzJ, Nat.reduceBEq]
    refine awp_condS _ (by decide) (by simp only [look_cons, Nat.reduceBEq, cond_true, cond_false]; rfl) ?_ ?_
    · intro hb
      clear hb
      refine awp_skip ?_
      simp only [zz6, Nat.reduceEqDiff, ↓reduceIte]
      refine hK2 _ ?_; try clear hK2 K2
      refine awp_keepL [2, 3, 5] ?_
      simp only [zzJ, Nat.reduceBEq]
      refine awp_seq fun K2 hK2 => ?_
      refine awp_block ?_
      refine awp_seq fun K3 hK3 => ?_
      refine awp_draw F_mixed [some 10, some 11, some 12, some 13, some 14, some 15, some 16, some 17, some 18] rfl (by kernel_rfl) ?_
      simp only [zzK, Nat.reduceLT, Nat.reduceLeDiff, Nat.reduceBEq, evS_move, zz19, zz23, F_off33_6, zzH, Nat.zero_add, Nat.reduceAdd, evS_indexAddr, zz15, F_arr31, F_sz3, zzC, Option.map_some, yyE, reduceCtorEq, F_ok3, F_ag3, zz8, zzD, zz21, gr_v, zz28, Int.reduceToNat, Int.reduceLT, Int.reduceLE, cast6, Nat.reduceMul, zz6, Nat.reduceEqDiff, ↓reduceIte]
      refine hK3 _ ?_; try clear hK3 K3
      refine awp_keepL [2, 3, 5, 18] ?_
      simp only [zzJ, Nat.reduceBEq]
      refine awp_condS _ (by decide) (by simp only [look_cons, Nat.reduceBEq, cond_true, cond_false]; rfl) ?_ ?_
      · intro hb
        simp at hb
      · intro hb
        clear hb
        refine awp_skip ?_
        simp only [zz6, Nat.reduceEqDiff, ↓reduceIte]
        refine hK2 _ ?_; try clear hK2 K2
        refine awp_keepL [2, 3, 5] ?_
        simp only [zzJ, Nat.reduceBEq]
        refine awp_plain F_mixed [some 8, some 9, some 5] rfl ?_
        simp only [zzK, Nat.reduceLT, Nat.reduceLeDiff, Nat.reduceBEq, evS_move, zz21, gr_v, zz26, evS_assign, zz6, Nat.reduceEqDiff, ↓reduceIte]
        refine ⟨4, _, by decide, le_SK id [] rfl (l' := [(2, .ptr 2 0 0), (3, .ptr 3 0 0), (5, .d (iv 2))]) (m' := [(2, (⟨True, 33, 12, true, false, 2, [[.d (iv i.no), .d (iv i.cur), .d (iv i.mult), .d (iv i.add), .d (iv i.set), .d (iv i.price), .d (iv i.s0), .d (iv i.s1), .d (iv i.s2), .d (iv i.s3), .d (iv i.s4), .d (iv i.s5)]]⟩ : ARow)), (3, (⟨True, 33, 12, true, false, 3, [[.d (iv i.no), .d (iv i.cur), .d (iv i.mult), .d (iv i.add), .d (iv i.set), .d (iv i.price), .d (iv i.s0), .d (iv i.s1), .d (iv i.s2), .d (iv i.s3), .d (iv i.s4), .d (iv i.s5)]]⟩ : ARow))]) ?_ ?_ ?_ ?_, .inr (.inr (.inl (⟨rfl, rfl⟩)))⟩
        · simp only [leV, look_cons, Nat.reduceBEq, cond_true, cond_false]; exact ⟨VLe.refl _, VLe.refl _, VLe.refl _, trivial⟩
        · exact ⟨fun _ => ⟨_, rfl, ⟨id, rfl, rfl, fun _ => rfl, id, .inl, VLess.refl _⟩⟩, fun h => by simp at h, fun _ => ⟨_, rfl, ⟨id, rfl, rfl, fun _ => rfl, id, .inl, VLess.refl _⟩⟩, fun h => by simp at h, trivial⟩
        · simp [wfV, AV.ids, AV.idsL, lookR]
        · simp [wfR, AV.idsL, AV.ids]
    · intro hb
      simp at hb
  · skip
    refine awp_seq fun K2 hK2 => ?_
    refine awp_seq fun K3 hK3 => ?_
    refine awp_plain F_mixed [some 6, some 7] rfl ?_
    simp only [zzK, Nat.reduceLT, Nat.reduceLeDiff, Nat.reduceBEq, evS_move, zz21, gr_v, zz22, zz6, Nat.reduceEqDiff, ↓reduceIte]
    refine hK3 _ ?_; try clear hK3 K3
    refine awp_keepL [2, 3, 5, 7] ?_
    simp only [zzJ, Nat.reduceBEq]
    refine awp_condS _ (by decide) (by simp only [look_cons, Nat.reduceBEq, cond_true, cond_false]; rfl) ?_ ?_
    · intro hb
      clear hb
      refine awp_skip ?_
      simp only [zz6, Nat.reduceEqDiff, ↓reduceIte]
      refine hK2 _ ?_; try clear hK2 K2
      refine awp_keepL [2, 3, 5] ?_
      simp only [zzJ, Nat.reduceBEq]
      refine awp_seq fun K2 hK2 => ?_
      refine awp_block ?_
      refine awp_seq fun K3 hK3 => ?_
      refine awp_draw F_mixed [some 10, some 11, some 12, some 13, some 14, some 15, some 16, some 17, some 18] rfl (by kernel_rfl) ?_
      simp only [zzK, Nat.reduceLT, Nat.reduceLeDiff, Nat.reduceBEq, evS_move, zz19, zz23, F_off33_6, zzH, Nat.zero_add, Nat.reduceAdd, evS_indexAddr, zz15, F_arr31, F_sz3, zzC, Option.map_some, yyE, reduceCtorEq, F_ok3, F_ag3, zz8, zzD, zz21, gr_v, zz28, Int.reduceToNat, Int.reduceLT, Int.reduceLE, cast6, Nat.reduceMul, zz6, Nat.reduceEqDiff, ↓reduceIte]
      refine hK3 _ ?_; try clear hK3 K3
      refine awp_keepL [2, 3, 5, 18] ?_
      simp only [zzJ, Nat.reduceBEq]
      refine awp_condS _ (by decide) (by simp only [look_cons, Nat.reduceBEq, cond_true, cond_false]; rfl) ?_ ?_
      · intro hb
        simp at hb
      · intro hb
        clear hb
        refine awp_skip ?_
        simp only [zz6, Nat.reduceEqDiff, ↓reduceIte]
        refine hK2 _ ?_; try clear hK2 K2
        refine awp_keepL [2, 3, 5] ?_
        simp only [zzJ, Nat.reduceBEq]
        refine awp_plain F_mixed [some 8, some 9, some 5] rfl ?_
        simp only [zzK, Nat.reduceLT, Nat.reduceLeDiff, Nat.reduceBEq, evS_move, zz21, gr_v, zz26, evS_assign, zz6, Nat.reduceEqDiff, ↓reduceIte]
        refine ⟨3, _, by decide, le_SK id [] rfl (l' := [(2, .ptr 2 0 0), (3, .ptr 3 0 0), (5, .d (iv 3))]) (m' := [(2, (⟨True, 33, 12, true, false, 2, [[.d (iv i.no), .d (iv i.cur), .d (iv i.mult), .d (iv i.add), .d (iv i.set), .d (iv i.price), .d (iv i.s0), .d (iv i.s1), .d (iv i.s2), .d (iv i.s3), .d (iv i.s4), .d (iv i.s5)]]⟩ : ARow)), (3, (⟨True, 33, 12, true, false, 3, [[.d (iv i.no), .d (iv i.cur), .d (iv i.mult), .d (iv i.add), .d (iv i.set), .d (iv i.price), .d (iv i.s0), .d (iv i.s1), .d (iv i.s2), .d (iv i.s3), .d (iv i.s4), .d (iv i.s5)]]⟩ : ARow))]) ?_ ?_ ?_ ?_, .inr (.inr (.inr (.inl (⟨rfl, rfl⟩))))⟩
        · simp only [leV, look_cons, Nat.reduceBEq, cond_true, cond_false]; exact ⟨VLe.refl _, VLe.refl _, VLe.refl _, trivial⟩
        · exact ⟨fun _ => ⟨_, rfl, ⟨id, rfl, rfl, fun _ => rfl, id, .inl, VLess.refl _⟩⟩, fun h => by simp at h, fun _ => ⟨_, rfl, ⟨id, rfl, rfl, fun _ => rfl, id, .inl, VLess.refl _⟩⟩, fun h => by simp at h, trivial⟩
        · simp [wfV, AV.ids, AV.idsL, lookR]
        · simp [wfR, AV.idsL, AV.ids]
    · intro hb
      simp at hb
  · skip
    refine awp_seq fun K2 hK2 => ?_
    refine awp_seq fun K3 hK3 => ?_
    refine awp_plain F_mixed [some 6, some 7] rfl ?_
    simp only [zzK, Nat.reduceLT, Nat.reduceLeDiff, Nat.reduceBEq, evS_move, zz21, gr_v, zz22, zz6, Nat.reduceEqDiff, ↓reduceIte]
    refine hK3 _ ?_; try clear hK3 K3
    refine awp_keepL [2, 3, 5, 7] ?_
    simp only [zzJ, Nat.reduceBEq]
    refine awp_condS _ (by decide) (by simp only [look_cons, Nat.reduceBEq, cond_true, cond_false]; rfl) ?_ ?_
    · intro hb
      clear hb
      refine awp_skip ?_
      simp only [zz6, Nat.reduceEqDiff, ↓reduceIte]
      refine hK2 _ ?_; try clear hK2 K2
      refine awp_keepL [2, 3, 5] ?_
      simp only [zzJ, Nat.reduceBEq]
      refine awp_seq fun K2 hK2 => ?_
      refine awp_block ?_
      refine awp_seq fun K3 hK3 => ?_
      refine awp_draw F_mixed [some 10, some 11, some 12, some 13, some 14, some 15, some 16, some 17, some 18] rfl (by kernel_rfl) ?_
      simp only [zzK, Nat.reduceLT, Nat.reduceLeDiff, Nat.reduceBEq, evS_move, zz19, zz23, F_off33_6, zzH, Nat.zero_add, Nat.reduceAdd, evS_indexAddr, zz15, F_arr31, F_sz3, zzC, Option.map_some, yyE, reduceCtorEq, F_ok3, F_ag3, zz8, zzD, zz21, gr_v, zz28, Int.reduceToNat, Int.reduceLT, Int.reduceLE, cast6, Nat.reduceMul, zz6, Nat.reduceEqDiff, ↓reduceIte]
      refine hK3 _ ?_; try clear hK3 K3
      refine awp_keepL [2, 3, 5, 18] ?_
      simp only [zzJ, Nat.reduceBEq]
      refine awp_condS _ (by decide) (by simp only [look_cons, Nat.reduceBEq, cond_true, cond_false]; rfl) ?_ ?_
      · intro hb
        simp at hb
      · intro hb
        clear hb
        refine awp_skip ?_
        simp only [zz6, Nat.reduceEqDiff, ↓reduceIte]
        refine hK2 _ ?_; try clear hK2 K2
        refine awp_keepL [2, 3, 5] ?_
        simp only [zzJ, Nat.reduceBEq]
        refine awp_plain F_mixed [some 8, some 9, some 5] rfl ?_
        simp only [zzK, Nat.reduceLT, Nat.reduceLeDiff, Nat.reduceBEq, evS_move, zz21, gr_v, zz26, evS_assign, zz6, Nat.reduceEqDiff, ↓reduceIte]
        refine ⟨2, _, by decide, le_SK id [] rfl (l' := [(2, .ptr 2 0 0), (3, .ptr 3 0 0), (5, .d (iv 4))]) (m' := [(2, (⟨True, 33, 12, true, false, 2, [[.d (iv i.no), .d (iv i.cur), .d (iv i.mult), .d (iv i.add), .d (iv i.set), .d (iv i.price), .d (iv i.s0), .d (iv i.s1), .d (iv i.s2), .d (iv i.s3), .d (iv i.s4), .d (iv i.s5)]]⟩ : ARow)), (3, (⟨True, 33, 12, true, false, 3, [[.d (iv i.no), .d (iv i.cur), .d (iv i.mult), .d (iv i.add), .d (iv i.set), .d (iv i.price), .d (iv i.s0), .d (iv i.s1), .d (iv i.s2), .d (iv i.s3), .d (iv i.s4), .d (iv i.s5)]]⟩ : ARow))]) ?_ ?_ ?_ ?_, .inr (.inr (.inr (.inr (.inl (⟨rfl, rfl⟩)))))⟩
        · simp only [leV, look_cons, Nat.reduceBEq, cond_true, cond_false]; exact ⟨VLe.refl _, VLe.refl _, VLe.refl _, trivial⟩
        · exact ⟨fun _ => ⟨_, rfl, ⟨id, rfl, rfl, fun _ => rfl, id, .inl, VLess.refl _⟩⟩, fun h => by simp at h, fun _ => ⟨_, rfl, ⟨id, rfl, rfl, fun _ => rfl, id, .inl, VLess.refl _⟩⟩, fun h => by simp at h, trivial⟩
        · simp [wfV, AV.ids, AV.idsL, lookR]
        · simp [wfR, AV.idsL, AV.ids]
    · intro hb
      simp at hb
  · skip
    refine awp_seq fun K2 hK2 => ?_
    refine awp_seq fun K3 hK3 => ?_
    refine awp_plain F_mixed [some 6, some 7] rfl ?_
    simp only [zzK, Nat.reduceLT, Nat.reduceLeDiff, Nat.reduceBEq, evS_move, zz21, gr_v, zz22, zz6, Nat.reduceEqDiff, ↓reduceIte]
    refine hK3 _ ?_; try clear hK3 K3
    refine awp_keepL [2, 3, 5, 7] ?_
    simp only [zzJ, Nat.reduceBEq]
    refine awp_condS _ (by decide) (by simp only [look_cons, Nat.reduceBEq, cond_true, cond_false]; rfl) ?_ ?_
    · intro hb
      clear hb
      refine awp_skip ?_
      simp only [zz6, Nat.reduceEqDiff, ↓reduceIte]
      refine hK2 _ ?_; try clear hK2 K2
      refine awp_keepL [2, 3, 5] ?_
      simp only [zzJ, Nat.reduceBEq]
      refine awp_seq fun K2 hK2 => ?_
      refine awp_block ?_
      refine awp_seq fun K3 hK3 => ?_
      refine awp_draw F_mixed [some 10, some 11, some 12, some 13, some 14, some 15, some 16, some 17, some 18] rfl (by kernel_rfl) ?_
      simp only [zzK, Nat.reduceLT, Nat.reduceLeDiff, Nat.reduceBEq, evS_move, zz19, zz23, F_off33_6, zzH, Nat.zero_add, Nat.reduceAdd, evS_indexAddr, zz15, F_arr31, F_sz3, zzC, Option.map_some, yyE, reduceCtorEq, F_ok3, F_ag3, zz8, zzD, zz21, gr_v, zz28, Int.reduceToNat, Int.reduceLT, Int.reduceLE, cast6, Nat.reduceMul, zz6, Nat.reduceEqDiff, ↓reduceIte]
      refine hK3 _ ?_; try clear hK3 K3
      refine awp_keepL [2, 3, 5, 18] ?_
      simp only [zzJ, Nat.reduceBEq]
      refine awp_condS _ (by decide) (by simp only [look_cons, Nat.reduceBEq, cond_true, cond_false]; rfl) ?_ ?_
      · intro hb
        simp at hb
      · intro hb
        clear hb
        refine awp_skip ?_
        simp only [zz6, Nat.reduceEqDiff, ↓reduceIte]
        refine hK2 _ ?_; try clear hK2 K2
        refine awp_keepL [2, 3, 5] ?_
        simp only [zzJ, Nat.reduceBEq]
        refine awp_plain F_mixed [some 8, some 9, some 5] rfl ?_
        simp only [zzK, Nat.reduceLT, Nat.reduceLeDiff, Nat.reduceBEq, evS_move, zz21, gr_v, zz26, evS_assign, zz6, Nat.reduceEqDiff, ↓reduceIte]
        refine ⟨1, _, by decide, le_SK id [] rfl (l' := [(2, .ptr 2 0 0), (3, .ptr 3 0 0), (5, .d (iv 5))]) (m' := [(2, (⟨True, 33, 12, true, false, 2, [[.d (iv i.no), .d (iv i.cur), .d (iv i.mult), .d (iv i.add), .d (iv i.set), .d (iv i.price), .d (iv i.s0), .d (iv i.s1), .d (iv i.s2), .d (iv i.s3), .d (iv i.s4), .d (iv i.s5)]]⟩ : ARow)), (3, (⟨True, 33, 12, true, false, 3, [[.d (iv i.no), .d (iv i.cur), .d (iv i.mult), .d (iv i.add), .d (iv i.set), .d (iv i.price), .d (iv i.s0), .d (iv i.s1), .d (iv i.s2), .d (iv i.s3), .d (iv i.s4), .d (iv i.s5)]]⟩ : ARow))]) ?_ ?_ ?_ ?_, .inr (.inr (.inr (.inr (.inr (.inl (⟨rfl, rfl⟩))))))⟩
        · simp only [leV, look_cons, Nat.reduceBEq, cond_true, cond_false]; exact ⟨VLe.refl _, VLe.refl _, VLe.refl _, trivial⟩
        · exact ⟨fun _ => ⟨_, rfl, ⟨id, rfl, rfl, fun _ => rfl, id, .inl, VLess.refl _⟩⟩, fun h => by simp at h, fun _ => ⟨_, rfl, ⟨id, rfl, rfl, fun _ => rfl, id, .inl, VLess.refl _⟩⟩, fun h => by simp at h, trivial⟩
        · simp [wfV, AV.ids, AV.idsL, lookR]
        · simp [wfR, AV.idsL, AV.ids]
    · intro hb
      simp at hb
  · skip
    refine awp_seq fun K2 hK2 => ?_
    refine awp_seq fun K3 hK3 => ?_
    refine awp_plain F_mixed [some 6, some 7] rfl ?_
    simp only [zzK, Nat.reduceLT, Nat.reduceLeDiff, Nat.reduceBEq, evS_move, zz21, gr_v, zz22, zz6, Nat.reduceEqDiff, ↓reduceIte]
    refine hK3 _ ?_; try clear hK3 K3
    refine awp_keepL [2, 3, 5, 7] ?_
    simp only [zzJ, Nat.reduceBEq]
    refine awp_condS _ (by decide) (by simp only [look_cons, Nat.reduceBEq, cond_true, cond_false]; rfl) ?_ ?_
    · intro hb
      clear hb
      refine awp_skip ?_
      simp only [zz6, Nat.reduceEqDiff, ↓reduceIte]
      refine hK2 _ ?_; try clear hK2 K2
      refine awp_keepL [2, 3, 5] ?_
      simp only [zzJ, Nat.reduceBEq]
      refine awp_seq fun K2 hK2 => ?_
      refine awp_block ?_
      refine awp_seq fun K3 hK3 => ?_
      refine awp_draw F_mixed [some 10, some 11, some 12, some 13, some 14, some 15, some 16, some 17, some 18] rfl (by kernel_rfl) ?_
      simp only [zzK, Nat.reduceLT, Nat.reduceLeDiff, Nat.reduceBEq, evS_move, zz19, zz23, F_off33_6, zzH, Nat.zero_add, Nat.reduceAdd, evS_indexAddr, zz15, F_arr31, F_sz3, zzC, Option.map_some, yyE, reduceCtorEq, F_ok3, F_ag3, zz8, zzD, zz21, gr_v, zz28, Int.reduceToNat, Int.reduceLT, Int.reduceLE, cast6, Nat.reduceMul, zz6, Nat.reduceEqDiff, ↓reduceIte]
      refine hK3 _ ?_; try clear hK3 K3
      refine awp_keepL [2, 3, 5, 18] ?_
      simp only [zzJ, Nat.reduceBEq]
      refine awp_condS _ (by decide) (by simp only [look_cons, Nat.reduceBEq, cond_true, cond_false]; rfl) ?_ ?_
      · intro hb
        simp at hb
      · intro hb
        clear hb
        refine awp_skip ?_
        simp only [zz6, Nat.reduceEqDiff, ↓reduceIte]
        refine hK2 _ ?_; try clear hK2 K2
        refine awp_keepL [2, 3, 5] ?_
        simp only [zzJ, Nat.reduceBEq]
        refine awp_plain F_mixed [some 8, some 9, some 5] rfl ?_
        simp only [zzK, Nat.reduceLT, Nat.reduceLeDiff, Nat.reduceBEq, evS_move, zz21, gr_v, zz26, evS_assign, zz6, Nat.reduceEqDiff, ↓reduceIte]
        refine ⟨0, _, by decide, le_SK id [] rfl (l' := [(2, .ptr 2 0 0), (3, .ptr 3 0 0), (5, .d (iv 6))]) (m' := [(2, (⟨True, 33, 12, true, false, 2, [[.d (iv i.no), .d (iv i.cur), .d (iv i.mult), .d (iv i.add), .d (iv i.set), .d (iv i.price), .d (iv i.s0), .d (iv i.s1), .d (iv i.s2), .d (iv i.s3), .d (iv i.s4), .d (iv i.s5)]]⟩ : ARow)), (3, (⟨True, 33, 12, true, false, 3, [[.d (iv i.no), .d (iv i.cur), .d (iv i.mult), .d (iv i.add), .d (iv i.set), .d (iv i.price), .d (iv i.s0), .d (iv i.s1), .d (iv i.s2), .d (iv i.s3), .d (iv i.s4), .d (iv i.s5)]]⟩ : ARow))]) ?_ ?_ ?_ ?_, .inr (.inr (.inr (.inr (.inr (.inr (⟨rfl, rfl⟩))))))⟩
        · simp only [leV, look_cons, Nat.reduceBEq, cond_true, cond_false]; exact ⟨VLe.refl _, VLe.refl _, VLe.refl _, trivial⟩
        · exact ⟨fun _ => ⟨_, rfl, ⟨id, rfl, rfl, fun _ => rfl, id, .inl, VLess.refl _⟩⟩, fun h => by simp at h, fun _ => ⟨_, rfl, ⟨id, rfl, rfl, fun _ => rfl, id, .inl, VLess.refl _⟩⟩, fun h => by simp at h, trivial⟩
        · simp [wfV, AV.ids, AV.idsL, lookR]
        · simp [wfR, AV.idsL, AV.ids]
    · intro hb
      simp at hb
  · skip
    refine awp_seq fun K2 hK2 => ?_
    refine awp_seq fun K3 hK3 => ?_
    refine awp_plain F_mixed [some 6, some 7] rfl ?_
    simp only [zzK, Nat.reduceLT, Nat.reduceLeDiff, Nat.reduceBEq, evS_move, zz21, gr_v, zz22, zz6, Nat.reduceEqDiff, ↓reduceIte]
    refine hK3 _ ?_; try clear hK3 K3
    refine awp_keepL [2, 3, 5, 7] ?_
    simp only [zzJ, Nat.reduceBEq]
    refine awp_condS _ (by decide) (by simp only [look_cons, Nat.reduceBEq, cond_true, cond_false]; rfl) ?_ ?_
    · intro hb
      simp at hb
    · intro hb
      clear hb
      refine awp_exit ?_
      simp only [zz6, Nat.reduceEqDiff, ↓reduceIte]
      refine hK0 _ ?_; try clear hK0 K0
      refine awp_keepL [2, 3] ?_
      simp only [zzJ, Nat.reduceBEq]
      refine awp_seq fun K0 hK0 => ?_
      refine awp_plain F_mixed [some 19, some 20, some 21, some 22, some 23, some 24, some 25, some 26, some 27, some 28, some 29, some 30, some 31, some 32, some 33, some 34, some 35, some 36, some 37, some 38, some 39, some 40, some 41, some 42, some 43, some 44, some 45, some 46, some 47, some 48, some 49, some 50, some 51, some 52, some 53, some 54, some 55, some 56, some 57, some 58, some 4] rfl ?_
      simp only [zzK, Nat.reduceLT, Nat.reduceLeDiff, Nat.reduceBEq, Nat.reduceSub, S_getD, zz5, and_imp, imp_and, imp_self, zz19, zz23, F_off33_0, zzH, Nat.zero_add, Nat.reduceAdd, F_ok3, F_ag3, F_sz3, zz8, zzD, zzC, Option.map_some, yyE, reduceCtorEq, zz21, gr_v, zz34, evS_move, F_off33_1, zz13, pickK_l, pickK_r, F_off33_2, F_off33_3, F_off33_4, F_off33_5, evS_assign, zz6, Nat.reduceEqDiff, ↓reduceIte]
      refine hK0 _ ?_; try clear hK0 K0
      refine awp_keepL [4] ?_
      simp only [zzJ, Nat.reduceBEq]
      refine awp_ret ?_
      simp only [zz6, Nat.reduceEqDiff, ↓reduceIte]
      refine done0 (by simp only [resCs, resC]; trivial) ?_ (by simp [flatA, flatAs, flatD]) (by simp [AV.ids, AV.idsL])
      simp only [List.map_cons, List.map_nil, resA, S_getD, Nat.reduceLT, Nat.reduceLeDiff, look_cons, Nat.reduceBEq, cond_true, cond_false, resAll]
      simp
theorem kInsts_ (l : List InstV) (hl : l.length ≤ 1000000) : ACalls Try.prog 49 [instsD l, instsD l] [] (bv true) := by
  refine acalls_S (rs := [.tmp 4]) Try.func49 rfl rfl 27 [(0, .d (instsD l)), (1, .d (instsD l))] rfl (by simp) rfl ?_
  refine awp_seq fun K0 hK0 => ?_
  refine awp_plain F_mixed [some 4] rfl ?_
  simp only [zzK, Nat.reduceLT, Nat.reduceLeDiff, Nat.reduceBEq, evS_assign, zz6, Nat.reduceEqDiff, ↓reduceIte]
  refine hK0 _ ?_; try clear hK0 K0
  refine awp_keepL [0, 1] ?_
  simp only [zzJ, Nat.reduceBEq]
  refine awp_seq fun K0 hK0 => ?_
  refine awp_seq fun K1 hK1 => ?_
  refine awp_plain F_mixed [some 6, some 7, some 8, some 9, some 10] rfl ?_
  simp only [zzK, Nat.reduceLT, Nat.reduceLeDiff, Nat.reduceBEq, evS_move, evS_call, zz12, F_sl37, Option.isSome_some, zz21, gr_v, zz28, instsD, len_map, zz6, Nat.reduceEqDiff, ↓reduceIte]
  refine hK1 _ ?_; try clear hK1 K1
  refine awp_keepL [0, 1, 10] ?_
  simp only [zzJ, Nat.reduceBEq]
  refine awp_condS _ (by decide) (by simp only [look_cons, Nat.reduceBEq, cond_true, cond_false]; rfl) ?_ ?_
  · intro hb
    simp at hb
  · intro hb
    clear hb
    refine awp_skip ?_
    simp only [zz6, Nat.reduceEqDiff, ↓reduceIte]
    refine hK0 _ ?_; try clear hK0 K0
    refine awp_keepL [0, 1] ?_
    simp only [zzJ, Nat.reduceBEq]
    refine awp_seq fun K0 hK0 => ?_
    refine awp_seq fun K1 hK1 => ?_
    refine awp_plain F_mixed [some 5] rfl ?_
    simp only [zzK, Nat.reduceLT, Nat.reduceLeDiff, Nat.reduceBEq, evS_assign, zz6, Nat.reduceEqDiff, ↓reduceIte]
    refine hK1 _ ?_; try clear hK1 K1
    refine awp_keepL [0, 1, 5] ?_
    simp only [zzJ, Nat.reduceBEq]
    refine awp_block ?_
    refine awp_loop (fun m s => ∃ pre post : List InstV, l = pre ++ post ∧ m = post.length ∧ s = S 27 [(0, .d (instsD l)), (1, .d (instsD l)), (5, .d (iv pre.length))] []) l.length _ (le_SK id [] rfl (l' := [(0, .d (instsD l)), (1, .d (instsD l)), (5, .d (iv ([] : List InstV).length))]) (m' := []) ?_ ?_ ?_ ?_) ⟨[], l, rfl, rfl, rfl⟩ ?_
    · simp only [leV, look_cons, Nat.reduceBEq, cond_true, cond_false, instsD, len_map]; exact ⟨VLe.refl _, VLe.refl _, VLe.refl _, trivial⟩
    · exact trivial
    · simp [wfV, AV.ids, AV.idsL, lookR]
    · simp [wfR, AV.idsL, AV.ids]
    rintro m s ⟨pre, post, rfl, rfl, rfl⟩
    refine awp_seq fun K2 hK2 => ?_
    refine awp_seq fun K3 hK3 => ?_
    refine awp_plain F_mixed [some 11, some 12, some 13, some 14] rfl ?_
    simp only [zzK, Nat.reduceLT, Nat.reduceLeDiff, Nat.reduceBEq, evS_move, evS_call, zz12, F_sl37, Option.isSome_some, zz21, gr_v, zz22, instsD, len_map, zz6, Nat.reduceEqDiff, ↓reduceIte]
    refine hK3 _ ?_; try clear hK3 K3
    refine awp_keepL [0, 1, 5, 14] ?_
    simp only [zzJ, Nat.reduceBEq]
    refine awp_condS _ (by decide) (by simp only [look_cons, Nat.reduceBEq, cond_true, cond_false]; rfl) ?_ ?_
    · intro hb
      obtain ⟨x, post, rfl⟩ := more_of hb; clear hb
      refine awp_skip ?_
      simp only [zz6, Nat.reduceEqDiff, ↓reduceIte]
      refine hK2 _ ?_; try clear hK2 K2
      refine awp_keepL [0, 1, 5] ?_
      simp only [zzJ, Nat.reduceBEq]
      refine awp_seq fun K2 hK2 => ?_
      refine awp_block ?_
      refine awp_seq fun K3 hK3 => ?_
      refine awp_draw F_mixed [some 17, some 18, some 19, some 20, some 21, some 22, some 23, some 24, some 25, some 26] rfl (by kernel_rfl) ?_
      simp only [zzK, Nat.reduceLT, Nat.reduceLeDiff, Nat.reduceBEq, evS_move, evS_indexAddr, zz23, zz24, F_sl37, F_sz33, Option.map_some, zzC, yyE, reduceCtorEq, F_ok33, F_ag33, zz8, zzD, Nat.reduceAdd, Nat.zero_add, zzH, evS_call, evC_value, zz29, gr_v, zz30, instsD, instC, getD_mid, len_map, lt_mid, ge_mid, D.agg.injEq, zz6, Nat.reduceEqDiff, ↓reduceIte]
      refine call_go F_go78 (fun hG => kInst_ x) (by simp [AV.ids, AV.idsL]) (by simp) ?_
      simp only [zzK, Nat.reduceLT, Nat.reduceLeDiff, Nat.reduceBEq, evS_move, evS_indexAddr, zz23, zz24, F_sl37, F_sz33, Option.map_some, zzC, yyE, reduceCtorEq, F_ok33, F_ag33, zz8, zzD, Nat.reduceAdd, Nat.zero_add, zzH, evS_call, evC_value, zz29, gr_v, zz30, instsD, instC, getD_mid, len_map, lt_mid, ge_mid, D.agg.injEq, zz6, Nat.reduceEqDiff, ↓reduceIte, atsL, oksG, freeN, AV.ren, AV.renL, addRows, ORow.row, Nat.reduceMul, Nat.reduceAdd, zz9, Option.bind_some, Option.map_some, S_mem, yyF, List.length_cons, zz2]
      refine hK3 _ ?_; try clear hK3 K3
      refine awp_keepL [0, 1, 5, 26] ?_
      simp only [zzJ, Nat.reduceBEq]
      refine awp_condS _ (by decide) (by simp only [look_cons, Nat.reduceBEq, cond_true, cond_false]; rfl) ?_ ?_
      · intro hb
        simp at hb
      · intro hb
        clear hb
        refine awp_skip ?_
        simp only [zz6, Nat.reduceEqDiff, ↓reduceIte]
        refine hK2 _ ?_; try clear hK2 K2
        refine awp_keepL [0, 1, 5] ?_
        simp only [zzJ, Nat.reduceBEq]
        refine awp_plain F_mixed [some 15, some 16, some 5] rfl ?_
        simp only [zzK, Nat.reduceLT, Nat.reduceLeDiff, Nat.reduceBEq, evS_move, zz21, gr_v, zz26, evS_assign, zz6, Nat.reduceEqDiff, ↓reduceIte]
        refine ⟨post.length, _, by simp, le_SK id [] rfl (l' := [(0, .d (instsD (pre ++ x :: post))), (1, .d (instsD (pre ++ x :: post))), (5, .d (iv (pre ++ [x]).length))]) (m' := []) ?_ ?_ ?_ ?_, pre ++ [x], post, by simp, rfl, rfl⟩
        · simp only [leV, look_cons, Nat.reduceBEq, cond_true, cond_false, instsD, len_map, wrap_len pre x (by simp at hl; omega)]; exact ⟨VLe.refl _, VLe.refl _, VLe.refl _, trivial⟩
        · exact trivial
        · simp [wfV, AV.ids, AV.idsL, lookR]
        · simp [wfR, AV.idsL, AV.ids]
    · intro hb
      clear hb
      refine awp_exit ?_
      simp only [zz6, Nat.reduceEqDiff, ↓reduceIte]
      refine hK0 _ ?_; try clear hK0 K0
      refine awp_keepL [] ?_
      simp only [zzJ, Nat.reduceBEq]
      refine awp_seq fun K0 hK0 => ?_
      refine awp_plain F_mixed [some 4] rfl ?_
      simp only [zzK, Nat.reduceLT, Nat.reduceLeDiff, Nat.reduceBEq, evS_assign, zz6, Nat.reduceEqDiff, ↓reduceIte]
      refine hK0 _ ?_; try clear hK0 K0
      refine awp_keepL [4] ?_
      simp only [zzJ, Nat.reduceBEq]
      refine awp_ret ?_
      simp only [zz6, Nat.reduceEqDiff, ↓reduceIte]
      refine done0 (by simp only [resCs, resC]; trivial) ?_ (by simp [flatA, flatAs, flatD]) (by simp [AV.ids, AV.idsL])
      simp only [List.map_cons, List.map_nil, resA, S_getD, Nat.reduceLT, Nat.reduceLeDiff, look_cons, Nat.reduceBEq, cond_true, cond_false, resAll]
      
theorem kAsset_ (a : AssetV) : ACalls Try.prog 79 [.agg (assetC a), .agg (assetC a)] [] (bv true) := by
  refine acalls_S (rs := [.tmp 4]) Try.func79 rfl rfl 31 [(0, .d (.agg (assetC a))), (1, .d (.agg (assetC a)))] rfl (by simp) rfl ?_
  refine awp_seq fun K0 hK0 => ?_
  refine awp_plain F_mixed [some 2, some 3, some 4] rfl ?_
  simp only [zzK, Nat.reduceLT, Nat.reduceLeDiff, Nat.reduceBEq, zz35, newRow1, zz1, zzG, zzD, zzC, Option.map_some, yyE, reduceCtorEq, Nat.reduceAdd, Nat.zero_add, zzH, evS_assign, assetC, zz6, Nat.reduceEqDiff, ↓reduceIte]
  refine hK0 _ ?_; try clear hK0 K0
  refine awp_keepL [2, 3] ?_
  simp only [zzJ, Nat.reduceBEq]
  refine awp_seq fun K0 hK0 => ?_
  refine awp_plain F_mixed [some 5, some 6, some 7, some 8, some 9, some 10, some 11, some 12, some 13, some 14, some 15, some 16, some 17, some 18, some 19, some 20, some 21, some 22, some 23, some 24, some 25, some 26, some 27, some 28, some 29, some 30, some 4] rfl ?_
  simp only [zzK, Nat.reduceLT, Nat.reduceLeDiff, Nat.reduceBEq, Nat.reduceSub, S_getD, zz5, and_imp, imp_and, imp_self, zz19, zz23, F_off115_0, zzH, Nat.zero_add, Nat.reduceAdd, F_ok3, F_ag3, F_sz3, zz8, zzD, zzC, Option.map_some, yyE, reduceCtorEq, zz21, gr_v, zz34, evS_move, F_off115_1, zz13, pickK_l, pickK_r, F_off115_2, F_off115_3, evS_assign, zz6, Nat.reduceEqDiff, ↓reduceIte]
  refine hK0 _ ?_; try clear hK0 K0
  refine awp_keepL [4] ?_
  simp only [zzJ, Nat.reduceBEq]
  refine awp_ret ?_
  simp only [zz6, Nat.reduceEqDiff, ↓reduceIte]
  refine done0 (by simp only [resCs, resC]; trivial) ?_ (by simp [flatA, flatAs, flatD]) (by simp [AV.ids, AV.idsL])
  simp only [List.map_cons, List.map_nil, resA, S_getD, Nat.reduceLT, Nat.reduceLeDiff, look_cons, Nat.reduceBEq, cond_true, cond_false, resAll]
  simp
theorem kAssets_ (l : List AssetV) (hl : l.length ≤ 1000000) : ACalls Try.prog 50 [assetsD l, assetsD l] [] (bv true) := by
  refine acalls_S (rs := [.tmp 4]) Try.func50 rfl rfl 27 [(0, .d (assetsD l)), (1, .d (assetsD l))] rfl (by simp) rfl ?_
  refine awp_seq fun K0 hK0 => ?_
  refine awp_plain F_mixed [some 4] rfl ?_
  simp only [zzK, Nat.reduceLT, Nat.reduceLeDiff, Nat.reduceBEq, evS_assign, zz6, Nat.reduceEqDiff, ↓reduceIte]
  refine hK0 _ ?_; try clear hK0 K0
  refine awp_keepL [0, 1] ?_
  simp only [zzJ, Nat.reduceBEq]
  refine awp_seq fun K0 hK0 => ?_
  refine awp_seq fun K1 hK1 => ?_
  refine awp_plain F_mixed [some 6, some 7, some 8, some 9, some 10] rfl ?_
  simp only [zzK, Nat.reduceLT, Nat.reduceLeDiff, Nat.reduceBEq, evS_move, evS_call, zz12, F_sl38, Option.isSome_some, zz21, gr_v, zz28, assetsD, len_map, zz6, Nat.reduceEqDiff, ↓reduceIte]
  refine hK1 _ ?_; try clear hK1 K1
  refine awp_keepL [0, 1, 10] ?_
  simp only [zzJ, Nat.reduceBEq]
  refine awp_condS _ (by decide) (by simp only [look_cons, Nat.reduceBEq, cond_true, cond_false]; rfl) ?_ ?_
  · intro hb
    simp at hb
  · intro hb
    clear hb
    refine awp_skip ?_
    simp only [zz6, Nat.reduceEqDiff, ↓reduceIte]
    refine hK0 _ ?_; try clear hK0 K0
    refine awp_keepL [0, 1] ?_
    simp only [zzJ, Nat.reduceBEq]
    refine awp_seq fun K0 hK0 => ?_
    refine awp_seq fun K1 hK1 => ?_
    refine awp_plain F_mixed [some 5] rfl ?_
    simp only [zzK, Nat.reduceLT, Nat.reduceLeDiff, Nat.reduceBEq, evS_assign, zz6, Nat.reduceEqDiff, ↓reduceIte]
    refine hK1 _ ?_; try clear hK1 K1
    refine awp_keepL [0, 1, 5] ?_
    simp only [zzJ, Nat.reduceBEq]
    refine awp_block ?_
    refine awp_loop (fun m s => ∃ pre post : List AssetV, l = pre ++ post ∧ m = post.length ∧ s = S 27 [(0, .d (assetsD l)), (1, .d (assetsD l)), (5, .d (iv pre.length))] []) l.length _ (le_SK id [] rfl (l' := [(0, .d (assetsD l)), (1, .d (assetsD l)), (5, .d (iv ([] : List AssetV).length))]) (m' := []) ?_ ?_ ?_ ?_) ⟨[], l, rfl, rfl, rfl⟩ ?_
    · simp only [leV, look_cons, Nat.reduceBEq, cond_true, cond_false, assetsD, len_map]; exact ⟨VLe.refl _, VLe.refl _, VLe.refl _, trivial⟩
    · exact trivial
    · simp [wfV, AV.ids, AV.idsL, lookR]
    · simp [wfR, AV.idsL, AV.ids]
    rintro m s ⟨pre, post, rfl, rfl, rfl⟩
    refine awp_seq fun K2 hK2 => ?_
    refine awp_seq fun K3 hK3 => ?_
    refine awp_plain F_mixed [some 11, some 12, some 13, some 14] rfl ?_
    simp only [zzK, Nat.reduceLT, Nat.reduceLeDiff, Nat.reduceBEq, evS_move, evS_call, zz12, F_sl38, Option.isSome_some, zz21, gr_v, zz22, assetsD, len_map, zz6, Nat.reduceEqDiff, ↓reduceIte]
    refine hK3 _ ?_; try clear hK3 K3
    refine awp_keepL [0, 1, 5, 14] ?_
    simp only [zzJ, Nat.reduceBEq]
    refine awp_condS _ (by decide) (by simp only [look_cons, Nat.reduceBEq, cond_true, cond_false]; rfl) ?_ ?_
    · intro hb
      obtain ⟨x, post, rfl⟩ := more_of hb; clear hb
      refine awp_skip ?_
      simp only [zz6, Nat.reduceEqDiff, ↓reduceIte]
      refine hK2 _ ?_; try clear hK2 K2
      refine awp_keepL [0, 1, 5] ?_
      simp only [zzJ, Nat.reduceBEq]
      refine awp_seq fun K2 hK2 => ?_
      refine awp_block ?_
      refine awp_seq fun K3 hK3 => ?_
      refine awp_draw F_mixed [some 17, some 18, some 19, some 20, some 21, some 22, some 23, some 24, some 25, some 26] rfl (by kernel_rfl) ?_
      simp only [zzK, Nat.reduceLT, Nat.reduceLeDiff, Nat.reduceBEq, evS_move, evS_indexAddr, zz23, zz24, F_sl38, F_sz115, Option.map_some, zzC, yyE, reduceCtorEq, F_ok115, F_ag115, zz8, zzD, Nat.reduceAdd, Nat.zero_add, zzH, evS_call, evC_value, zz29, gr_v, zz30, assetsD, assetC, getD_mid, len_map, lt_mid, ge_mid, D.agg.injEq, zz6, Nat.reduceEqDiff, ↓reduceIte]
      refine call_go F_go79 (fun hG => kAsset_ x) (by simp [AV.ids, AV.idsL]) (by simp) ?_
      simp only [zzK, Nat.reduceLT, Nat.reduceLeDiff, Nat.reduceBEq, evS_move, evS_indexAddr, zz23, zz24, F_sl38, F_sz115, Option.map_some, zzC, yyE, reduceCtorEq, F_ok115, F_ag115, zz8, zzD, Nat.reduceAdd, Nat.zero_add, zzH, evS_call, evC_value, zz29, gr_v, zz30, assetsD, assetC, getD_mid, len_map, lt_mid, ge_mid, D.agg.injEq, zz6, Nat.reduceEqDiff, ↓reduceIte, atsL, oksG, freeN, AV.ren, AV.renL, addRows, ORow.row, Nat.reduceMul, Nat.reduceAdd, zz9, Option.bind_some, Option.map_some, S_mem, yyF, List.length_cons, zz2]
      refine hK3 _ ?_; try clear hK3 K3
      refine awp_keepL [0, 1, 5, 26] ?_
      simp only [zzJ, Nat.reduceBEq]
      refine awp_condS _ (by decide) (by simp only [look_cons, Nat.reduceBEq, cond_true, cond_false]; rfl) ?_ ?_
      · intro hb
        simp at hb
      · intro hb
        clear hb
        refine awp_skip ?_
        simp only [zz6, Nat.reduceEqDiff, ↓reduceIte]
        refine hK2 _ ?_; try clear hK2 K2
        refine awp_keepL [0, 1, 5] ?_
        simp only [zzJ, Nat.reduceBEq]
        refine awp_plain F_mixed [some 15, some 16, some 5] rfl ?_
        simp only [zzK, Nat.reduceLT, Nat.reduceLeDiff, Nat.reduceBEq, evS_move, zz21, gr_v, zz26, evS_assign, zz6, Nat.reduceEqDiff, ↓reduceIte]
        refine ⟨post.length, _, by simp, le_SK id [] rfl (l' := [(0, .d (assetsD (pre ++ x :: post))), (1, .d (assetsD (pre ++ x :: post))), (5, .d (iv (pre ++ [x]).length))]) (m' := []) ?_ ?_ ?_ ?_, pre ++ [x], post, by simp, rfl, rfl⟩
        · simp only [leV, look_cons, Nat.reduceBEq, cond_true, cond_false, assetsD, len_map, wrap_len pre x (by simp at hl; omega)]; exact ⟨VLe.refl _, VLe.refl _, VLe.refl _, trivial⟩
        · exact trivial
        · simp [wfV, AV.ids, AV.idsL, lookR]
        · simp [wfR, AV.idsL, AV.ids]
    · intro hb
      clear hb
      refine awp_exit ?_
      simp only [zz6, Nat.reduceEqDiff, ↓reduceIte]
      refine hK0 _ ?_; try clear hK0 K0
      refine awp_keepL [] ?_
      simp only [zzJ, Nat.reduceBEq]
      refine awp_seq fun K0 hK0 => ?_
      refine awp_plain F_mixed [some 4] rfl ?_
      simp only [zzK, Nat.reduceLT, Nat.reduceLeDiff, Nat.reduceBEq, evS_assign, zz6, Nat.reduceEqDiff, ↓reduceIte]
      refine hK0 _ ?_; try clear hK0 K0
      refine awp_keepL [4] ?_
      simp only [zzJ, Nat.reduceBEq]
      refine awp_ret ?_
      simp only [zz6, Nat.reduceEqDiff, ↓reduceIte]
      refine done0 (by simp only [resCs, resC]; trivial) ?_ (by simp [flatA, flatAs, flatD]) (by simp [AV.ids, AV.idsL])
      simp only [List.map_cons, List.map_nil, resA, S_getD, Nat.reduceLT, Nat.reduceLeDiff, look_cons, Nat.reduceBEq, cond_true, cond_false, resAll]
      
theorem kRoll_ (r : RollV) (h : r.Small) : ACalls Try.prog 24 [.agg (rollC r), .agg (rollC r)] [] (bv true) := by
  refine acalls_S (rs := [.tmp 4]) Try.func24 rfl rfl 24 [(0, .d (.agg (rollC r))), (1, .d (.agg (rollC r)))] rfl (by simp) rfl ?_
  refine awp_seq fun K0 hK0 => ?_
  refine awp_plain F_mixed [some 2, some 3, some 4] rfl ?_
  simp only [zzK, Nat.reduceLT, Nat.reduceLeDiff, Nat.reduceBEq, zz35, newRow1, zz1, zzG, zzD, zzC, Option.map_some, yyE, reduceCtorEq, Nat.reduceAdd, Nat.zero_add, zzH, evS_assign, rollC, memsD, instsD, assetsD, zz6, Nat.reduceEqDiff, ↓reduceIte]
  refine hK0 _ ?_; try clear hK0 K0
  refine awp_keepL [2, 3] ?_
  simp only [zzJ, Nat.reduceBEq]
  refine awp_seq fun K0 hK0 => ?_
  refine awp_plain F_mixed [some 5, some 6, some 7, some 8, some 9, some 10, some 11, some 12, some 13, some 14, some 15, some 16, some 17, some 18, some 19, some 20, some 21, some 22, some 23, some 4] rfl ?_
  simp only [zzK, Nat.reduceLT, Nat.reduceLeDiff, Nat.reduceBEq, Nat.reduceSub, S_getD, zz5, and_imp, imp_and, imp_self, zz19, zz23, F_off40_0, zzH, Nat.zero_add, Nat.reduceAdd, F_ok36, F_ag36, F_sz36, zz8, zzD, zzC, Option.map_some, yyE, reduceCtorEq, evS_call, evC_value, evS_move, F_off40_1, F_ok37, F_ag37, F_sz37, zz13, pickK_l, pickK_r, F_off40_2, F_ok38, F_ag38, F_sz38, evS_assign, memsD, instsD, assetsD, zz6, Nat.reduceEqDiff, ↓reduceIte]
  refine call_go F_go48 (fun hG => kMems_ r.mems h.mems) (by simp [AV.ids, AV.idsL]) (by simp) ?_
  simp only [zzK, Nat.reduceLT, Nat.reduceLeDiff, Nat.reduceBEq, Nat.reduceSub, S_getD, zz5, and_imp, imp_and, imp_self, zz19, zz23, F_off40_0, zzH, Nat.zero_add, Nat.reduceAdd, F_ok36, F_ag36, F_sz36, zz8, zzD, zzC, Option.map_some, yyE, reduceCtorEq, evS_call, evC_value, evS_move, F_off40_1, F_ok37, F_ag37, F_sz37, zz13, pickK_l, pickK_r, F_off40_2, F_ok38, F_ag38, F_sz38, evS_assign, memsD, instsD, assetsD, zz6, Nat.reduceEqDiff, ↓reduceIte, atsL, oksG, freeN, AV.ren, AV.renL, addRows, ORow.row, Nat.reduceMul, Nat.reduceAdd, zz9, Option.bind_some, Option.map_some, S_mem, yyF, List.length_cons, zz2]
  refine call_go F_go49 (fun hG => kInsts_ r.insts h.insts) (by simp [AV.ids, AV.idsL]) (by simp) ?_
  simp only [zzK, Nat.reduceLT, Nat.reduceLeDiff, Nat.reduceBEq, Nat.reduceSub, S_getD, zz5, and_imp, imp_and, imp_self, zz19, zz23, F_off40_0, zzH, Nat.zero_add, Nat.reduceAdd, F_ok36, F_ag36, F_sz36, zz8, zzD, zzC, Option.map_some, yyE, reduceCtorEq, evS_call, evC_value, evS_move, F_off40_1, F_ok37, F_ag37, F_sz37, zz13, pickK_l, pickK_r, F_off40_2, F_ok38, F_ag38, F_sz38, evS_assign, memsD, instsD, assetsD, zz6, Nat.reduceEqDiff, ↓reduceIte, atsL, oksG, freeN, AV.ren, AV.renL, addRows, ORow.row, Nat.reduceMul, Nat.reduceAdd, zz9, Option.bind_some, Option.map_some, S_mem, yyF, List.length_cons, zz2]
  refine call_go F_go50 (fun hG => kAssets_ r.assets h.assets) (by simp [AV.ids, AV.idsL]) (by simp) ?_
  simp only [zzK, Nat.reduceLT, Nat.reduceLeDiff, Nat.reduceBEq, Nat.reduceSub, S_getD, zz5, and_imp, imp_and, imp_self, zz19, zz23, F_off40_0, zzH, Nat.zero_add, Nat.reduceAdd, F_ok36, F_ag36, F_sz36, zz8, zzD, zzC, Option.map_some, yyE, reduceCtorEq, evS_call, evC_value, evS_move, F_off40_1, F_ok37, F_ag37, F_sz37, zz13, pickK_l, pickK_r, F_off40_2, F_ok38, F_ag38, F_sz38, evS_assign, memsD, instsD, assetsD, zz6, Nat.reduceEqDiff, ↓reduceIte, atsL, oksG, freeN, AV.ren, AV.renL, addRows, ORow.row, Nat.reduceMul, Nat.reduceAdd, zz9, Option.bind_some, Option.map_some, S_mem, yyF, List.length_cons, zz2]
  refine hK0 _ ?_; try clear hK0 K0
  refine awp_keepL [4] ?_
  simp only [zzJ, Nat.reduceBEq]
  refine awp_ret ?_
  simp only [zz6, Nat.reduceEqDiff, ↓reduceIte]
  refine done0 (by simp only [resCs, resC]; trivial) ?_ (by simp [flatA, flatAs, flatD]) (by simp [AV.ids, AV.idsL])
  simp only [List.map_cons, List.map_nil, resA, S_getD, Nat.reduceLT, Nat.reduceLeDiff, look_cons, Nat.reduceBEq, cond_true, cond_false, resAll]
  
theorem twinRoll_ (r : RollV) (h : r.Small) : ACalls Try.prog 16 [.agg (rollC r)] [⟨107, 3, r.mems.map memC⟩, ⟨33, 12, r.insts.map instC⟩, ⟨115, 4, r.assets.map assetC⟩] (.ag [.ref 0 r.mems.length, .ref 1 r.insts.length, .ref 2 r.assets.length]) := by
  refine acalls_S (rs := [.cell 2 40]) Try.func16 rfl rfl 23 [(0, .d (.agg (rollC r)))] rfl (by simp) rfl ?_
  refine awp_seq fun K0 hK0 => ?_
  refine awp_plain F_mixed [some 1, some 2] rfl ?_
  simp only [zzK, Nat.reduceLT, Nat.reduceLeDiff, Nat.reduceBEq, zz35, newRow1, zz1, zzG, zzD, zzC, Option.map_some, yyE, reduceCtorEq, Nat.reduceAdd, Nat.zero_add, zzH, zz32, F_zero40, zz10, rollC, memsD, instsD, assetsD, zz6, Nat.reduceEqDiff, ↓reduceIte]
  refine hK0 _ ?_; try clear hK0 K0
  refine awp_keepL [1, 2] ?_
  simp only [zzJ, Nat.reduceBEq]
  refine awp_seq fun K0 hK0 => ?_
  refine awp_plain F_mixed [some 3] rfl ?_
  simp only [zzK, Nat.reduceLT, Nat.reduceLeDiff, Nat.reduceBEq, zz32, newRow1, F_zero40, zzC, Option.map_some, yyE, reduceCtorEq, zzD, Nat.reduceAdd, Nat.zero_add, zzH, zz10, zz6, Nat.reduceEqDiff, ↓reduceIte]
  refine hK0 _ ?_; try clear hK0 K0
  refine awp_keepL [1, 2, 3] ?_
  simp only [zzJ, Nat.reduceBEq]
  refine awp_seq fun K0 hK0 => ?_
  refine awp_plain F_mixed [some 4, some 5, some 6, some 7, some 8, some 9, none] rfl ?_
  simp only [zzK, Nat.reduceLT, Nat.reduceLeDiff, Nat.reduceBEq, zz19, zz23, F_off40_0, zzH, Nat.zero_add, Nat.reduceAdd, F_ok36, F_ag36, F_sz36, zz8, zzD, zzC, Option.map_some, yyE, reduceCtorEq, evS_call, F_sl36, F_zero107, F_sz107, F_by107, zz4, maxLen_le, Nat.reduceMul, newRow1, zz9, Option.bind_some, zz18, splice, List.append_nil, zz1, zzG, len_map, zz6, Nat.reduceEqDiff, ↓reduceIte]
  refine ⟨le_maxLen h.mems, by have := h.mems; omega, ?_⟩
  refine hK0 _ ?_; try clear hK0 K0
  refine awp_keepL [1, 2, 3] ?_
  simp only [zzJ, Nat.reduceBEq]
  refine awp_seq fun K0 hK0 => ?_
  refine awp_plain F_mixed [some 10, some 11, some 12, some 13, some 14, some 15, none] rfl ?_
  simp only [zzK, Nat.reduceLT, Nat.reduceLeDiff, Nat.reduceBEq, zz19, zz23, F_off40_1, zzH, Nat.zero_add, Nat.reduceAdd, F_ok37, F_ag37, F_sz37, zz8, zzD, zzC, Option.map_some, yyE, reduceCtorEq, evS_call, F_sl37, F_zero33, F_sz33, F_by33, zz4, maxLen_le, Nat.reduceMul, newRow1, zz9, Option.bind_some, zz18, splice, List.append_nil, zz1, zzG, len_map, zz6, Nat.reduceEqDiff, ↓reduceIte]
  refine ⟨le_maxLen h.insts, by have := h.insts; omega, ?_⟩
  refine hK0 _ ?_; try clear hK0 K0
  refine awp_keepL [1, 2, 3] ?_
  simp only [zzJ, Nat.reduceBEq]
  refine awp_seq fun K0 hK0 => ?_
  refine awp_plain F_mixed [some 16, some 17, some 18, some 19, some 20, some 21, none] rfl ?_
  simp only [zzK, Nat.reduceLT, Nat.reduceLeDiff, Nat.reduceBEq, zz19, zz23, F_off40_2, zzH, Nat.zero_add, Nat.reduceAdd, F_ok38, F_ag38, F_sz38, zz8, zzD, zzC, Option.map_some, yyE, reduceCtorEq, evS_call, F_sl38, F_zero115, F_sz115, F_by115, zz4, maxLen_le, Nat.reduceMul, newRow1, zz9, Option.bind_some, zz18, splice, List.append_nil, zz1, zzG, len_map, zz6, Nat.reduceEqDiff, ↓reduceIte]
  refine ⟨le_maxLen h.assets, by have := h.assets; omega, ?_⟩
  refine hK0 _ ?_; try clear hK0 K0
  refine awp_keepL [2, 3] ?_
  simp only [zzJ, Nat.reduceBEq]
  refine awp_seq fun K0 hK0 => ?_
  refine awp_plain F_mixed [some 22, none] rfl ?_
  simp only [zzK, Nat.reduceLT, Nat.reduceLeDiff, Nat.reduceBEq, F_ok40, F_ag40, F_sz40, zz8, zz23, zzD, Nat.reduceAdd, Nat.zero_add, zzH, zzC, Option.map_some, yyE, reduceCtorEq, zz18, splice, List.append_nil, zz1, zzG, zz6, Nat.reduceEqDiff, ↓reduceIte]
  refine hK0 _ ?_; try clear hK0 K0
  refine awp_keepL [2] ?_
  simp only [zzJ, Nat.reduceBEq]
  refine awp_ret ?_
  simp only [zz6, Nat.reduceEqDiff, ↓reduceIte]
  refine doneN [8, 14, 20] (by simp [resCs, resC, S, List.getD, look_cons, lookR, F_ag40, F_sz40, F_ok40]) ?_ (by simp [flatA, flatAs, flatD, ]) (by simp [AV.ids, AV.idsL, ]) (by decide) ?_
  · simp only [List.map_cons, List.map_nil, resA, S_getD, S_mem, lookR_cons, lookR_nil, Nat.reduceLT, Nat.reduceLeDiff, look_cons, Nat.reduceBEq, cond_true, cond_false, resAll, List.getD_cons_zero, List.getD_cons_succ, List.drop_zero, List.drop_succ_cons, List.take_succ_cons, List.take_zero, F_ag40, F_sz40, F_ok40]; rfl
  · exact ⟨⟨_, rfl, trivial, rfl, rfl, rfl, rfl⟩, by simp [flatDs, flatD, memC], ⟨_, rfl, trivial, rfl, rfl, rfl, rfl⟩, by simp [flatDs, flatD, instC], ⟨_, rfl, trivial, rfl, rfl, rfl, rfl⟩, by simp [flatDs, flatD, assetC], trivial⟩
theorem twinRollF (r : RollV) (h : r.Small) : ACalls Try.prog 16 [.agg (rollC r)] [] (.d (.agg (rollC r))) :=
  (twinRoll_ r h).freeze (by simp [frzOk, frzOkL])
theorem kDue_ (d : DueV) : ACalls Try.prog 46 [.agg (dueC d), .agg (dueC d)] [] (bv true) := by
  refine acalls_S (rs := [.tmp 4]) Try.func46 rfl rfl 24 [(0, .d (.agg (dueC d))), (1, .d (.agg (dueC d)))] rfl (by simp) rfl ?_
  refine awp_seq fun K0 hK0 => ?_
  refine awp_plain F_mixed [some 2, some 3, some 4] rfl ?_
  simp only [zzK, Nat.reduceLT, Nat.reduceLeDiff, Nat.reduceBEq, zz35, newRow1, zz1, zzG, zzD, zzC, Option.map_some, yyE, reduceCtorEq, Nat.reduceAdd, Nat.zero_add, zzH, evS_assign, dueC, zz6, Nat.reduceEqDiff, ↓reduceIte]
  refine hK0 _ ?_; try clear hK0 K0
  refine awp_keepL [2, 3] ?_
  simp only [zzJ, Nat.reduceBEq]
  refine awp_seq fun K0 hK0 => ?_
  refine awp_plain F_mixed [some 5, some 6, some 7, some 8, some 9, some 10, some 11, some 12, some 13, some 14, some 15, some 16, some 17, some 18, some 19, some 20, some 21, some 22, some 23, some 4] rfl ?_
  simp only [zzK, Nat.reduceLT, Nat.reduceLeDiff, Nat.reduceBEq, Nat.reduceSub, S_getD, zz5, and_imp, imp_and, imp_self, zz19, zz23, F_off68_0, zzH, Nat.zero_add, Nat.reduceAdd, F_ok3, F_ag3, F_sz3, zz8, zzD, zzC, Option.map_some, yyE, reduceCtorEq, zz21, gr_v, zz34, evS_move, F_off68_1, zz13, pickK_l, pickK_r, F_off68_2, evS_assign, zz6, Nat.reduceEqDiff, ↓reduceIte]
  refine hK0 _ ?_; try clear hK0 K0
  refine awp_keepL [4] ?_
  simp only [zzJ, Nat.reduceBEq]
  refine awp_ret ?_
  simp only [zz6, Nat.reduceEqDiff, ↓reduceIte]
  refine done0 (by simp only [resCs, resC]; trivial) ?_ (by simp [flatA, flatAs, flatD]) (by simp [AV.ids, AV.idsL])
  simp only [List.map_cons, List.map_nil, resA, S_getD, Nat.reduceLT, Nat.reduceLeDiff, look_cons, Nat.reduceBEq, cond_true, cond_false, resAll]
  simp
theorem kDues_ (l : List DueV) (hl : l.length ≤ 1000000) : ACalls Try.prog 21 [dues l, dues l] [] (bv true) := by
  refine acalls_S (rs := [.tmp 4]) Try.func21 rfl rfl 27 [(0, .d (dues l)), (1, .d (dues l))] rfl (by simp) rfl ?_
  refine awp_seq fun K0 hK0 => ?_
  refine awp_plain F_mixed [some 4] rfl ?_
  simp only [zzK, Nat.reduceLT, Nat.reduceLeDiff, Nat.reduceBEq, evS_assign, zz6, Nat.reduceEqDiff, ↓reduceIte]
  refine hK0 _ ?_; try clear hK0 K0
  refine awp_keepL [0, 1] ?_
  simp only [zzJ, Nat.reduceBEq]
  refine awp_seq fun K0 hK0 => ?_
  refine awp_seq fun K1 hK1 => ?_
  refine awp_plain F_mixed [some 6, some 7, some 8, some 9, some 10] rfl ?_
  simp only [zzK, Nat.reduceLT, Nat.reduceLeDiff, Nat.reduceBEq, evS_move, evS_call, zz12, F_sl53, Option.isSome_some, zz21, gr_v, zz28, dues, len_map, zz6, Nat.reduceEqDiff, ↓reduceIte]
  refine hK1 _ ?_; try clear hK1 K1
  refine awp_keepL [0, 1, 10] ?_
  simp only [zzJ, Nat.reduceBEq]
  refine awp_condS _ (by decide) (by simp only [look_cons, Nat.reduceBEq, cond_true, cond_false]; rfl) ?_ ?_
  · intro hb
    simp at hb
  · intro hb
    clear hb
    refine awp_skip ?_
    simp only [zz6, Nat.reduceEqDiff, ↓reduceIte]
    refine hK0 _ ?_; try clear hK0 K0
    refine awp_keepL [0, 1] ?_
    simp only [zzJ, Nat.reduceBEq]
    refine awp_seq fun K0 hK0 => ?_
    refine awp_seq fun K1 hK1 => ?_
    refine awp_plain F_mixed [some 5] rfl ?_
    simp only [zzK, Nat.reduceLT, Nat.reduceLeDiff, Nat.reduceBEq, evS_assign, zz6, Nat.reduceEqDiff, ↓reduceIte]
    refine hK1 _ ?_; try clear hK1 K1
    refine awp_keepL [0, 1, 5] ?_
    simp only [zzJ, Nat.reduceBEq]
    refine awp_block ?_
    refine awp_loop (fun m s => ∃ pre post : List DueV, l = pre ++ post ∧ m = post.length ∧ s = S 27 [(0, .d (dues l)), (1, .d (dues l)), (5, .d (iv pre.length))] []) l.length _ (le_SK id [] rfl (l' := [(0, .d (dues l)), (1, .d (dues l)), (5, .d (iv ([] : List DueV).length))]) (m' := []) ?_ ?_ ?_ ?_) ⟨[], l, rfl, rfl, rfl⟩ ?_
    · simp only [leV, look_cons, Nat.reduceBEq, cond_true, cond_false, dues, len_map]; exact ⟨VLe.refl _, VLe.refl _, VLe.refl _, trivial⟩
    · exact trivial
    · simp [wfV, AV.ids, AV.idsL, lookR]
    · simp [wfR, AV.idsL, AV.ids]
    rintro m s ⟨pre, post, rfl, rfl, rfl⟩
    refine awp_seq fun K2 hK2 => ?_
    refine awp_seq fun K3 hK3 => ?_
    refine awp_plain F_mixed [some 11, some 12, some 13, some 14] rfl ?_
    simp only [zzK, Nat.reduceLT, Nat.reduceLeDiff, Nat.reduceBEq, evS_move, evS_call, zz12, F_sl53, Option.isSome_some, zz21, gr_v, zz22, dues, len_map, zz6, Nat.reduceEqDiff, ↓reduceIte]
    refine hK3 _ ?_; try clear hK3 K3
    refine awp_keepL [0, 1, 5, 14] ?_
    simp only [zzJ, Nat.reduceBEq]
    refine awp_condS _ (by decide) (by simp only [look_cons, Nat.reduceBEq, cond_true, cond_false]; rfl) ?_ ?_
    · intro hb
      obtain ⟨x, post, rfl⟩ := more_of hb; clear hb
      refine awp_skip ?_
      simp only [zz6, Nat.reduceEqDiff, ↓reduceIte]
      refine hK2 _ ?_; try clear hK2 K2
      refine awp_keepL [0, 1, 5] ?_
      simp only [zzJ, Nat.reduceBEq]
      refine awp_seq fun K2 hK2 => ?_
      refine awp_block ?_
      refine awp_seq fun K3 hK3 => ?_
      refine awp_draw F_mixed [some 17, some 18, some 19, some 20, some 21, some 22, some 23, some 24, some 25, some 26] rfl (by kernel_rfl) ?_
      simp only [zzK, Nat.reduceLT, Nat.reduceLeDiff, Nat.reduceBEq, evS_move, evS_indexAddr, zz23, zz24, F_sl53, F_sz68, Option.map_some, zzC, yyE, reduceCtorEq, F_ok68, F_ag68, zz8, zzD, Nat.reduceAdd, Nat.zero_add, zzH, evS_call, evC_value, zz29, gr_v, zz30, dues, dueC, getD_mid, len_map, lt_mid, ge_mid, D.agg.injEq, zz6, Nat.reduceEqDiff, ↓reduceIte]
      refine call_go F_go46 (fun hG => kDue_ x) (by simp [AV.ids, AV.idsL]) (by simp) ?_
      simp only [zzK, Nat.reduceLT, Nat.reduceLeDiff, Nat.reduceBEq, evS_move, evS_indexAddr, zz23, zz24, F_sl53, F_sz68, Option.map_some, zzC, yyE, reduceCtorEq, F_ok68, F_ag68, zz8, zzD, Nat.reduceAdd, Nat.zero_add, zzH, evS_call, evC_value, zz29, gr_v, zz30, dues, dueC, getD_mid, len_map, lt_mid, ge_mid, D.agg.injEq, zz6, Nat.reduceEqDiff, ↓reduceIte, atsL, oksG, freeN, AV.ren, AV.renL, addRows, ORow.row, Nat.reduceMul, Nat.reduceAdd, zz9, Option.bind_some, Option.map_some, S_mem, yyF, List.length_cons, zz2]
      refine hK3 _ ?_; try clear hK3 K3
      refine awp_keepL [0, 1, 5, 26] ?_
      simp only [zzJ, Nat.reduceBEq]
      refine awp_condS _ (by decide) (by simp only [look_cons, Nat.reduceBEq, cond_true, cond_false]; rfl) ?_ ?_
      · intro hb
        simp at hb
      · intro hb
        clear hb
        refine awp_skip ?_
        simp only [zz6, Nat.reduceEqDiff, ↓reduceIte]
        refine hK2 _ ?_; try clear hK2 K2
        refine awp_keepL [0, 1, 5] ?_
        simp only [zzJ, Nat.reduceBEq]
        refine awp_plain F_mixed [some 15, some 16, some 5] rfl ?_
        simp only [zzK, Nat.reduceLT, Nat.reduceLeDiff, Nat.reduceBEq, evS_move, zz21, gr_v, zz26, evS_assign, zz6, Nat.reduceEqDiff, ↓reduceIte]
        refine ⟨post.length, _, by simp, le_SK id [] rfl (l' := [(0, .d (dues (pre ++ x :: post))), (1, .d (dues (pre ++ x :: post))), (5, .d (iv (pre ++ [x]).length))]) (m' := []) ?_ ?_ ?_ ?_, pre ++ [x], post, by simp, rfl, rfl⟩
        · simp only [leV, look_cons, Nat.reduceBEq, cond_true, cond_false, dues, len_map, wrap_len pre x (by simp at hl; omega)]; exact ⟨VLe.refl _, VLe.refl _, VLe.refl _, trivial⟩
        · exact trivial
        · simp [wfV, AV.ids, AV.idsL, lookR]
        · simp [wfR, AV.idsL, AV.ids]
    · intro hb
      clear hb
      refine awp_exit ?_
      simp only [zz6, Nat.reduceEqDiff, ↓reduceIte]
      refine hK0 _ ?_; try clear hK0 K0
      refine awp_keepL [] ?_
      simp only [zzJ, Nat.reduceBEq]
      refine awp_seq fun K0 hK0 => ?_
      refine awp_plain F_mixed [some 4] rfl ?_
      simp only [zzK, Nat.reduceLT, Nat.reduceLeDiff, Nat.reduceBEq, evS_assign, zz6, Nat.reduceEqDiff, ↓reduceIte]
      refine hK0 _ ?_; try clear hK0 K0
      refine awp_keepL [4] ?_
      simp only [zzJ, Nat.reduceBEq]
      refine awp_ret ?_
      simp only [zz6, Nat.reduceEqDiff, ↓reduceIte]
      refine done0 (by simp only [resCs, resC]; trivial) ?_ (by simp [flatA, flatAs, flatD]) (by simp [AV.ids, AV.idsL])
      simp only [List.map_cons, List.map_nil, resA, S_getD, Nat.reduceLT, Nat.reduceLeDiff, look_cons, Nat.reduceBEq, cond_true, cond_false, resAll]
      
theorem spoilDues_ (l : List DueV) (hl : l.length ≤ 1000000) : MCalls Try.prog 23 [.m 0] [⟨68, 3, l.map dueC⟩] [⟨68, 3, (l.map spoilD).map dueC⟩] [] (.tp []) := by
  refine mcalls_S (rs := []) Try.func23 rfl rfl 13 [(0, .ref 1000000000 (l.map dueC).length)] [(1000000000, (⟨True, 68, 3, true, false, 1000000000, (l.map dueC).map (·.map .d)⟩ : ARow))] rfl (by simp) (by rfl) (by rfl) (by rfl) (by rfl) (by rfl) ?_
  simp only [avC_map, len_map]
  refine awp_seq fun K0 hK0 => ?_
  refine awp_plain F_mixed [some 2] rfl ?_
  simp only [zzK, Nat.reduceLT, Nat.reduceLeDiff, Nat.reduceBEq, evS_assign, zz6, Nat.reduceEqDiff, ↓reduceIte]
  refine hK0 _ ?_; try clear hK0 K0
  refine awp_keepL [0, 2] ?_
  simp only [zzJ, Nat.reduceBEq]
  refine awp_block ?_
  refine awp_loop (fun m s => ∃ A pre post : List DueV, l = pre ++ post ∧ A = pre.map spoilD ∧ m = post.length ∧ s = S 13 [(0, .ref 1000000000 (A ++ post).length), (2, .d (iv A.length))] [(1000000000, (⟨True, 68, 3, true, false, 1000000000, (A ++ post).map (avC dueC)⟩ : ARow))]) l.length _ (le_SK id [] rfl (l' := [(0, .ref 1000000000 (([] : List DueV) ++ l).length), (2, .d (iv ([] : List DueV).length))]) (m' := [(1000000000, (⟨True, 68, 3, true, false, 1000000000, (([] : List DueV) ++ l).map (avC dueC)⟩ : ARow))]) ?_ ?_ ?_ ?_) ⟨[], [], l, rfl, rfl, rfl, rfl⟩ ?_
  · simp only [leV, look_cons, Nat.reduceBEq, cond_true, cond_false]; exact ⟨VLe.refl _, VLe.refl _, trivial⟩
  · exact ⟨fun _ => ⟨_, rfl, RowLe.same (by simp) (idsL_avC _ _)⟩, fun h => by simp at h, trivial⟩
  · simp [wfV, AV.ids, lookR]
  · exact ⟨fun e he r' hr' => by rw [idsL_avC _ _ e he] at hr'; simp at hr', trivial⟩
  rintro m s ⟨A, pre, post, hsp, hA, rfl, rfl⟩
  refine awp_seq fun K1 hK1 => ?_
  refine awp_seq fun K2 hK2 => ?_
  refine awp_plain F_mixed [some 3, some 4, some 5, some 6] rfl ?_
  simp only [zzK, Nat.reduceLT, Nat.reduceLeDiff, Nat.reduceBEq, evS_move, evS_call, zz12, F_sl53, Option.isSome_some, zz21, gr_v, zz22, zz6, Nat.reduceEqDiff, ↓reduceIte]
  refine hK2 _ ?_; try clear hK2 K2
  refine awp_keepL [0, 2, 6] ?_
  simp only [zzJ, Nat.reduceBEq]
  refine awp_condS _ (by decide) (by simp only [look_cons, Nat.reduceBEq, cond_true, cond_false]; rfl) ?_ ?_
  · intro hb
    obtain ⟨x, post, rfl⟩ := more_of hb; clear hb
    have hw : IntKind.wrap .i64 ((A.length : Int) + 1) = ((A ++ [spoilD x]).length : Int) := by
      have e := congrArg List.length hsp
      simp only [List.length_append, List.length_cons] at e
      have e2 : A.length = pre.length := by rw [hA]; simp
      rw [wrapI (by omega) (by omega)]; simp
    refine awp_skip ?_
    simp only [zz6, Nat.reduceEqDiff, ↓reduceIte]
    refine hK1 _ ?_; try clear hK1 K1
    refine awp_keepL [0, 2] ?_
    simp only [zzJ, Nat.reduceBEq]
    refine awp_seq fun K1 hK1 => ?_
    refine awp_block ?_
    refine awp_plain F_mixed [some 9, some 10, some 11, some 12, none] rfl ?_
    simp only [zzK, Nat.reduceLT, Nat.reduceLeDiff, Nat.reduceBEq, evS_move, evS_indexAddr, zz23, zz24, F_sl53, F_sz68, Option.map_some, zzC, yyE, reduceCtorEq, zz19, F_off68_0, zzH, Nat.zero_add, Nat.reduceAdd, zz18, F_ok3, F_sz3, splice, List.append_nil, zzD, zz1, zzG, getD_mid, len_map, lt_mid, ge_mid, lt_midN, set_mid, avC, dueC, List.map_cons, zz6, Nat.reduceEqDiff, ↓reduceIte]
    refine hK1 _ ?_; try clear hK1 K1
    refine awp_keepL [0, 2] ?_
    simp only [zzJ, Nat.reduceBEq]
    refine awp_plain F_mixed [some 7, some 8, some 2] rfl ?_
    simp only [zzK, Nat.reduceLT, Nat.reduceLeDiff, Nat.reduceBEq, evS_move, zz21, gr_v, zz26, evS_assign, zz6, Nat.reduceEqDiff, ↓reduceIte]
    refine ⟨post.length, _, by simp, le_SK id [] rfl (l' := [(0, .ref 1000000000 ((A ++ [spoilD x]) ++ post).length), (2, .d (iv (A ++ [spoilD x]).length))]) (m' := [(1000000000, (⟨True, 68, 3, true, false, 1000000000, ((A ++ [spoilD x]) ++ post).map (avC dueC)⟩ : ARow))]) ?_ ?_ ?_ ?_, A ++ [spoilD x], pre ++ [x], post, by simp [hsp], by simp [hA], rfl, rfl⟩
    · simp only [leV, look_cons, Nat.reduceBEq, cond_true, cond_false, hw]
      refine ⟨?_, VLe.refl _, trivial⟩
      rw [show (A ++ x :: post).length = (A ++ [spoilD x] ++ post).length from by simp]; exact VLe.refl _
    · exact ⟨fun _ => ⟨_, rfl, RowLe.same (by simp [avC, dueC, spoilD]) (by
        intro e he
        rcases List.mem_append.1 he with he | he
        · exact idsL_avC _ _ e he
        · rcases List.mem_cons.1 he with rfl | he
          · simp [AV.idsL, AV.ids]
          · exact idsL_avC _ _ e he)⟩, fun h => by simp at h, trivial⟩
    · simp [wfV, AV.ids, lookR]
    · exact ⟨fun e he r' hr' => by rw [idsL_avC _ _ e he] at hr'; simp at hr', trivial⟩
  · intro hb
    obtain rfl := none_of hb; clear hb
    simp only [List.append_nil] at hsp ⊢
    obtain rfl : l = pre := hsp
    subst hA
    refine awp_exit ?_
    simp only [zz6, Nat.reduceEqDiff, ↓reduceIte]
    try simp only [List.append_nil]
    refine doneM [] (by simp [resCs, resC, S, List.getD, look_cons, lookR, ]) ?_ (by simp [flatA, flatAs, flatD, ]) (by simp [AV.ids, AV.idsL, ]) (by decide) (by simp) ?_ ?_
    · simp only [List.map_cons, List.map_nil, resA, S_getD, S_mem, lookR_cons, lookR_nil, Nat.reduceLT, Nat.reduceLeDiff, look_cons, Nat.reduceBEq, cond_true, cond_false, resAll, List.getD_cons_zero, List.getD_cons_succ, List.drop_zero, List.drop_succ_cons, List.take_succ_cons, List.take_zero, ]; rfl
    · exact trivial
    · exact ⟨⟨_, rfl, trivial, rfl, rfl, (avC_map _ _).symm⟩, by simp [flatDs, flatD, dueC, spoilD], trivial⟩
set_option maxRecDepth 100000 in
set_option maxHeartbeats 4000000 in
theorem markExact_ (r : RollV) (b : BookV) (p : PosV) (mu pr : Int) (i : InstV) : ACalls Try.prog 5 [.agg (rollC r), .agg (bookC b), .agg (posC p), iv mu, iv pr, .agg (instC i)] [] (bv true) := by
  refine acalls_S (rs := [.tmp 12]) Try.func5 rfl rfl 144 [(0, .d (.agg (rollC r))), (1, .d (.agg (bookC b))), (2, .d (.agg (posC p))), (3, .d (iv mu)), (4, .d (iv pr)), (5, .d (.agg (instC i)))] rfl (by simp) rfl ?_
  refine awp_seq fun K0 hK0 => ?_
  refine awp_plain F_mixed [some 6, some 7, some 8, some 11, some 12] rfl ?_
  simp only [zzK, Nat.reduceLT, Nat.reduceLeDiff, Nat.reduceBEq, zz35, newRow1, zz1, zzG, zzD, zzC, Option.map_some, yyE, reduceCtorEq, Nat.reduceAdd, Nat.zero_add, zzH, evS_assign, rollC, memsD, instsD, assetsD, bookC, tradesB, poss, posC, instC, zz6, Nat.reduceEqDiff, ↓reduceIte]
  refine hK0 _ ?_; try clear hK0 K0
  refine awp_keepL [3, 4, 6, 7, 8, 11] ?_
  simp only [zzJ, Nat.reduceBEq]
  refine awp_seq fun K0 hK0 => ?_
  refine awp_seq fun K1 hK1 => ?_
  refine awp_plain F_mixed [some 25, some 26, some 27, some 28, some 29, some 30] rfl ?_
  simp only [zzK, Nat.reduceLT, Nat.reduceLeDiff, Nat.reduceBEq, Nat.reduceSub, S_getD, zz5, and_imp, imp_and, imp_self, F_ok40, F_ag40, F_sz40, zz8, zz23, zzD, Nat.reduceAdd, Nat.zero_add, zzH, zzC, Option.map_some, yyE, reduceCtorEq, evS_call, evC_value, evS_move, F_ok44, F_ag44, F_sz44, zz13, pickK_l, pickK_r, memsD, instsD, assetsD, rollC, D.agg.injEq, memA, memC, instA, instC, zzG, bookC, tradesB, poss, zz6, Nat.reduceEqDiff, ↓reduceIte]
  refine call_go F_go11 (fun hG => heavy_ r) (by simp [AV.ids, AV.idsL]) (by simp) ?_
  simp only [zzK, Nat.reduceLT, Nat.reduceLeDiff, Nat.reduceBEq, Nat.reduceSub, S_getD, zz5, and_imp, imp_and, imp_self, F_ok40, F_ag40, F_sz40, zz8, zz23, zzD, Nat.reduceAdd, Nat.zero_add, zzH, zzC, Option.map_some, yyE, reduceCtorEq, evS_call, evC_value, evS_move, F_ok44, F_ag44, F_sz44, zz13, pickK_l, pickK_r, memsD, instsD, assetsD, rollC, D.agg.injEq, memA, memC, instA, instC, zzG, bookC, tradesB, poss, zz6, Nat.reduceEqDiff, ↓reduceIte, atsL, oksG, freeN, AV.ren, AV.renL, addRows, ORow.row, Nat.reduceMul, Nat.reduceAdd, zz9, Option.bind_some, Option.map_some, S_mem, yyF, List.length_cons, zz2]
  refine call_go F_go12 (fun hG => heavyB_ b) (by simp [AV.ids, AV.idsL]) (by simp) ?_
  simp only [zzK, Nat.reduceLT, Nat.reduceLeDiff, Nat.reduceBEq, Nat.reduceSub, S_getD, zz5, and_imp, imp_and, imp_self, F_ok40, F_ag40, F_sz40, zz8, zz23, zzD, Nat.reduceAdd, Nat.zero_add, zzH, zzC, Option.map_some, yyE, reduceCtorEq, evS_call, evC_value, evS_move, F_ok44, F_ag44, F_sz44, zz13, pickK_l, pickK_r, memsD, instsD, assetsD, rollC, D.agg.injEq, memA, memC, instA, instC, zzG, bookC, tradesB, poss, zz6, Nat.reduceEqDiff, ↓reduceIte, atsL, oksG, freeN, AV.ren, AV.renL, addRows, ORow.row, Nat.reduceMul, Nat.reduceAdd, zz9, Option.bind_some, Option.map_some, S_mem, yyF, List.length_cons, zz2]
  refine hK1 _ ?_; try clear hK1 K1
  refine awp_keepL [3, 4, 6, 7, 8, 11, 30] ?_
  simp only [zzJ, Nat.reduceBEq]
  refine awp_condS _ (by decide) (by simp only [look_cons, Nat.reduceBEq, cond_true, cond_false]; rfl) ?_ ?_
  · intro hb
    clear hb
    refine awp_seq fun K2 hK2 => ?_
    refine awp_plain F_mixed [some 12] rfl ?_
    simp only [zzK, Nat.reduceLT, Nat.reduceLeDiff, Nat.reduceBEq, evS_assign, zz6, Nat.reduceEqDiff, ↓reduceIte]
    refine hK2 _ ?_; try clear hK2 K2
    refine awp_keepL [12] ?_
    simp only [zzJ, Nat.reduceBEq]
    refine awp_ret ?_
    simp only [zz6, Nat.reduceEqDiff, ↓reduceIte]
    refine done0 (by simp only [resCs, resC]; trivial) ?_ (by simp [flatA, flatAs, flatD]) (by simp [AV.ids, AV.idsL])
    simp only [List.map_cons, List.map_nil, resA, S_getD, Nat.reduceLT, Nat.reduceLeDiff, look_cons, Nat.reduceBEq, cond_true, cond_false, resAll]
    
  · intro hb
    simp only [Bool.or_eq_false_iff] at hb
    have h := small_of hb.1
    have hB := smallB_of hb.2
    clear hb
    have ht := hB.trades
    have hp := hB.poss
    have hRl := runTP_len r b
    refine awp_skip ?_
    simp only [zz6, Nat.reduceEqDiff, ↓reduceIte]
    refine hK0 _ ?_; try clear hK0 K0
    refine awp_keepL [3, 4, 6, 7, 8, 11] ?_
    simp only [zzJ, Nat.reduceBEq]
    refine awp_seq fun K0 hK0 => ?_
    refine awp_plain F_mixed [some 32, some 33, some 34, some 35, some 31, some 36, some 37, some 13, some 14] rfl ?_
    simp only [zzK, Nat.reduceLT, Nat.reduceLeDiff, Nat.reduceBEq, F_ok25, F_ag25, F_sz25, zz8, zz23, zzD, Nat.reduceAdd, Nat.zero_add, zzH, zzC, Option.map_some, yyE, reduceCtorEq, evS_move, evS_call, evC_value, zz14, evS_assign, posC, D.agg.injEq, zz6, Nat.reduceEqDiff, ↓reduceIte]
    refine call_go F_go8 (fun hG => Worth_ p mu pr) (by simp [AV.ids, AV.idsL]) (by simp) ?_
    simp only [zzK, Nat.reduceLT, Nat.reduceLeDiff, Nat.reduceBEq, F_ok25, F_ag25, F_sz25, zz8, zz23, zzD, Nat.reduceAdd, Nat.zero_add, zzH, zzC, Option.map_some, yyE, reduceCtorEq, evS_move, evS_call, evC_value, zz14, evS_assign, posC, D.agg.injEq, zz6, Nat.reduceEqDiff, ↓reduceIte, atsL, oksG, freeN, AV.ren, AV.renL, addRows, ORow.row, Nat.reduceMul, Nat.reduceAdd, zz9, Option.bind_some, Option.map_some, S_mem, yyF, List.length_cons, zz2]
    refine hK0 _ ?_; try clear hK0 K0
    refine awp_keepL [3, 4, 6, 7, 8, 11, 13, 14] ?_
    simp only [zzJ, Nat.reduceBEq]
    refine awp_seq fun K0 hK0 => ?_
    refine awp_plain F_mixed [some 38, some 39, some 40, some 41, some 15] rfl ?_
    simp only [zzK, Nat.reduceLT, Nat.reduceLeDiff, Nat.reduceBEq, F_ok25, F_ag25, F_sz25, zz8, zz23, zzD, Nat.reduceAdd, Nat.zero_add, zzH, zzC, Option.map_some, yyE, reduceCtorEq, evS_move, evS_call, evC_value, evS_assign, posC, D.agg.injEq, zz6, Nat.reduceEqDiff, ↓reduceIte]
    refine call_go F_go13 (fun hG => rMay14_ p mu pr) (by simp [AV.ids, AV.idsL]) (by simp) ?_
    simp only [zzK, Nat.reduceLT, Nat.reduceLeDiff, Nat.reduceBEq, F_ok25, F_ag25, F_sz25, zz8, zz23, zzD, Nat.reduceAdd, Nat.zero_add, zzH, zzC, Option.map_some, yyE, reduceCtorEq, evS_move, evS_call, evC_value, evS_assign, posC, D.agg.injEq, zz6, Nat.reduceEqDiff, ↓reduceIte, atsL, oksG, freeN, AV.ren, AV.renL, addRows, ORow.row, Nat.reduceMul, Nat.reduceAdd, zz9, Option.bind_some, Option.map_some, S_mem, yyF, List.length_cons, zz2]
    refine hK0 _ ?_; try clear hK0 K0
    refine awp_keepL [3, 4, 6, 7, 8, 11, 13, 14, 15] ?_
    simp only [zzJ, Nat.reduceBEq]
    refine awp_seq fun K0 hK0 => ?_
    refine awp_plain F_mixed [some 16, some 17] rfl ?_
    simp only [zzK, Nat.reduceLT, Nat.reduceLeDiff, Nat.reduceBEq, evS_assign, zz6, Nat.reduceEqDiff, ↓reduceIte]
    refine hK0 _ ?_; try clear hK0 K0
    refine awp_keepL [3, 4, 6, 7, 8, 11, 13, 14, 15, 16, 17] ?_
    simp only [zzJ, Nat.reduceBEq]
    refine awp_seq fun K0 hK0 => ?_
    suffices hJ0 : ∀ s0 : AS, (∃ (s_ : AS) , Le s0 s_ ∧ s_ = S 144 [(6, .ptr 6 0 0), (7, .ptr 7 0 0), (11, .ptr 11 0 0), (13, .d (iv (worthV p mu pr))), (14, .d (iv (worthE p mu pr))), (15, bv (!worthBad p mu pr)), (16, .d (iv (worthV p mu pr))), (17, bv (worthE p mu pr == 0))] [(6, (⟨True, 40, 3, true, false, 6, [[.d (.sl 3 (r.mems.map memC)), .d (.sl 12 (r.insts.map instC)), .d (.sl 4 (r.assets.map assetC))]]⟩ : ARow)), (7, (⟨True, 44, 3, true, false, 7, [[.d (iv b.next), .d (.sl 7 (b.trades.map tradeC)), .d (.sl 4 (b.poss.map posC))]]⟩ : ARow)), (11, (⟨True, 33, 12, true, false, 11, [[.d (iv i.no), .d (iv i.cur), .d (iv i.mult), .d (iv i.add), .d (iv i.set), .d (iv i.price), .d (iv i.s0), .d (iv i.s1), .d (iv i.s2), .d (iv i.s3), .d (iv i.s4), .d (iv i.s5)]]⟩ : ARow))]) → K0 s0 by
      refine awp_seq fun K1 hK1 => ?_
      refine awp_plain F_mixed [some 42] rfl ?_
      simp only [zzK, Nat.reduceLT, Nat.reduceLeDiff, Nat.reduceBEq, evS_move, zz6, Nat.reduceEqDiff, ↓reduceIte]
      refine hK1 _ ?_; try clear hK1 K1
      refine awp_keepL [3, 4, 6, 7, 8, 11, 13, 14, 15, 16, 17, 42] ?_
      simp only [zzJ, Nat.reduceBEq]
      refine awp_condS _ (by decide) (by simp only [look_cons, Nat.reduceBEq, cond_true, cond_false]; rfl) ?_ ?_
      · intro hb
        have hwb : worthBad p mu pr = false := by simpa using hb
        clear hb
        obtain ⟨q1, q2⟩ := rT_eq hwb
        refine awp_plain F_mixed [some 44, some 45, some 46, some 47, some 43, some 48, some 49, some 16, some 17] rfl ?_
        simp only [zzK, Nat.reduceLT, Nat.reduceLeDiff, Nat.reduceBEq, F_ok25, F_ag25, F_sz25, zz8, zz23, zzD, Nat.reduceAdd, Nat.zero_add, zzH, zzC, Option.map_some, yyE, reduceCtorEq, evS_move, evS_call, evC_value, zz14, evS_assign, posC, D.agg.injEq, zz6, Nat.reduceEqDiff, ↓reduceIte]
        refine call_go F_go14 (fun hG => rWorth_ p mu pr hwb) (by simp [AV.ids, AV.idsL]) (by simp) ?_
        simp only [zzK, Nat.reduceLT, Nat.reduceLeDiff, Nat.reduceBEq, F_ok25, F_ag25, F_sz25, zz8, zz23, zzD, Nat.reduceAdd, Nat.zero_add, zzH, zzC, Option.map_some, yyE, reduceCtorEq, evS_move, evS_call, evC_value, zz14, evS_assign, posC, D.agg.injEq, zz6, Nat.reduceEqDiff, ↓reduceIte, atsL, oksG, freeN, AV.ren, AV.renL, addRows, ORow.row, Nat.reduceMul, Nat.reduceAdd, zz9, Option.bind_some, Option.map_some, S_mem, yyF, List.length_cons, zz2]
        refine hJ0 _ ⟨_, le_SK id [] rfl (l' := [(6, .ptr 6 0 0), (7, .ptr 7 0 0), (11, .ptr 11 0 0), (13, .d (iv (worthV p mu pr))), (14, .d (iv (worthE p mu pr))), (15, bv (!worthBad p mu pr)), (16, .d (iv (worthV p mu pr))), (17, bv (worthE p mu pr == 0))]) (m' := [(6, (⟨True, 40, 3, true, false, 6, [[.d (.sl 3 (r.mems.map memC)), .d (.sl 12 (r.insts.map instC)), .d (.sl 4 (r.assets.map assetC))]]⟩ : ARow)), (7, (⟨True, 44, 3, true, false, 7, [[.d (iv b.next), .d (.sl 7 (b.trades.map tradeC)), .d (.sl 4 (b.poss.map posC))]]⟩ : ARow)), (11, (⟨True, 33, 12, true, false, 11, [[.d (iv i.no), .d (iv i.cur), .d (iv i.mult), .d (iv i.add), .d (iv i.set), .d (iv i.price), .d (iv i.s0), .d (iv i.s1), .d (iv i.s2), .d (iv i.s3), .d (iv i.s4), .d (iv i.s5)]]⟩ : ARow))]) ?_ ?_ ?_ ?_, rfl⟩
        · simp only [leV, look_cons, Nat.reduceBEq, cond_true, cond_false]; exact ⟨VLe.refl _, VLe.refl _, VLe.refl _, VLe.refl _, VLe.refl _, (VLe.dE (by rw [hwb])), (VLe.dE (by rw [q1])), (VLe.dE (by rw [q2])), trivial⟩
        · exact ⟨fun _ => ⟨_, rfl, (by first | exact RowLe.still (by simp [AV.idsL, AV.ids]) | exact RowLe.same (by simp) (by simp [AV.idsL, AV.ids]))⟩, fun h => by simp at h, fun _ => ⟨_, rfl, (by first | exact RowLe.still (by simp [AV.idsL, AV.ids]) | exact RowLe.same (by simp) (by simp [AV.idsL, AV.ids]))⟩, fun h => by simp at h, fun _ => ⟨_, rfl, (by first | exact RowLe.still (by simp [AV.idsL, AV.ids]) | exact RowLe.same (by simp) (by simp [AV.idsL, AV.ids]))⟩, fun h => by simp at h, trivial⟩
        · simp [wfV, AV.ids, lookR]
        · simp [wfR, AV.idsL, AV.ids]
      · intro hb
        have hwb : worthBad p mu pr = true := by simpa using hb
        clear hb
        obtain ⟨q1, q2⟩ := wE_bad hwb
        refine awp_skip ?_
        simp only [zz6, Nat.reduceEqDiff, ↓reduceIte]
        refine hJ0 _ ⟨_, le_SK id [] rfl (l' := [(6, .ptr 6 0 0), (7, .ptr 7 0 0), (11, .ptr 11 0 0), (13, .d (iv (worthV p mu pr))), (14, .d (iv (worthE p mu pr))), (15, bv (!worthBad p mu pr)), (16, .d (iv (worthV p mu pr))), (17, bv (worthE p mu pr == 0))]) (m' := [(6, (⟨True, 40, 3, true, false, 6, [[.d (.sl 3 (r.mems.map memC)), .d (.sl 12 (r.insts.map instC)), .d (.sl 4 (r.assets.map assetC))]]⟩ : ARow)), (7, (⟨True, 44, 3, true, false, 7, [[.d (iv b.next), .d (.sl 7 (b.trades.map tradeC)), .d (.sl 4 (b.poss.map posC))]]⟩ : ARow)), (11, (⟨True, 33, 12, true, false, 11, [[.d (iv i.no), .d (iv i.cur), .d (iv i.mult), .d (iv i.add), .d (iv i.set), .d (iv i.price), .d (iv i.s0), .d (iv i.s1), .d (iv i.s2), .d (iv i.s3), .d (iv i.s4), .d (iv i.s5)]]⟩ : ARow))]) ?_ ?_ ?_ ?_, rfl⟩
        · simp only [leV, look_cons, Nat.reduceBEq, cond_true, cond_false]; exact ⟨VLe.refl _, VLe.refl _, VLe.refl _, VLe.refl _, VLe.refl _, (VLe.dE (by rw [hwb])), (VLe.dE (by rw [q1])), (VLe.dE (by rw [q2]; rfl)), trivial⟩
        · exact ⟨fun _ => ⟨_, rfl, (by first | exact RowLe.still (by simp [AV.idsL, AV.ids]) | exact RowLe.same (by simp) (by simp [AV.idsL, AV.ids]))⟩, fun h => by simp at h, fun _ => ⟨_, rfl, (by first | exact RowLe.still (by simp [AV.idsL, AV.ids]) | exact RowLe.same (by simp) (by simp [AV.idsL, AV.ids]))⟩, fun h => by simp at h, fun _ => ⟨_, rfl, (by first | exact RowLe.still (by simp [AV.idsL, AV.ids]) | exact RowLe.same (by simp) (by simp [AV.idsL, AV.ids]))⟩, fun h => by simp at h, trivial⟩
        · simp [wfV, AV.ids, lookR]
        · simp [wfR, AV.idsL, AV.ids]
    rintro s0 ⟨s_, hle, rfl⟩
    refine hK0 _ (awp_le hle ?_); try clear hK0 K0 hle
    refine awp_seq fun K0 hK0 => ?_
    refine awp_seq fun K1 hK1 => ?_
    refine awp_plain F_mixed [some 50, some 51, some 52, some 53, some 54, some 55, some 56, some 57, some 58, some 59, some 60, some 61, some 62, some 63, some 64, some 65, some 66, some 67, some 68] rfl ?_
    simp only [zzK, Nat.reduceLT, Nat.reduceLeDiff, Nat.reduceBEq, Nat.reduceSub, S_getD, zz5, and_imp, imp_and, imp_self, and_self, evS_move, zz21, gr_v, zz28, zz34, b_neqb, pure_neqb F_bool4, zz13, pickK_l, pickK_r, zz29, zz30, b_eqlb, pure_eqlb F_bool4, wcond, zz6, Nat.reduceEqDiff, ↓reduceIte]
    refine hK1 _ ?_; try clear hK1 K1
    refine awp_keepL [6, 7, 11, 68] ?_
    simp only [zzJ, Nat.reduceBEq]
    refine awp_condS _ (by decide) (by simp only [look_cons, Nat.reduceBEq, cond_true, cond_false]; rfl) ?_ ?_
    · intro hb
      first | cases hb | (rw [wcond] at hb; cases hb)
    · intro hb
      clear hb
      refine awp_skip ?_
      simp only [zz6, Nat.reduceEqDiff, ↓reduceIte]
      refine hK0 _ ?_; try clear hK0 K0
      refine awp_keepL [6, 7, 11] ?_
      simp only [zzJ, Nat.reduceBEq]
      refine awp_seq fun K0 hK0 => ?_
      refine awp_plain F_mixed [some 70, some 71, some 69, some 72, some 73, some 13, some 14] rfl ?_
      simp only [zzK, Nat.reduceLT, Nat.reduceLeDiff, Nat.reduceBEq, F_ok33, F_ag33, F_sz33, zz8, zz23, zzD, Nat.reduceAdd, Nat.zero_add, zzH, zzC, Option.map_some, yyE, reduceCtorEq, evS_call, evC_value, evS_move, zz14, evS_assign, instC, D.agg.injEq, zz6, Nat.reduceEqDiff, ↓reduceIte]
      refine call_go F_go10 (fun hG => Price_ i) (by simp [AV.ids, AV.idsL]) (by simp) ?_
      simp only [zzK, Nat.reduceLT, Nat.reduceLeDiff, Nat.reduceBEq, F_ok33, F_ag33, F_sz33, zz8, zz23, zzD, Nat.reduceAdd, Nat.zero_add, zzH, zzC, Option.map_some, yyE, reduceCtorEq, evS_call, evC_value, evS_move, zz14, evS_assign, instC, D.agg.injEq, zz6, Nat.reduceEqDiff, ↓reduceIte, atsL, oksG, freeN, AV.ren, AV.renL, addRows, ORow.row, Nat.reduceMul, Nat.reduceAdd, zz9, Option.bind_some, Option.map_some, S_mem, yyF, List.length_cons, zz2]
      refine hK0 _ ?_; try clear hK0 K0
      refine awp_keepL [6, 7, 11, 13, 14] ?_
      simp only [zzJ, Nat.reduceBEq]
      refine awp_seq fun K0 hK0 => ?_
      refine awp_plain F_mixed [some 75, some 76, some 74, some 77, some 78, some 16, some 17] rfl ?_
      simp only [zzK, Nat.reduceLT, Nat.reduceLeDiff, Nat.reduceBEq, F_ok33, F_ag33, F_sz33, zz8, zz23, zzD, Nat.reduceAdd, Nat.zero_add, zzH, zzC, Option.map_some, yyE, reduceCtorEq, evS_call, evC_value, evS_move, zz14, evS_assign, instC, D.agg.injEq, zz6, Nat.reduceEqDiff, ↓reduceIte]
      refine call_go F_go15 (fun hG => rPrice_ i) (by simp [AV.ids, AV.idsL]) (by simp) ?_
      simp only [zzK, Nat.reduceLT, Nat.reduceLeDiff, Nat.reduceBEq, F_ok33, F_ag33, F_sz33, zz8, zz23, zzD, Nat.reduceAdd, Nat.zero_add, zzH, zzC, Option.map_some, yyE, reduceCtorEq, evS_call, evC_value, evS_move, zz14, evS_assign, instC, D.agg.injEq, zz6, Nat.reduceEqDiff, ↓reduceIte, atsL, oksG, freeN, AV.ren, AV.renL, addRows, ORow.row, Nat.reduceMul, Nat.reduceAdd, zz9, Option.bind_some, Option.map_some, S_mem, yyF, List.length_cons, zz2]
      refine hK0 _ ?_; try clear hK0 K0
      refine awp_keepL [6, 7, 13, 14, 16, 17] ?_
      simp only [zzJ, Nat.reduceBEq]
      refine awp_seq fun K0 hK0 => ?_
      refine awp_seq fun K1 hK1 => ?_
      refine awp_plain F_mixed [some 79, some 80, some 81, some 82, some 83, some 84, some 85, some 86, some 87, some 88, some 89, some 90, some 91, some 92, some 93, some 94, some 95] rfl ?_
      simp only [zzK, Nat.reduceLT, Nat.reduceLeDiff, Nat.reduceBEq, Nat.reduceSub, S_getD, zz5, and_imp, imp_and, imp_self, and_self, evS_move, zz21, gr_v, zz28, zz34, b_neqb, pure_neqb F_bool4, zz13, pickK_l, pickK_r, zz29, zz30, zz6, Nat.reduceEqDiff, ↓reduceIte]
      refine hK1 _ ?_; try clear hK1 K1
      refine awp_keepL [6, 7, 95] ?_
      simp only [zzJ, Nat.reduceBEq]
      refine awp_condS _ (by decide) (by simp only [look_cons, Nat.reduceBEq, cond_true, cond_false]; rfl) ?_ ?_
      · intro hb
        exfalso; rw [pcond] at hb; cases hb
      · intro hb
        clear hb
        refine awp_skip ?_
        simp only [zz6, Nat.reduceEqDiff, ↓reduceIte]
        refine hK0 _ ?_; try clear hK0 K0
        refine awp_keepL [6, 7] ?_
        simp only [zzJ, Nat.reduceBEq]
        refine awp_seq fun K0 hK0 => ?_
        refine awp_tree F_mixed [some 96, some 97, some 98, some 99, some 18, some 19, none, none] rfl (.one 0 (.one 1 (.one 4 (.one 5 (.one 2 (.one 3 (.one 6 (.one 7 .nil)))))))) (by kernel_rfl) ?_
        simp only [zzK, Nat.reduceLT, Nat.reduceLeDiff, Nat.reduceBEq, F_ok40, F_ag40, F_sz40, zz8, zz23, zzD, Nat.reduceAdd, Nat.zero_add, zzH, zzC, Option.map_some, yyE, reduceCtorEq, evS_call, evC_value, zz32, newRow1, F_zero40, zz10, F_zero44, F_ok44, F_ag44, F_sz44, zz18, splice, List.append_nil, zz1, zzG, memsD, instsD, assetsD, rollC, D.agg.injEq, memA, memC, instA, instC, List.map_cons, bookC, tradesB, poss, D.agg.injEq, evT, List.getElem?_cons_zero, List.getElem?_cons_succ, zz6, Nat.reduceEqDiff, ↓reduceIte]
        refine call_go F_go16 (fun hG => twinRollF r h) (by simp [AV.ids, AV.idsL]) (by simp) ?_
        simp only [zzK, Nat.reduceLT, Nat.reduceLeDiff, Nat.reduceBEq, F_ok40, F_ag40, F_sz40, zz8, zz23, zzD, Nat.reduceAdd, Nat.zero_add, zzH, zzC, Option.map_some, yyE, reduceCtorEq, evS_call, evC_value, zz32, newRow1, F_zero40, zz10, F_zero44, F_ok44, F_ag44, F_sz44, zz18, splice, List.append_nil, zz1, zzG, memsD, instsD, assetsD, rollC, D.agg.injEq, memA, memC, instA, instC, List.map_cons, bookC, tradesB, poss, D.agg.injEq, evT, List.getElem?_cons_zero, List.getElem?_cons_succ, zz6, Nat.reduceEqDiff, ↓reduceIte, atsL, oksG, freeN, AV.ren, AV.renL, addRows, ORow.row, Nat.reduceMul, Nat.reduceAdd, zz9, Option.bind_some, Option.map_some, S_mem, yyF, List.length_cons, zz2]
        refine call_go F_go17 (fun hG => twinBkF b.next b.trades b.poss (by omega) (by omega)) (by simp [AV.ids, AV.idsL]) (by simp) ?_
        simp only [zzK, Nat.reduceLT, Nat.reduceLeDiff, Nat.reduceBEq, F_ok40, F_ag40, F_sz40, zz8, zz23, zzD, Nat.reduceAdd, Nat.zero_add, zzH, zzC, Option.map_some, yyE, reduceCtorEq, evS_call, evC_value, zz32, newRow1, F_zero40, zz10, F_zero44, F_ok44, F_ag44, F_sz44, zz18, splice, List.append_nil, zz1, zzG, memsD, instsD, assetsD, rollC, D.agg.injEq, memA, memC, instA, instC, List.map_cons, bookC, tradesB, poss, D.agg.injEq, evT, List.getElem?_cons_zero, List.getElem?_cons_succ, zz6, Nat.reduceEqDiff, ↓reduceIte, atsL, oksG, freeN, AV.ren, AV.renL, addRows, ORow.row, Nat.reduceMul, Nat.reduceAdd, zz9, Option.bind_some, Option.map_some, S_mem, yyF, List.length_cons, zz2]
        refine hK0 _ ?_; try clear hK0 K0
        refine awp_keepL [6, 7, 18, 19] ?_
        simp only [zzJ, Nat.reduceBEq]
        refine awp_seq fun K0 hK0 => ?_
        refine awp_plain F_mixed [some 101, some 102, some 103, some 100, some 104, some 105, some 106, some 20, none, some 21, some 14] rfl ?_
        simp only [zzK, Nat.reduceLT, Nat.reduceLeDiff, Nat.reduceBEq, F_ok40, F_ag40, F_sz40, zz8, zz23, zzD, Nat.reduceAdd, Nat.zero_add, zzH, zzC, Option.map_some, yyE, reduceCtorEq, F_ok44, F_ag44, F_sz44, evS_call, evC_value, evS_move, zz14, zz32, newRow1, F_zero44, zz10, zz18, splice, List.append_nil, zz1, zzG, evS_assign, memsD, instsD, assetsD, rollC, D.agg.injEq, memA, memC, instA, instC, List.map_cons, bookC, tradesB, poss, D.agg.injEq, zz6, Nat.reduceEqDiff, ↓reduceIte]
        refine call_go F_go18 (fun hG => runS r b h hB) (by simp [AV.ids, AV.idsL]) (by simp) ?_
        simp only [zzK, Nat.reduceLT, Nat.reduceLeDiff, Nat.reduceBEq, F_ok40, F_ag40, F_sz40, zz8, zz23, zzD, Nat.reduceAdd, Nat.zero_add, zzH, zzC, Option.map_some, yyE, reduceCtorEq, F_ok44, F_ag44, F_sz44, evS_call, evC_value, evS_move, zz14, zz32, newRow1, F_zero44, zz10, zz18, splice, List.append_nil, zz1, zzG, evS_assign, memsD, instsD, assetsD, rollC, D.agg.injEq, memA, memC, instA, instC, List.map_cons, bookC, tradesB, poss, D.agg.injEq, zz6, Nat.reduceEqDiff, ↓reduceIte, atsL, oksG, freeN, AV.ren, AV.renL, addRows, ORow.row, Nat.reduceMul, Nat.reduceAdd, zz9, Option.bind_some, Option.map_some, S_mem, yyF, List.length_cons, zz2]
        refine hK0 _ ?_; try clear hK0 K0
        refine awp_keepL [6, 7, 14, 18, 19, 20, 21] ?_
        simp only [zzJ, Nat.reduceBEq]
        refine awp_seq fun K0 hK0 => ?_
        refine awp_plain F_mixed [some 108, some 109, some 110, some 107, some 111, some 112, some 113, some 22, none, some 23, some 24] rfl ?_
        simp only [zzK, Nat.reduceLT, Nat.reduceLeDiff, Nat.reduceBEq, F_ok40, F_ag40, F_sz40, zz8, zz23, zzD, Nat.reduceAdd, Nat.zero_add, zzH, zzC, Option.map_some, yyE, reduceCtorEq, F_ok44, F_ag44, F_sz44, evS_call, evC_value, evS_move, zz14, zz32, newRow1, F_zero44, zz10, zz18, splice, List.append_nil, zz1, zzG, evS_assign, memsD, instsD, assetsD, rollC, D.agg.injEq, memA, memC, instA, instC, List.map_cons, bookC, tradesB, poss, D.agg.injEq, zz6, Nat.reduceEqDiff, ↓reduceIte]
        refine call_go F_go19 (fun hG => rRunF r b h hB) (by simp [AV.ids, AV.idsL]) (by simp) ?_
        simp only [zzK, Nat.reduceLT, Nat.reduceLeDiff, Nat.reduceBEq, F_ok40, F_ag40, F_sz40, zz8, zz23, zzD, Nat.reduceAdd, Nat.zero_add, zzH, zzC, Option.map_some, yyE, reduceCtorEq, F_ok44, F_ag44, F_sz44, evS_call, evC_value, evS_move, zz14, zz32, newRow1, F_zero44, zz10, zz18, splice, List.append_nil, zz1, zzG, evS_assign, memsD, instsD, assetsD, rollC, D.agg.injEq, memA, memC, instA, instC, List.map_cons, bookC, tradesB, poss, D.agg.injEq, zz6, Nat.reduceEqDiff, ↓reduceIte, atsL, oksG, freeN, AV.ren, AV.renL, addRows, ORow.row, Nat.reduceMul, Nat.reduceAdd, zz9, Option.bind_some, Option.map_some, S_mem, yyF, List.length_cons, zz2]
        refine hK0 _ ?_; try clear hK0 K0
        refine awp_keepL [6, 7, 14, 18, 19, 20, 21, 22, 23, 24] ?_
        simp only [zzJ, Nat.reduceBEq]
        refine awp_seq fun K0 hK0 => ?_
        refine awp_seq fun K1 hK1 => ?_
        refine awp_plain F_mixed [some 114, some 115, some 116, some 117, some 118, some 119, some 120, some 121, some 122, some 123, some 124, some 125, some 126, some 127, some 128] rfl ?_
        simp only [zzK, Nat.reduceLT, Nat.reduceLeDiff, Nat.reduceBEq, Nat.reduceSub, S_getD, zz5, and_imp, imp_and, imp_self, F_ok44, F_ag44, F_sz44, zz8, zz23, zzD, Nat.reduceAdd, Nat.zero_add, zzH, zzC, Option.map_some, yyE, reduceCtorEq, evS_call, evC_value, zz29, gr_v, zz30, evS_move, zz13, pickK_l, pickK_r, zz21, zz28, bookC, tradesB, poss, dues, D.agg.injEq, D.sl.injEq, List.cons.injEq, bne_self_eq_false, zz6, Nat.reduceEqDiff, ↓reduceIte]
        skip
        refine call_goE F_go20 (fun hG => kBook_ (runN r b) (runT r b) (runP r b) (by omega) (by omega)) (by simp [AV.ids, AV.idsL]) (by simp) ?_
        simp only [zzK, Nat.reduceLT, Nat.reduceLeDiff, Nat.reduceBEq, Nat.reduceSub, S_getD, zz5, and_imp, imp_and, imp_self, F_ok44, F_ag44, F_sz44, zz8, zz23, zzD, Nat.reduceAdd, Nat.zero_add, zzH, zzC, Option.map_some, yyE, reduceCtorEq, evS_call, evC_value, zz29, gr_v, zz30, evS_move, zz13, pickK_l, pickK_r, zz21, zz28, bookC, tradesB, poss, dues, D.agg.injEq, List.cons.injEq, bne_self_eq_false, zz6, Nat.reduceEqDiff, ↓reduceIte, asEs_cons, asEs_nil, asE_ag, asE_d, asE_ref, asEc_cons, asEc_nil, asF_d, asF_ref, asF_ag, asGs, oksF, atsL, oksG, freeN, AV.ren, AV.renL, addRows, ORow.row, Nat.reduceMul, Nat.reduceAdd, zz9, Option.bind_some, Option.map_some, S_mem, yyF, List.length_cons, zz2]
        refine ⟨⟨by simp, by simp⟩, ?_⟩
        refine call_go F_go21 (fun hG => kDues_ (runD r b) (by omega)) (by simp [AV.ids, AV.idsL]) (by simp) ?_
        simp only [zzK, Nat.reduceLT, Nat.reduceLeDiff, Nat.reduceBEq, Nat.reduceSub, S_getD, zz5, and_imp, imp_and, imp_self, F_ok44, F_ag44, F_sz44, zz8, zz23, zzD, Nat.reduceAdd, Nat.zero_add, zzH, zzC, Option.map_some, yyE, reduceCtorEq, evS_call, evC_value, zz29, gr_v, zz30, evS_move, zz13, pickK_l, pickK_r, zz21, zz28, bookC, tradesB, poss, dues, D.agg.injEq, List.cons.injEq, bne_self_eq_false, zz6, Nat.reduceEqDiff, ↓reduceIte, atsL, oksG, freeN, AV.ren, AV.renL, addRows, ORow.row, Nat.reduceMul, Nat.reduceAdd, zz9, Option.bind_some, Option.map_some, S_mem, yyF, List.length_cons, zz2]
        first | refine ⟨by simp, ?_⟩ | skip
        refine hK1 _ ?_; try clear hK1 K1
        refine awp_keepL [6, 7, 18, 19, 20, 21, 128] ?_
        simp only [zzJ, Nat.reduceBEq]
        refine awp_condS _ (by decide) (by simp only [look_cons, Nat.reduceBEq, cond_true, cond_false]; rfl) ?_ ?_
        · intro hb
          first | cases hb | simp at hb
        · intro hb
          clear hb
          refine awp_skip ?_
          simp only [zz6, Nat.reduceEqDiff, ↓reduceIte]
          refine hK0 _ ?_; try clear hK0 K0
          refine awp_keepL [6, 7, 18, 19, 20, 21] ?_
          simp only [zzJ, Nat.reduceBEq]
          refine awp_seq fun K0 hK0 => ?_
          refine awp_mut [some 129, some 130] rfl 1 rfl ?_
          simp only [zzK, Nat.reduceLT, Nat.reduceLeDiff, Nat.reduceBEq, F_ok44, F_ag44, F_sz44, zz8, zz23, zzD, Nat.reduceAdd, Nat.zero_add, zzH, zzC, Option.map_some, yyE, reduceCtorEq, evS_call, evC_value, zz6, Nat.reduceEqDiff, ↓reduceIte]
          refine mut_go [104000, 104001] F_go22 (spoilBook_ (runN r b) (runT r b) (runP r b) (by omega) (by omega)) (by simp [AV.ids, AV.idsL]) (by decide) (by first | exact ⟨by decide, by simp⟩ | rfl) ?_
          simp only [zzK, Nat.reduceLT, Nat.reduceLeDiff, Nat.reduceBEq, F_ok44, F_ag44, F_sz44, zz8, zz23, zzD, Nat.reduceAdd, Nat.zero_add, zzH, zzC, Option.map_some, yyE, reduceCtorEq, evS_call, evC_value, zz6, Nat.reduceEqDiff, ↓reduceIte, mArgs_a, AV.ids, AV.idsL, List.append_nil, List.mem_cons, or_false, Nat.lt_succ_self, mArgs_nil, asE_cl, asF_cl, asD_ptr, asG_ptr, asD_ep, asG_ep, List.mem_singleton, forall_eq, asEc_cons, asEc_nil, mArgs_d, mArgs_m, mRows_nil, mRows_cons, mNewL, nxM, mBase, mName, oksL, List.getElem?_cons_zero, List.getElem?_cons_succ, asE_ag, asE_d, asE_ref, asEc_cons, asEc_nil, asF_d, asF_ref, asF_ag, asGs, AV.ids, AV.idsL, List.length_singleton, List.not_mem_nil, false_implies, forall_const, atsL, asD_self, asD_nil, asD_sl, asD_agg, asD_int, asD_bool, asD_func, asD_ag, asD_ref, asG_d, asG_ag, asG_ref, freeN, AV.ren, AV.renL, addRows, ORow.row, Nat.reduceMul, Nat.reduceAdd, zz9, Option.bind_some, Option.map_some, S_mem, yyF, List.length_cons, S_func, Sk_func]
          refine ⟨by simp <;> omega, by simp [flatDs, flatD, tradeC, spoilT, posC, spoilP], ?_⟩
          refine hK0 _ ?_; try clear hK0 K0
          refine awp_keepL [6, 7, 18, 19, 21] ?_
          simp only [zzJ, Nat.reduceBEq]
          refine awp_seq fun K0 hK0 => ?_
          refine awp_mut [some 131, some 132] rfl 1 rfl ?_
          simp only [zzK, Nat.reduceLT, Nat.reduceLeDiff, Nat.reduceBEq, evS_move, evS_call, evC_value, len_map, zzB, zz6, Nat.reduceEqDiff, ↓reduceIte]
          refine mut_go [104002] F_go23 (spoilDues_ (runD r b) (by omega)) (by simp [AV.ids, AV.idsL]) (by decide) (by first | exact ⟨by decide, by simp⟩ | rfl) ?_
          simp only [zzK, Nat.reduceLT, Nat.reduceLeDiff, Nat.reduceBEq, evS_move, evS_call, evC_value, len_map, zzB, zz6, Nat.reduceEqDiff, ↓reduceIte, mArgs_a, AV.ids, AV.idsL, List.append_nil, List.mem_cons, or_false, Nat.lt_succ_self, mArgs_nil, asE_cl, asF_cl, asD_ptr, asG_ptr, asD_ep, asG_ep, List.mem_singleton, forall_eq, asEc_cons, asEc_nil, mArgs_d, mArgs_m, mRows_nil, mRows_cons, mNewL, nxM, mBase, mName, oksL, List.getElem?_cons_zero, List.getElem?_cons_succ, zzF, asE_ag, asE_d, asE_ref, asEc_cons, asEc_nil, asF_d, asF_ref, asF_ag, asGs, AV.ids, AV.idsL, List.length_singleton, List.not_mem_nil, false_implies, forall_const, atsL, asD_self, asD_nil, asD_sl, asD_agg, asD_int, asD_bool, asD_func, asD_ag, asD_ref, asG_d, asG_ag, asG_ref, freeN, AV.ren, AV.renL, addRows, ORow.row, Nat.reduceMul, Nat.reduceAdd, zz9, Option.bind_some, Option.map_some, zzC, yyF, zzD, S_func, Sk_func]
          refine ⟨by simp [flatDs, flatD, dueC, spoilD], ?_⟩
          refine hK0 _ ?_; try clear hK0 K0
          refine awp_keepL [6, 7, 18, 19] ?_
          simp only [zzJ, Nat.reduceBEq]
          refine awp_seq fun K0 hK0 => ?_
          refine awp_plain F_mixed [some 133, some 134, some 135, some 136, some 137, some 138, some 139, some 140, some 141, some 142, some 143, some 12] rfl ?_
          simp only [zzK, Nat.reduceLT, Nat.reduceLeDiff, Nat.reduceBEq, Nat.reduceSub, S_getD, zz5, and_imp, imp_and, imp_self, F_ok40, F_ag40, F_sz40, zz8, zz23, zzD, Nat.reduceAdd, Nat.zero_add, zzH, zzC, Option.map_some, yyE, reduceCtorEq, evS_call, evC_value, evS_move, F_ok44, F_ag44, F_sz44, zz13, pickK_l, pickK_r, evS_assign, memsD, instsD, assetsD, rollC, D.agg.injEq, memA, memC, instA, instC, zzG, bookC, tradesB, poss, D.agg.injEq, zz6, Nat.reduceEqDiff, ↓reduceIte]
          refine call_go F_go24 (fun hG => kRoll_ r h) (by simp [AV.ids, AV.idsL]) (by simp) ?_
          simp only [zzK, Nat.reduceLT, Nat.reduceLeDiff, Nat.reduceBEq, Nat.reduceSub, S_getD, zz5, and_imp, imp_and, imp_self, F_ok40, F_ag40, F_sz40, zz8, zz23, zzD, Nat.reduceAdd, Nat.zero_add, zzH, zzC, Option.map_some, yyE, reduceCtorEq, evS_call, evC_value, evS_move, F_ok44, F_ag44, F_sz44, zz13, pickK_l, pickK_r, evS_assign, memsD, instsD, assetsD, rollC, D.agg.injEq, memA, memC, instA, instC, zzG, bookC, tradesB, poss, D.agg.injEq, zz6, Nat.reduceEqDiff, ↓reduceIte, atsL, oksG, freeN, AV.ren, AV.renL, addRows, ORow.row, Nat.reduceMul, Nat.reduceAdd, zz9, Option.bind_some, Option.map_some, S_mem, yyF, List.length_cons, zz2]
          refine call_go F_go20 (fun hG => kBook_ b.next b.trades b.poss (by omega) (by omega)) (by simp [AV.ids, AV.idsL]) (by simp) ?_
          simp only [zzK, Nat.reduceLT, Nat.reduceLeDiff, Nat.reduceBEq, Nat.reduceSub, S_getD, zz5, and_imp, imp_and, imp_self, F_ok40, F_ag40, F_sz40, zz8, zz23, zzD, Nat.reduceAdd, Nat.zero_add, zzH, zzC, Option.map_some, yyE, reduceCtorEq, evS_call, evC_value, evS_move, F_ok44, F_ag44, F_sz44, zz13, pickK_l, pickK_r, evS_assign, memsD, instsD, assetsD, rollC, D.agg.injEq, memA, memC, instA, instC, zzG, bookC, tradesB, poss, D.agg.injEq, zz6, Nat.reduceEqDiff, ↓reduceIte, atsL, oksG, freeN, AV.ren, AV.renL, addRows, ORow.row, Nat.reduceMul, Nat.reduceAdd, zz9, Option.bind_some, Option.map_some, S_mem, yyF, List.length_cons, zz2]
          refine call_go F_go9 (fun hG => wakes14_) (by simp [AV.ids, AV.idsL]) (by simp) ?_
          simp only [zzK, Nat.reduceLT, Nat.reduceLeDiff, Nat.reduceBEq, Nat.reduceSub, S_getD, zz5, and_imp, imp_and, imp_self, F_ok40, F_ag40, F_sz40, zz8, zz23, zzD, Nat.reduceAdd, Nat.zero_add, zzH, zzC, Option.map_some, yyE, reduceCtorEq, evS_call, evC_value, evS_move, F_ok44, F_ag44, F_sz44, zz13, pickK_l, pickK_r, evS_assign, memsD, instsD, assetsD, rollC, D.agg.injEq, memA, memC, instA, instC, zzG, bookC, tradesB, poss, D.agg.injEq, zz6, Nat.reduceEqDiff, ↓reduceIte, atsL, oksG, freeN, AV.ren, AV.renL, addRows, ORow.row, Nat.reduceMul, Nat.reduceAdd, zz9, Option.bind_some, Option.map_some, S_mem, yyF, List.length_cons, zz2]
          refine hK0 _ ?_; try clear hK0 K0
          refine awp_keepL [12] ?_
          simp only [zzJ, Nat.reduceBEq]
          refine awp_ret ?_
          simp only [zz6, Nat.reduceEqDiff, ↓reduceIte]
          refine done0 (by simp only [resCs, resC]; trivial) ?_ (by simp [flatA, flatAs, flatD]) (by simp [AV.ids, AV.idsL])
          simp only [List.map_cons, List.map_nil, resA, S_getD, Nat.reduceLT, Nat.reduceLeDiff, look_cons, Nat.reduceBEq, cond_true, cond_false, resAll]
          try simp
end Go.Proofs.Ytdgkiemehmmobaa
