import Derived.Test.YtdgkiemehmmobaaWpD
namespace Go.Proofs.Ytdgkiemehmmobaa
open Go.RowKit
set_option linter.unusedVariables false
set_option linter.unusedSimpArgs false
theorem F_go87 : goFn Try.prog 87 := ⟨_, Try.func87, rfl, rfl⟩
theorem F_off23_0 : offT Try.prog 23 0 = some 0 := by kernel_rfl
theorem F_off93_4 : offT Try.prog 93 4 = some 4 := by kernel_rfl
theorem F_off93_5 : offT Try.prog 93 5 = some 5 := by kernel_rfl
theorem F_off93_1 : offT Try.prog 93 1 = some 1 := by kernel_rfl
theorem F_off93_2 : offT Try.prog 93 2 = some 2 := by kernel_rfl
theorem F_off93_3 : offT Try.prog 93 3 = some 3 := by kernel_rfl
theorem F_go65 : goFn Try.prog 65 := ⟨_, Try.func65, rfl, rfl⟩
theorem F_sl42 : sliceT Try.prog 42 = some 25 := by kernel_rfl
theorem F_sz25 : szT Try.prog 25 = 4 := by kernel_rfl
theorem F_ok25 : tyOk Try.prog 25 = true := by kernel_rfl
theorem F_ag25 : aggT Try.prog 25 = true := by kernel_rfl
theorem F_by3 : byT Try.prog 3 = 8 := by kernel_rfl
theorem F_go81 : goFn Try.prog 81 := ⟨_, Try.func81, rfl, rfl⟩
theorem F_off44_2 : offT Try.prog 44 2 = some 2 := by kernel_rfl
theorem F_ok42 : tyOk Try.prog 42 = true := by kernel_rfl
theorem F_ag42 : aggT Try.prog 42 = false := by kernel_rfl
theorem F_sz42 : szT Try.prog 42 = 1 := by kernel_rfl
theorem F_ok23 : tyOk Try.prog 23 = true := by kernel_rfl
theorem F_ag23 : aggT Try.prog 23 = true := by kernel_rfl
theorem F_sz23 : szT Try.prog 23 = 2 := by kernel_rfl
theorem F_go66 : goFn Try.prog 66 := ⟨_, Try.func66, rfl, rfl⟩
theorem F_off44_1 : offT Try.prog 44 1 = some 1 := by kernel_rfl
theorem F_ok41 : tyOk Try.prog 41 = true := by kernel_rfl
theorem F_ag41 : aggT Try.prog 41 = false := by kernel_rfl
theorem F_sz41 : szT Try.prog 41 = 1 := by kernel_rfl
theorem F_sl41 : sliceT Try.prog 41 = some 93 := by kernel_rfl
theorem F_sz93 : szT Try.prog 93 = 7 := by kernel_rfl
theorem F_ok93 : tyOk Try.prog 93 = true := by kernel_rfl
theorem F_ag93 : aggT Try.prog 93 = true := by kernel_rfl
theorem F_zero93 : zeroT Try.prog 93 = some [(.int .i64 0), (.int .i64 0), (.int .i64 0), (.int .i64 0), (.int .i64 0), (.int .i64 0), (.bool false)] := by kernel_rfl
theorem F_off93_0 : offT Try.prog 93 0 = some 0 := by kernel_rfl
theorem F_off44_0 : offT Try.prog 44 0 = some 0 := by kernel_rfl
theorem F_go67 : goFn Try.prog 67 := ⟨_, Try.func67, rfl, rfl⟩
theorem F_go68 : goFn Try.prog 68 := ⟨_, Try.func68, rfl, rfl⟩
theorem within_ (t : Int) (h0 : -85070591730234615865843651857942052864 ≤ t) (h1 : t < 85070591730234615865843651857942052864) : ACalls Try.prog 87 [.v (.int .u64 (hiN t)), .v (.int .u64 (loN t))] [] (.tp [.d (iv (bif rightN t then t else 0)), .d (iv (bif rightN t then 0 else 1))]) := by
  refine acalls_S (rs := [.tmp 4, .tmp 5]) Try.func87 rfl rfl 21 [(0, .d (.v (.int .u64 (hiN t)))), (1, .d (.v (.int .u64 (loN t))))] rfl (by simp) rfl ?_
  refine awp_seq fun K0 hK0 => ?_
  refine awp_plain F_mixed [some 4, some 5] rfl ?_
  simp only [zzK, Nat.reduceLT, Nat.reduceLeDiff, Nat.reduceBEq, evS_assign, zz6, Nat.reduceEqDiff, ↓reduceIte]
  refine hK0 _ ?_; try clear hK0 K0
  refine awp_keepL [0, 1] ?_
  simp only [zzJ, Nat.reduceBEq]
  refine awp_seq fun K0 hK0 => ?_
  refine awp_plain F_mixed [some 7, some 8, some 6] rfl ?_
  simp only [zzK, Nat.reduceLT, Nat.reduceLeDiff, Nat.reduceBEq, evS_move, zz27, gr_v, F_cv63_3, F_cvV3, evS_assign, zz6, Nat.reduceEqDiff, ↓reduceIte]
  refine hK0 _ ?_; try clear hK0 K0
  refine awp_keepL [0, 6] ?_
  simp only [zzJ, Nat.reduceBEq]
  refine awp_seq fun K0 hK0 => ?_
  refine awp_seq fun K1 hK1 => ?_
  refine awp_plain F_mixed [some 9, some 10, some 11, some 12, some 13, some 14, some 15, some 16, some 17, some 18, some 19] rfl ?_
  simp only [zzK, Nat.reduceLT, Nat.reduceLeDiff, Nat.reduceBEq, Nat.reduceSub, S_getD, zz5, and_imp, imp_and, imp_self, evS_move, zz21, gr_v, b_shr, pure_shr, Int.reduceLT, not_false_eq_true, zz27, F_cv3_63, F_cvV63, zz28, F_sl103, F_zero3, F_sz3, zz3, newRow1, zz1, zzG, zzD, zzC, Option.map_some, yyE, reduceCtorEq, Nat.reduceAdd, Nat.zero_add, zzH, maxLen_le, Nat.reduceMul, evS_call, evC_value, zz29, zz30, zz13, pickK_l, pickK_r, ints, List.map_cons, zz6, Nat.reduceEqDiff, ↓reduceIte]
  refine call_go F_go29 (fun hG => Right_ [IntKind.wrap .i64 (loN t)] (by simp)) (by simp [AV.ids, AV.idsL]) (by simp) ?_
  simp only [zzK, Nat.reduceLT, Nat.reduceLeDiff, Nat.reduceBEq, Nat.reduceSub, S_getD, zz5, and_imp, imp_and, imp_self, evS_move, zz21, gr_v, b_shr, pure_shr, Int.reduceLT, not_false_eq_true, zz27, F_cv3_63, F_cvV63, zz28, F_sl103, F_zero3, F_sz3, zz3, newRow1, zz1, zzG, zzD, zzC, Option.map_some, yyE, reduceCtorEq, Nat.reduceAdd, Nat.zero_add, zzH, maxLen_le, Nat.reduceMul, evS_call, evC_value, zz29, zz30, zz13, pickK_l, pickK_r, ints, List.map_cons, zz6, Nat.reduceEqDiff, ↓reduceIte, atsL, oksG, freeN, AV.ren, AV.renL, addRows, ORow.row, Nat.reduceMul, Nat.reduceAdd, zz9, Option.bind_some, Option.map_some, S_mem, yyF, List.length_cons, zz2]
  refine hK1 _ ?_; try clear hK1 K1
  refine awp_keepL [6, 19] ?_
  simp only [zzJ, Nat.reduceBEq]
  refine awp_condS _ (by decide) (by simp only [look_cons, Nat.reduceBEq, cond_true, cond_false]; rfl) ?_ ?_
  · intro hb
    rw [within_law h0 h1] at hb
    refine awp_seq fun K2 hK2 => ?_
    refine awp_plain F_mixed [some 4, some 5] rfl ?_
    simp only [zzK, Nat.reduceLT, Nat.reduceLeDiff, Nat.reduceBEq, evS_assign, zz6, Nat.reduceEqDiff, ↓reduceIte]
    refine hK2 _ ?_; try clear hK2 K2
    refine awp_keepL [4, 5] ?_
    simp only [zzJ, Nat.reduceBEq]
    refine awp_ret ?_
    simp only [zz6, Nat.reduceEqDiff, ↓reduceIte]
    refine done0 (by simp only [resCs, resC]; trivial) ?_ (by simp [flatA, flatAs, flatD]) (by simp [AV.ids, AV.idsL])
    simp only [List.map_cons, List.map_nil, resA, S_getD, Nat.reduceLT, Nat.reduceLeDiff, look_cons, Nat.reduceBEq, cond_true, cond_false, resAll]
    simp only [Bool.not_eq_true'] at hb; simp only [hb]; rfl
  · intro hb
    rw [within_law h0 h1] at hb
    refine awp_skip ?_
    simp only [zz6, Nat.reduceEqDiff, ↓reduceIte]
    refine hK0 _ ?_; try clear hK0 K0
    refine awp_keepL [6] ?_
    simp only [zzJ, Nat.reduceBEq]
    refine awp_seq fun K0 hK0 => ?_
    refine awp_plain F_mixed [some 20, some 4, some 5] rfl ?_
    simp only [zzK, Nat.reduceLT, Nat.reduceLeDiff, Nat.reduceBEq, evS_move, evS_assign, zz6, Nat.reduceEqDiff, ↓reduceIte]
    refine hK0 _ ?_; try clear hK0 K0
    refine awp_keepL [4, 5] ?_
    simp only [zzJ, Nat.reduceBEq]
    refine awp_ret ?_
    simp only [zz6, Nat.reduceEqDiff, ↓reduceIte]
    refine done0 (by simp only [resCs, resC]; trivial) ?_ (by simp [flatA, flatAs, flatD]) (by simp [AV.ids, AV.idsL])
    simp only [List.map_cons, List.map_nil, resA, S_getD, Nat.reduceLT, Nat.reduceLeDiff, look_cons, Nat.reduceBEq, cond_true, cond_false, resAll]
    simp only [Bool.not_eq_false'] at hb; simp only [hb, within_val h0 h1 hb]; rfl
theorem Sum_ (l : List Int) (hl : l.length < 4611686018427387904) : ACalls Try.prog 81 [ints l] [] (.tp [.d (iv (sumV l)), .d (iv (sumE l))]) := by
  refine acalls_S (rs := [.tmp 2, .tmp 3]) Try.func81 rfl rfl 40 [(0, .d (ints l))] rfl (by simp) rfl ?_
  refine awp_seq fun K0 hK0 => ?_
  refine awp_plain F_mixed [some 2, some 3] rfl ?_
  simp only [zzK, Nat.reduceLT, Nat.reduceLeDiff, Nat.reduceBEq, evS_assign, zz6, Nat.reduceEqDiff, ↓reduceIte]
  refine hK0 _ ?_; try clear hK0 K0
  refine awp_keepL [0] ?_
  simp only [zzJ, Nat.reduceBEq]
  refine awp_seq fun K0 hK0 => ?_
  refine awp_seq fun K1 hK1 => ?_
  refine awp_plain F_mixed [some 9, some 10, some 11] rfl ?_
  simp only [zzK, Nat.reduceLT, Nat.reduceLeDiff, Nat.reduceBEq, evS_move, evS_call, evC_value, zz29, gr_v, zz30, zz6, Nat.reduceEqDiff, ↓reduceIte]
  refine call_go F_go29 (fun hG => Right_ l hl) (by simp [AV.ids, AV.idsL]) (by simp) ?_
  simp only [zzK, Nat.reduceLT, Nat.reduceLeDiff, Nat.reduceBEq, evS_move, evS_call, evC_value, zz29, gr_v, zz30, zz6, Nat.reduceEqDiff, ↓reduceIte, atsL, oksG, freeN, AV.ren, AV.renL, addRows, ORow.row, Nat.reduceMul, Nat.reduceAdd, zz9, Option.bind_some, Option.map_some, zzC, yyF, zzD, zz2]
  refine hK1 _ ?_; try clear hK1 K1
  refine awp_keepL [0, 11] ?_
  simp only [zzJ, Nat.reduceBEq]
  refine awp_condS _ (by decide) (by simp only [look_cons, Nat.reduceBEq, cond_true, cond_false]; rfl) ?_ ?_
  · intro hb
    simp only [Bool.not_eq_true'] at hb
    refine awp_seq fun K2 hK2 => ?_
    refine awp_plain F_mixed [some 2, some 3] rfl ?_
    simp only [zzK, Nat.reduceLT, Nat.reduceLeDiff, Nat.reduceBEq, evS_assign, zz6, Nat.reduceEqDiff, ↓reduceIte]
    refine hK2 _ ?_; try clear hK2 K2
    refine awp_keepL [2, 3] ?_
    simp only [zzJ, Nat.reduceBEq]
    refine awp_ret ?_
    simp only [zz6, Nat.reduceEqDiff, ↓reduceIte]
    refine done0 (by simp only [resCs, resC]; trivial) ?_ (by simp [flatA, flatAs, flatD]) (by simp [AV.ids, AV.idsL])
    simp only [List.map_cons, List.map_nil, resA, S_getD, Nat.reduceLT, Nat.reduceLeDiff, look_cons, Nat.reduceBEq, cond_true, cond_false, resAll]
    simp only [sumV, sumE, hb]; rfl
  · intro hb
    simp only [Bool.not_eq_false'] at hb
    have hall := hb; clear hb
    refine awp_skip ?_
    simp only [zz6, Nat.reduceEqDiff, ↓reduceIte]
    refine hK0 _ ?_; try clear hK0 K0
    refine awp_keepL [0] ?_
    simp only [zzJ, Nat.reduceBEq]
    refine awp_seq fun K0 hK0 => ?_
    refine awp_plain F_mixed [some 4, some 5] rfl ?_
    simp only [zzK, Nat.reduceLT, Nat.reduceLeDiff, Nat.reduceBEq, evS_assign, zz6, Nat.reduceEqDiff, ↓reduceIte]
    refine hK0 _ ?_; try clear hK0 K0
    refine awp_keepL [0, 4, 5] ?_
    simp only [zzJ, Nat.reduceBEq]
    refine awp_seq fun K0 hK0 => ?_
    refine awp_seq fun K1 hK1 => ?_
    refine awp_plain F_mixed [some 12, some 13, some 14] rfl ?_
    simp only [zzK, Nat.reduceLT, Nat.reduceLeDiff, Nat.reduceBEq, evS_move, evS_call, zz12, F_sl103, Option.isSome_some, ints, len_map, zz6, Nat.reduceEqDiff, ↓reduceIte]
    refine hK1 _ ?_; try clear hK1 K1
    refine awp_keepL [4, 5, 12, 13, 14] ?_
    simp only [zzJ, Nat.reduceBEq]
    refine awp_block ?_
    refine awp_loop (fun m s => ∃ pre post : List Int, l = pre ++ post ∧ m = post.length ∧ s = S 40 [(4, .d (.v (.int .u64 (hiN pre.sum)))), (5, .d (.v (.int .u64 (loN pre.sum)))), (12, .d (ints l)), (13, .d (iv l.length)), (14, .d (iv pre.length))] []) l.length _ (le_S0 (l' := [(4, .d (.v (.int .u64 (hiN ([] : List Int).sum)))), (5, .d (.v (.int .u64 (loN ([] : List Int).sum)))), (12, .d (ints l)), (13, .d (iv l.length)), (14, .d (iv 0))]) ?_ ?_) ⟨[], l, rfl, rfl, rfl⟩ ?_
    · simp only [leL, look_cons, Nat.reduceBEq, cond_true, cond_false, ints, len_map, List.sum_nil]; simp [loN, hiN]
    · simp [wfV, AV.ids]
    rintro m s ⟨pre, post, rfl, rfl, rfl⟩
    refine awp_seq fun K2 hK2 => ?_
    refine awp_plain F_mixed [some 15] rfl ?_
    simp only [zzK, Nat.reduceLT, Nat.reduceLeDiff, Nat.reduceBEq, zz21, gr_v, zz22, zz6, Nat.reduceEqDiff, ↓reduceIte]
    refine hK2 _ ?_; try clear hK2 K2
    refine awp_keepL [4, 5, 12, 13, 14, 15] ?_
    simp only [zzJ, Nat.reduceBEq]
    refine awp_seq fun K2 hK2 => ?_
    refine awp_condS _ (by decide) (by simp only [look_cons, Nat.reduceBEq, cond_true, cond_false]; rfl) ?_ ?_
    · intro hb
      obtain ⟨x, post, rfl⟩ := more_of hb; clear hb
      have hr : rightN x = true := by simp at hall; exact hall.2.1
      refine awp_skip ?_
      simp only [zz6, Nat.reduceEqDiff, ↓reduceIte]
      refine hK2 _ ?_; try clear hK2 K2
      refine awp_keepL [4, 5, 12, 13, 14] ?_
      simp only [zzJ, Nat.reduceBEq]
      refine awp_seq fun K2 hK2 => ?_
      refine awp_block ?_
      refine awp_seq fun K3 hK3 => ?_
      refine awp_plain F_mixed [some 16, some 17, some 7] rfl ?_
      simp only [zzK, Nat.reduceLT, Nat.reduceLeDiff, Nat.reduceBEq, evS_indexAddr, zz23, zz24, F_sl103, F_sz3, Option.map_some, zzC, yyE, reduceCtorEq, F_ok3, F_ag3, zz8, zzD, Nat.reduceAdd, Nat.zero_add, zzH, evS_assign, ints, getD_mid, len_map, lt_mid, ge_mid, zz6, Nat.reduceEqDiff, ↓reduceIte]
      refine hK3 _ ?_; try clear hK3 K3
      refine awp_keepL [4, 5, 7, 12, 13, 14] ?_
      simp only [zzJ, Nat.reduceBEq]
      refine awp_seq fun K3 hK3 => ?_
      refine awp_plain F_mixed [some 8] rfl ?_
      simp only [zzK, Nat.reduceLT, Nat.reduceLeDiff, Nat.reduceBEq, evS_assign, zz6, Nat.reduceEqDiff, ↓reduceIte]
      refine hK3 _ ?_; try clear hK3 K3
      refine awp_keepL [4, 5, 7, 12, 13, 14] ?_
      simp only [zzJ, Nat.reduceBEq]
      refine awp_seq fun K3 hK3 => ?_
      refine awp_plain F_mixed [some 19, some 20, some 21, some 22, some 18, some 23, some 24, some 5, some 8] rfl ?_
      simp only [zzK, Nat.reduceLT, Nat.reduceLeDiff, Nat.reduceBEq, evS_move, zz27, gr_v, F_cv3_63, F_cvV63, evS_call, evC_value, zz14, zzD, Nat.reduceAdd, Nat.zero_add, zzF, evS_assign, zz6, Nat.reduceEqDiff, ↓reduceIte]
      refine call_ext _ _ (add64 (loN pre.sum) (IntKind.wrap .u64 x) 0 (lo_nn _) (wu_nn _) (by decide) (by decide)) ?_
      simp only [zzK, Nat.reduceLT, Nat.reduceLeDiff, Nat.reduceBEq, evS_move, zz27, gr_v, F_cv3_63, F_cvV63, evS_call, evC_value, zz14, zzD, Nat.reduceAdd, Nat.zero_add, zzF, evS_assign, zz6, Nat.reduceEqDiff, ↓reduceIte, grsL, gr_v, Option.bind_some, Option.map_some, Option.some.injEq, oksL, ofV_pair, ofV_int, ofV_bool]
      refine hK3 _ ?_; try clear hK3 K3
      refine awp_keepL [4, 5, 7, 8, 12, 13, 14] ?_
      simp only [zzJ, Nat.reduceBEq]
      refine awp_plain F_mixed [some 26, some 27, some 28, some 29, some 30, some 31, some 25, some 32, some 33, some 4] rfl ?_
      simp only [zzK, Nat.reduceLT, Nat.reduceLeDiff, Nat.reduceBEq, evS_move, zz21, gr_v, b_shr, pure_shr, Int.reduceLT, not_false_eq_true, zz27, F_cv3_63, F_cvV63, evS_call, evC_value, zz14, zzD, Nat.reduceAdd, Nat.zero_add, zzF, evS_assign, zz6, Nat.reduceEqDiff, ↓reduceIte]
      refine call_ext _ _ (add64 (hiN pre.sum) (IntKind.wrap .u64 (x.fdiv (2 ^ (min (Int.toNat 63) (IntKind.bits .i64))))) ((loN pre.sum + IntKind.wrap .u64 x + 0) / 18446744073709551616) (hi_nn _) (wu_nn _) (carry0 _ _) (carry1 _ _)) ?_
      simp only [zzK, Nat.reduceLT, Nat.reduceLeDiff, Nat.reduceBEq, evS_move, zz21, gr_v, b_shr, pure_shr, Int.reduceLT, not_false_eq_true, zz27, F_cv3_63, F_cvV63, evS_call, evC_value, zz14, zzD, Nat.reduceAdd, Nat.zero_add, zzF, evS_assign, zz6, Nat.reduceEqDiff, ↓reduceIte, grsL, gr_v, Option.bind_some, Option.map_some, Option.some.injEq, oksL, ofV_pair, ofV_int, ofV_bool]
      refine hK2 _ ?_; try clear hK2 K2
      refine awp_keepL [4, 5, 12, 13, 14] ?_
      simp only [zzJ, Nat.reduceBEq]
      refine awp_plain F_mixed [some 34, some 14] rfl ?_
      simp only [zzK, Nat.reduceLT, Nat.reduceLeDiff, Nat.reduceBEq, zz21, gr_v, zz26, evS_move, zz6, Nat.reduceEqDiff, ↓reduceIte]
      have hx : -9223372036854775808 ≤ x ∧ x < 9223372036854775808 := by
        simp [rightN] at hr; omega
      refine ⟨post.length, _, by simp, le_S0 (l' := [(4, .d (.v (.int .u64 (hiN (pre ++ [x]).sum)))), (5, .d (.v (.int .u64 (loN (pre ++ [x]).sum)))), (12, .d (ints (pre ++ x :: post))), (13, .d (iv (pre ++ x :: post).length)), (14, .d (iv (pre ++ [x]).length))]) ?_ ?_, pre ++ [x], post, by simp, rfl, rfl⟩
      · simp only [leL, look_cons, Nat.reduceBEq, cond_true, cond_false, wrap_len pre x (by simp at hl; omega), ints, List.sum_append, List.sum_cons, List.sum_nil, Int.add_zero]
        rw [← add_lo, ← add_hi _ hx.1 hx.2]
        simp only [Int.add_zero]; trivial
      · simp [wfV, AV.ids]
    · intro hb
      obtain rfl := none_of hb; clear hb
      simp only [List.append_nil] at hl hall ⊢
      refine awp_exit ?_
      simp only [zz6, Nat.reduceEqDiff, ↓reduceIte]
      refine hK0 _ ?_; try clear hK0 K0
      refine awp_keepL [4, 5] ?_
      simp only [zzJ, Nat.reduceBEq]
      refine awp_seq fun K0 hK0 => ?_
      refine awp_plain F_mixed [some 35, some 36, some 37, some 38, some 39, some 2, some 3] rfl ?_
      simp only [zzK, Nat.reduceLT, Nat.reduceLeDiff, Nat.reduceBEq, evS_move, evS_call, evC_value, zz14, zzD, Nat.reduceAdd, Nat.zero_add, zzF, evS_assign, zz6, Nat.reduceEqDiff, ↓reduceIte]
      refine call_go F_go87 (fun hG => within_ pre.sum (sum_bound hall hl).1 (sum_bound hall hl).2) (by simp [AV.ids, AV.idsL]) (by simp) ?_
      simp only [zzK, Nat.reduceLT, Nat.reduceLeDiff, Nat.reduceBEq, evS_move, evS_call, evC_value, zz14, zzD, Nat.reduceAdd, Nat.zero_add, zzF, evS_assign, zz6, Nat.reduceEqDiff, ↓reduceIte, atsL, oksG, freeN, AV.ren, AV.renL, addRows, ORow.row, Nat.reduceMul, Nat.reduceAdd, zz9, Option.bind_some, Option.map_some, zzC, yyF, List.length_cons, zz2]
      refine hK0 _ ?_; try clear hK0 K0
      refine awp_keepL [2, 3] ?_
      simp only [zzJ, Nat.reduceBEq]
      refine awp_ret ?_
      simp only [zz6, Nat.reduceEqDiff, ↓reduceIte]
      refine done0 (by simp only [resCs, resC]; trivial) ?_ (by simp [flatA, flatAs, flatD]) (by simp [AV.ids, AV.idsL])
      simp only [List.map_cons, List.map_nil, resA, S_getD, Nat.reduceLT, Nat.reduceLeDiff, look_cons, Nat.reduceBEq, cond_true, cond_false, resAll]
      simp only [List.append_nil, sumV, sumE, hall, Bool.true_and, cond_true]
theorem keyOk_ (w n : Int) : ACalls Try.prog 65 [.agg [iv w, iv n]] [] (bv (keyOk w n)) := by
  refine acalls_S (rs := [.tmp 2]) Try.func65 rfl rfl 21 [(0, .d (.agg [iv w, iv n]))] rfl (by simp) rfl ?_
  refine awp_seq fun K0 hK0 => ?_
  refine awp_plain F_mixed [some 1, some 2] rfl ?_
  simp only [zzK, Nat.reduceLT, Nat.reduceLeDiff, Nat.reduceBEq, zz35, newRow1, zz1, zzG, zzD, zzC, Option.map_some, yyE, reduceCtorEq, Nat.reduceAdd, Nat.zero_add, zzH, evS_assign, zz6, Nat.reduceEqDiff, ↓reduceIte]
  refine hK0 _ ?_; try clear hK0 K0
  refine awp_keepL [1] ?_
  simp only [zzJ, Nat.reduceBEq]
  refine awp_seq fun K0 hK0 => ?_
  refine awp_plain F_mixed [some 3, some 4, some 5, some 6, some 7, some 8, some 9, some 10, some 11, some 12, some 13, some 14, some 15, some 16, some 17, some 18, some 19, some 20, some 2] rfl ?_
  simp only [zzK, Nat.reduceLT, Nat.reduceLeDiff, Nat.reduceBEq, Nat.reduceSub, S_getD, zz5, and_imp, imp_and, imp_self, zz19, zz23, F_off23_0, zzH, Nat.zero_add, Nat.reduceAdd, F_ok3, F_ag3, F_sz3, zz8, zzD, zzC, Option.map_some, yyE, reduceCtorEq, zz21, gr_v, zz31, evS_move, b_leq, pure_leq, zz13, pickK_l, pickK_r, F_off23_1, evS_assign, zz6, Nat.reduceEqDiff, ↓reduceIte]
  refine hK0 _ ?_; try clear hK0 K0
  refine awp_keepL [2] ?_
  simp only [zzJ, Nat.reduceBEq]
  refine awp_ret ?_
  simp only [zz6, Nat.reduceEqDiff, ↓reduceIte]
  refine done0 (by simp only [resCs, resC]; trivial) ?_ (by simp [flatA, flatAs, flatD]) (by simp [AV.ids, AV.idsL])
  simp only [List.map_cons, List.map_nil, resA, S_getD, Nat.reduceLT, Nat.reduceLeDiff, look_cons, Nat.reduceBEq, cond_true, cond_false, resAll]
  simp only [keyOk]
theorem bless_ (a b c d : Int) : ACalls Try.prog 66 [.agg [iv a, iv b], .agg [iv c, iv d]] [] (bv (keyLt a b c d)) := by
  refine acalls_S (rs := [.tmp 4]) Try.func66 rfl rfl 24 [(0, .d (.agg [iv a, iv b])), (1, .d (.agg [iv c, iv d]))] rfl (by simp) rfl ?_
  refine awp_seq fun K0 hK0 => ?_
  refine awp_plain F_mixed [some 2, some 3, some 4] rfl ?_
  simp only [zzK, Nat.reduceLT, Nat.reduceLeDiff, Nat.reduceBEq, zz35, newRow1, zz1, zzG, zzD, zzC, Option.map_some, yyE, reduceCtorEq, Nat.reduceAdd, Nat.zero_add, zzH, evS_assign, zz6, Nat.reduceEqDiff, ↓reduceIte]
  refine hK0 _ ?_; try clear hK0 K0
  refine awp_keepL [2, 3] ?_
  simp only [zzJ, Nat.reduceBEq]
  refine awp_seq fun K0 hK0 => ?_
  refine awp_plain F_mixed [some 5, some 6, some 7, some 8, some 9, some 10, some 11, some 12, some 13, some 14, some 15, some 16, some 17, some 18, some 19, some 20, some 21, some 22, some 23, some 4] rfl ?_
  simp only [zzK, Nat.reduceLT, Nat.reduceLeDiff, Nat.reduceBEq, Nat.reduceSub, S_getD, zz5, and_imp, imp_and, imp_self, zz19, zz23, F_off23_0, zzH, Nat.zero_add, Nat.reduceAdd, F_ok3, F_ag3, F_sz3, zz8, zzD, zzC, Option.map_some, yyE, reduceCtorEq, zz21, gr_v, zz22, evS_move, zz34, F_off23_1, zz13, pickK_l, pickK_r, evS_assign, zz6, Nat.reduceEqDiff, ↓reduceIte]
  refine hK0 _ ?_; try clear hK0 K0
  refine awp_keepL [4] ?_
  simp only [zzJ, Nat.reduceBEq]
  refine awp_ret ?_
  simp only [zz6, Nat.reduceEqDiff, ↓reduceIte]
  refine done0 (by simp only [resCs, resC]; trivial) ?_ (by simp [flatA, flatAs, flatD]) (by simp [AV.ids, AV.idsL])
  simp only [List.map_cons, List.map_nil, resA, S_getD, Nat.reduceLT, Nat.reduceLeDiff, look_cons, Nat.reduceBEq, cond_true, cond_false, resAll]
  simp only [keyLt]
theorem rtOk_ (t : TradeV) : ACalls Try.prog 67 [.agg (tradeC t)] [] (bv (rtOk t)) := by
  refine acalls_S (rs := [.tmp 2]) Try.func67 rfl rfl 44 [(0, .d (.agg (tradeC t)))] rfl (by simp) rfl ?_
  refine awp_seq fun K0 hK0 => ?_
  refine awp_plain F_mixed [some 1, some 2] rfl ?_
  simp only [zzK, Nat.reduceLT, Nat.reduceLeDiff, Nat.reduceBEq, zz35, newRow1, zz1, zzG, zzD, zzC, Option.map_some, yyE, reduceCtorEq, Nat.reduceAdd, Nat.zero_add, zzH, evS_assign, tradeC, zz6, Nat.reduceEqDiff, ↓reduceIte]
  refine hK0 _ ?_; try clear hK0 K0
  refine awp_keepL [1] ?_
  simp only [zzJ, Nat.reduceBEq]
  refine awp_seq fun K0 hK0 => ?_
  refine awp_plain F_mixed [some 3, some 4, some 5, some 6, some 7, some 8, some 9, some 10, some 11, some 12, some 13, some 14, some 15, some 16, some 17, some 18, some 19, some 20, some 21, some 22, some 23, some 24, some 25, some 26, some 27, some 28, some 29, some 30, some 31, some 32, some 33, some 34, some 35, some 36, some 37, some 38, some 39, some 40, some 41, some 42, some 43, some 2] rfl ?_
  simp only [zzK, Nat.reduceLT, Nat.reduceLeDiff, Nat.reduceBEq, Nat.reduceSub, S_getD, zz5, and_imp, imp_and, imp_self, zz19, zz23, F_off93_4, zzH, Nat.zero_add, Nat.reduceAdd, F_ok3, F_ag3, F_sz3, zz8, zzD, zzC, Option.map_some, yyE, reduceCtorEq, zz21, gr_v, zz31, evS_move, b_leq, pure_leq, zz13, pickK_l, pickK_r, F_off93_5, F_off93_1, F_off93_2, zz28, F_off93_3, F_zero23, F_bld23, zz7, splice, Option.getD_some, List.append_nil, zz1, zzG, zz10, F_fld23_0, F_fld23_1, evS_call, evC_value, evS_assign, D.agg.injEq, zz6, Nat.reduceEqDiff, ↓reduceIte]
  refine call_go F_go65 (fun hG => keyOk_ t.buyer t.inst) (by simp [AV.ids, AV.idsL]) (by simp) ?_
  simp only [zzK, Nat.reduceLT, Nat.reduceLeDiff, Nat.reduceBEq, Nat.reduceSub, S_getD, zz5, and_imp, imp_and, imp_self, zz19, zz23, F_off93_4, zzH, Nat.zero_add, Nat.reduceAdd, F_ok3, F_ag3, F_sz3, zz8, zzD, zzC, Option.map_some, yyE, reduceCtorEq, zz21, gr_v, zz31, evS_move, b_leq, pure_leq, zz13, pickK_l, pickK_r, F_off93_5, F_off93_1, F_off93_2, zz28, F_off93_3, F_zero23, F_bld23, zz7, splice, Option.getD_some, List.append_nil, zz1, zzG, zz10, F_fld23_0, F_fld23_1, evS_call, evC_value, evS_assign, D.agg.injEq, zz6, Nat.reduceEqDiff, ↓reduceIte, atsL, oksG, freeN, AV.ren, AV.renL, addRows, ORow.row, Nat.reduceMul, Nat.reduceAdd, zz9, Option.bind_some, Option.map_some, S_mem, yyF, List.length_cons, zz2]
  refine call_go F_go65 (fun hG => keyOk_ t.seller t.inst) (by simp [AV.ids, AV.idsL]) (by simp) ?_
  simp only [zzK, Nat.reduceLT, Nat.reduceLeDiff, Nat.reduceBEq, Nat.reduceSub, S_getD, zz5, and_imp, imp_and, imp_self, zz19, zz23, F_off93_4, zzH, Nat.zero_add, Nat.reduceAdd, F_ok3, F_ag3, F_sz3, zz8, zzD, zzC, Option.map_some, yyE, reduceCtorEq, zz21, gr_v, zz31, evS_move, b_leq, pure_leq, zz13, pickK_l, pickK_r, F_off93_5, F_off93_1, F_off93_2, zz28, F_off93_3, F_zero23, F_bld23, zz7, splice, Option.getD_some, List.append_nil, zz1, zzG, zz10, F_fld23_0, F_fld23_1, evS_call, evC_value, evS_assign, D.agg.injEq, zz6, Nat.reduceEqDiff, ↓reduceIte, atsL, oksG, freeN, AV.ren, AV.renL, addRows, ORow.row, Nat.reduceMul, Nat.reduceAdd, zz9, Option.bind_some, Option.map_some, S_mem, yyF, List.length_cons, zz2]
  refine hK0 _ ?_; try clear hK0 K0
  refine awp_keepL [2] ?_
  simp only [zzJ, Nat.reduceBEq]
  refine awp_ret ?_
  simp only [zz6, Nat.reduceEqDiff, ↓reduceIte]
  refine done0 (by simp only [resCs, resC]; trivial) ?_ (by simp [flatA, flatAs, flatD]) (by simp [AV.ids, AV.idsL])
  simp only [List.map_cons, List.map_nil, resA, S_getD, Nat.reduceLT, Nat.reduceLeDiff, look_cons, Nat.reduceBEq, cond_true, cond_false, resAll]
  simp only [rtOk]
theorem level_ (l : List PosV) (hl : l.length ≤ 500000) : ACalls Try.prog 68 [poss l] [] (bv (levelOk l)) := by
  refine acalls_S (rs := [.tmp 2]) Try.func68 rfl rfl 41 [(0, .d (poss l))] rfl (by simp) rfl ?_
  refine awp_seq fun K0 hK0 => ?_
  refine awp_plain F_mixed [some 2] rfl ?_
  simp only [zzK, Nat.reduceLT, Nat.reduceLeDiff, Nat.reduceBEq, evS_assign, zz6, Nat.reduceEqDiff, ↓reduceIte]
  refine hK0 _ ?_; try clear hK0 K0
  refine awp_keepL [0] ?_
  simp only [zzJ, Nat.reduceBEq]
  refine awp_seq fun K0 hK0 => ?_
  refine awp_seq fun K1 hK1 => ?_
  refine awp_plain F_mixed [some 3] rfl ?_
  simp only [zzK, Nat.reduceLT, Nat.reduceLeDiff, Nat.reduceBEq, evS_assign, zz6, Nat.reduceEqDiff, ↓reduceIte]
  refine hK1 _ ?_; try clear hK1 K1
  refine awp_keepL [0, 3] ?_
  simp only [zzJ, Nat.reduceBEq]
  refine awp_block ?_
  refine awp_loop (fun m s => ∃ k : Nat, k ≤ 8 ∧ levelTo l k = true ∧ m = 8 - k ∧ s = S 41 [(0, .d (poss l)), (3, .d (iv ((k : Nat) + 1 : Int)))] []) 8 _ (le_S0 (l' := [(0, .d (poss l)), (3, .d (iv ((0 : Nat) + 1 : Int)))]) ?_ ?_) ⟨0, by decide, rfl, rfl, rfl⟩ ?_
  · simp only [leL, look_cons, Nat.reduceBEq, cond_true, cond_false]; trivial
  · simp [wfV, AV.ids]
  rintro m s ⟨k, hk8, hlv, rfl, rfl⟩
  refine awp_seq fun K2 hK2 => ?_
  refine awp_seq fun K3 hK3 => ?_
  refine awp_plain F_mixed [some 9, some 10] rfl ?_
  simp only [zzK, Nat.reduceLT, Nat.reduceLeDiff, Nat.reduceBEq, evS_move, zz21, gr_v, b_leq, pure_leq, zz6, Nat.reduceEqDiff, ↓reduceIte]
  refine hK3 _ ?_; try clear hK3 K3
  refine awp_keepL [0, 3, 10] ?_
  simp only [zzJ, Nat.reduceBEq]
  refine awp_condS _ (by decide) (by simp only [look_cons, Nat.reduceBEq, cond_true, cond_false]; rfl) ?_ ?_
  · intro hb
    have hk : k < 8 := by simp at hb; omega
    clear hb
    have hw : IntKind.wrap .i64 (((k : Nat) : Int) + 1 + 1) = (((k + 1 : Nat) : Int) + 1) := by rw [wrapI (by omega) (by omega)]; omega
    refine awp_skip ?_
    simp only [zz6, Nat.reduceEqDiff, ↓reduceIte]
    refine hK2 _ ?_; try clear hK2 K2
    refine awp_keepL [0, 3] ?_
    simp only [zzJ, Nat.reduceBEq]
    refine awp_seq fun K2 hK2 => ?_
    refine awp_block ?_
    refine awp_seq fun K3 hK3 => ?_
    refine awp_plain F_mixed [some 4] rfl ?_
    simp only [zzK, Nat.reduceLT, Nat.reduceLeDiff, Nat.reduceBEq, evS_assign, zz6, Nat.reduceEqDiff, ↓reduceIte]
    refine hK3 _ ?_; try clear hK3 K3
    refine awp_keepL [0, 3, 4] ?_
    simp only [zzJ, Nat.reduceBEq]
    refine awp_seq fun K3 hK3 => ?_
    refine awp_seq fun K4 hK4 => ?_
    refine awp_plain F_mixed [some 13, some 14, some 15] rfl ?_
    simp only [zzK, Nat.reduceLT, Nat.reduceLeDiff, Nat.reduceBEq, evS_move, evS_call, zz12, F_sl42, Option.isSome_some, poss, len_map, zz6, Nat.reduceEqDiff, ↓reduceIte]
    refine hK4 _ ?_; try clear hK4 K4
    refine awp_keepL [0, 3, 4, 13, 14, 15] ?_
    simp only [zzJ, Nat.reduceBEq]
    refine awp_block ?_
    refine awp_loop (fun m s => ∃ pre post : List PosV, l = pre ++ post ∧ m = post.length ∧ s = S 41 [(0, .d (poss (pre ++ post))), (3, .d (iv ((k : Nat) + 1 : Int))), (4, .ref 4 (levelQ pre (k + 1)).length), (13, .d (poss (pre ++ post))), (14, .d (iv (pre ++ post).length)), (15, .d (iv pre.length))] [(4, grow 3 1 4 ((levelQ pre (k + 1)).map fun n => [iv n]))]) l.length _ (le_SK id [4] rfl (l' := [(0, .d (poss (([] : List PosV) ++ l))), (3, .d (iv ((k : Nat) + 1 : Int))), (4, .ref 4 (levelQ ([] : List PosV) (k + 1)).length), (13, .d (poss (([] : List PosV) ++ l))), (14, .d (iv (([] : List PosV) ++ l).length)), (15, .d (iv ([] : List PosV).length))]) (m' := [(4, grow 3 1 4 ((levelQ ([] : List PosV) (k + 1)).map fun n => [iv n]))]) ?_ ?_ ?_ ?_) ⟨[], l, rfl, rfl, rfl⟩ ?_
    · simp only [leV, look_cons, Nat.reduceBEq, cond_true, cond_false, poss, len_map, List.nil_append]; exact ⟨VLe.still rfl, VLe.still rfl, VLe.nil_ (by decide), VLe.still rfl, VLe.still rfl, VLe.still rfl, trivial⟩
    · exact ⟨fun h => by simp at h, fun _ => rfl, trivial⟩
    · simp [wfV, AV.ids, lookR]
    · simp [wfR, grow, levelQ]
    rintro m s ⟨pre, post, hsp, rfl, rfl⟩
    have hql := levelQ_len pre (k + 1)
    refine awp_seq fun K5 hK5 => ?_
    refine awp_plain F_mixed [some 16] rfl ?_
    simp only [zzK, Nat.reduceLT, Nat.reduceLeDiff, Nat.reduceBEq, zz21, gr_v, zz22, zz6, Nat.reduceEqDiff, ↓reduceIte]
    refine hK5 _ ?_; try clear hK5 K5
    refine awp_keepL [0, 3, 4, 13, 14, 15, 16] ?_
    simp only [zzJ, Nat.reduceBEq]
    refine awp_seq fun K5 hK5 => ?_
    refine awp_condS _ (by decide) (by simp only [look_cons, Nat.reduceBEq, cond_true, cond_false]; rfl) ?_ ?_
    · intro hb
      obtain ⟨x, post, rfl⟩ := more_of hb; clear hb
      refine awp_skip ?_
      simp only [zz6, Nat.reduceEqDiff, ↓reduceIte]
      refine hK5 _ ?_; try clear hK5 K5
      refine awp_keepL [0, 3, 4, 13, 14, 15] ?_
      simp only [zzJ, Nat.reduceBEq]
      refine awp_seq fun K5 hK5 => ?_
      refine awp_block ?_
      refine awp_seq fun K6 hK6 => ?_
      refine awp_plain F_mixed [some 17, some 18, some 6, none] rfl ?_
      simp only [zzK, Nat.reduceLT, Nat.reduceLeDiff, Nat.reduceBEq, evS_indexAddr, zz23, zz24, F_sl42, F_sz25, Option.map_some, zzC, yyE, reduceCtorEq, F_ok25, F_ag25, zz8, zzD, Nat.reduceAdd, Nat.zero_add, zzH, zz32, newRow1, F_zero25, zz10, zz18, splice, List.append_nil, zz1, zzG, poss, posC, getD_mid, len_map, lt_mid, ge_mid, zz6, Nat.reduceEqDiff, ↓reduceIte]
      refine hK6 _ ?_; try clear hK6 K6
      refine awp_keepL [0, 3, 4, 6, 13, 14, 15] ?_
      simp only [zzJ, Nat.reduceBEq]
      refine awp_seq fun K6 hK6 => ?_
      refine awp_plain F_mixed [some 19, some 20, some 21, some 22, some 23] rfl ?_
      simp only [zzK, Nat.reduceLT, Nat.reduceLeDiff, Nat.reduceBEq, zz19, zz23, F_off25_0, zzH, Nat.zero_add, Nat.reduceAdd, F_off23_1, F_ok3, F_ag3, F_sz3, zz8, zzD, zzC, Option.map_some, yyE, reduceCtorEq, evS_move, zz21, gr_v, zz34, zz6, Nat.reduceEqDiff, ↓reduceIte]
      refine hK6 _ ?_; try clear hK6 K6
      refine awp_keepL [0, 3, 4, 6, 13, 14, 15, 23] ?_
      simp only [zzJ, Nat.reduceBEq]
      refine awp_condS _ (by decide) (by simp only [look_cons, Nat.reduceBEq, cond_true, cond_false]; rfl) ?_ ?_
      · intro hb
        have hs : (x.inst == ((k : Nat) + 1 : Int)) = true := hb
        clear hb
        refine awp_plain F_mixed [some 24, some 25, some 26, some 27, some 28, some 4] rfl ?_
        simp only [zzK, Nat.reduceLT, Nat.reduceLeDiff, Nat.reduceBEq, evS_move, zz19, zz23, F_off25_1, zzH, Nat.zero_add, Nat.reduceAdd, F_ok3, F_ag3, F_sz3, zz8, zzD, zzC, Option.map_some, yyE, reduceCtorEq, F_sl103, F_zero3, zz3, newRow1, zz1, zzG, maxLen_le, Nat.reduceMul, evS_call, F_by3, zz4, zz9, Option.bind_some, evS_assign, poss, posC, getD_mid, len_map, lt_mid, ge_mid, grow, unDs_map, zz6, Nat.reduceEqDiff, ↓reduceIte]
        have hm : (levelQ pre (k + 1)).length + 1 ≤ 1000000 := by have e := congrArg List.length hsp; simp only [List.length_append, List.length_cons] at e; omega
        first | refine ⟨le_maxLen hm, by omega, ?_⟩ | refine ⟨by simp, le_maxLen hm, by omega, ?_⟩
        clear hm
        refine hK5 _ ?_; try clear hK5 K5
        refine awp_keepL [0, 3, 4, 13, 14, 15] ?_
        simp only [zzJ, Nat.reduceBEq]
        refine awp_plain F_mixed [some 29, some 15] rfl ?_
        simp only [zzK, Nat.reduceLT, Nat.reduceLeDiff, Nat.reduceBEq, zz21, gr_v, zz26, evS_move, zz6, Nat.reduceEqDiff, ↓reduceIte]
        refine ⟨post.length, _, by simp, le_SK (fun r => bif r == 4 then 28 else r) [] rfl (l' := [(0, .d (poss ((pre ++ [x]) ++ post))), (3, .d (iv ((k : Nat) + 1 : Int))), (4, .ref 4 (levelQ (pre ++ [x]) (k + 1)).length), (13, .d (poss ((pre ++ [x]) ++ post))), (14, .d (iv ((pre ++ [x]) ++ post).length)), (15, .d (iv (pre ++ [x]).length))]) (m' := [(4, grow 3 1 4 ((levelQ (pre ++ [x]) (k + 1)).map fun n => [iv n]))]) ?_ ?_ ?_ ?_, pre ++ [x], post, by simp [hsp], rfl, rfl⟩
        · simp only [leV, look_cons, Nat.reduceBEq, cond_true, cond_false, poss, len_map, List.append_assoc, List.singleton_append, wrap_len pre x (by have e := congrArg List.length hsp; simp only [List.length_append, List.length_cons, List.length_map] at e; omega)]
          refine ⟨VLe.still rfl, VLe.still rfl, ?_, VLe.still rfl, VLe.still rfl, VLe.still rfl, trivial⟩
          rw [levelQ_yes hs]
          rw [show (AV.ref 28 _ : AV) = .ref ((fun r => bif r == 4 then 28 else r) 4) (levelQ pre (k + 1) ++ [x.qty]).length from by simp]; try exact VLe.ref_ (f := (fun r => bif r == 4 then 28 else r)) (r := 4) (by simp)
        · exact ⟨fun _ => ⟨_, rfl, RowLe.data_ (by rw [levelQ_yes hs] <;> simp)⟩, fun h => by simp at h, trivial⟩
        · simp [wfV, AV.ids, lookR, grow]
        · exact ⟨wf_data _ _, trivial⟩
      · intro hb
        have hs : (x.inst == ((k : Nat) + 1 : Int)) = false := hb
        clear hb
        refine awp_skip ?_
        simp only [zz6, Nat.reduceEqDiff, ↓reduceIte]
        refine hK5 _ ?_; try clear hK5 K5
        refine awp_keepL [0, 3, 4, 13, 14, 15] ?_
        simp only [zzJ, Nat.reduceBEq]
        refine awp_plain F_mixed [some 29, some 15] rfl ?_
        simp only [zzK, Nat.reduceLT, Nat.reduceLeDiff, Nat.reduceBEq, zz21, gr_v, zz26, evS_move, zz6, Nat.reduceEqDiff, ↓reduceIte]
        refine ⟨post.length, _, by simp, le_SK (fun r => bif r == 4 then 4 else r) [] rfl (l' := [(0, .d (poss ((pre ++ [x]) ++ post))), (3, .d (iv ((k : Nat) + 1 : Int))), (4, .ref 4 (levelQ (pre ++ [x]) (k + 1)).length), (13, .d (poss ((pre ++ [x]) ++ post))), (14, .d (iv ((pre ++ [x]) ++ post).length)), (15, .d (iv (pre ++ [x]).length))]) (m' := [(4, grow 3 1 4 ((levelQ (pre ++ [x]) (k + 1)).map fun n => [iv n]))]) ?_ ?_ ?_ ?_, pre ++ [x], post, by simp [hsp], rfl, rfl⟩
        · simp only [leV, look_cons, Nat.reduceBEq, cond_true, cond_false, poss, len_map, List.append_assoc, List.singleton_append, wrap_len pre x (by have e := congrArg List.length hsp; simp only [List.length_append, List.length_cons, List.length_map] at e; omega)]
          refine ⟨VLe.still rfl, VLe.still rfl, ?_, VLe.still rfl, VLe.still rfl, VLe.still rfl, trivial⟩
          rw [levelQ_no hs]
          rw [show (AV.ref 4 _ : AV) = .ref ((fun r => bif r == 4 then 4 else r) 4) (levelQ pre (k + 1)).length from by simp]; try exact VLe.ref_ (f := (fun r => bif r == 4 then 4 else r)) (r := 4) (by simp)
        · exact ⟨fun _ => ⟨_, rfl, RowLe.data_ (by rw [levelQ_no hs] <;> simp)⟩, fun h => by simp at h, trivial⟩
        · simp [wfV, AV.ids, lookR, grow]
        · exact ⟨wf_data _ _, trivial⟩
    · intro hb
      obtain rfl := none_of hb; clear hb
      simp only [List.append_nil] at hsp ⊢
      obtain rfl : l = pre := hsp
      refine awp_exit ?_
      simp only [zz6, Nat.reduceEqDiff, ↓reduceIte]
      refine hK3 _ ?_; try clear hK3 K3
      refine awp_keepL [0, 3, 4] ?_
      simp only [zzJ, Nat.reduceBEq]
      refine awp_seq fun K3 hK3 => ?_
      refine awp_plain F_mixed [some 31, some 32, some 30, some 33, some 34, some 7, some 8] rfl ?_
      simp only [zzK, Nat.reduceLT, Nat.reduceLeDiff, Nat.reduceBEq, evS_move, evS_call, evC_value, zz14, zzD, Nat.reduceAdd, Nat.zero_add, zzF, evS_assign, ints, grow, len_map, zz6, Nat.reduceEqDiff, ↓reduceIte]
      refine call_go F_go81 (fun hG => Sum_ (levelQ l (k + 1)) (by omega)) (by simp [AV.ids, AV.idsL]) (by simp) ?_
      simp only [zzK, Nat.reduceLT, Nat.reduceLeDiff, Nat.reduceBEq, evS_move, evS_call, evC_value, zz14, zzD, Nat.reduceAdd, Nat.zero_add, zzF, evS_assign, ints, grow, len_map, zz6, Nat.reduceEqDiff, ↓reduceIte, atsL, oksG, freeN, AV.ren, AV.renL, addRows, ORow.row, Nat.reduceMul, Nat.reduceAdd, zz9, Option.bind_some, Option.map_some, zzC, yyF, List.length_cons, zz2]
      try refine ⟨by simp, ?_⟩
      refine hK3 _ ?_; try clear hK3 K3
      refine awp_keepL [0, 3, 7, 8] ?_
      simp only [zzJ, Nat.reduceBEq]
      refine awp_seq fun K3 hK3 => ?_
      refine awp_plain F_mixed [some 35, some 36, some 37, some 38, some 39, some 40] rfl ?_
      simp only [zzK, Nat.reduceLT, Nat.reduceLeDiff, Nat.reduceBEq, Nat.reduceSub, S_getD, zz5, and_imp, imp_and, imp_self, and_self, evS_move, zz21, gr_v, zz28, zz13, pickK_l, pickK_r, zz6, Nat.reduceEqDiff, ↓reduceIte]
      refine hK3 _ ?_; try clear hK3 K3
      refine awp_keepL [0, 3, 40] ?_
      simp only [zzJ, Nat.reduceBEq]
      refine awp_condS _ (by decide) (by simp only [look_cons, Nat.reduceBEq, cond_true, cond_false]; rfl) ?_ ?_
      · intro hb
        have hli : levelI l (k + 1) = false := lev_f hb
        clear hb
        refine awp_seq fun K4 hK4 => ?_
        refine awp_plain F_mixed [some 2] rfl ?_
        simp only [zzK, Nat.reduceLT, Nat.reduceLeDiff, Nat.reduceBEq, evS_assign, zz6, Nat.reduceEqDiff, ↓reduceIte]
        refine hK4 _ ?_; try clear hK4 K4
        refine awp_keepL [2] ?_
        simp only [zzJ, Nat.reduceBEq]
        refine awp_ret ?_
        simp only [zz6, Nat.reduceEqDiff, ↓reduceIte]
        refine done0 (by simp only [resCs, resC]; trivial) ?_ (by simp [flatA, flatAs, flatD]) (by simp [AV.ids, AV.idsL])
        simp only [List.map_cons, List.map_nil, resA, S_getD, Nat.reduceLT, Nat.reduceLeDiff, look_cons, Nat.reduceBEq, cond_true, cond_false, resAll]
        rw [levelTo_false hk hli]
      · intro hb
        have hli : levelI l (k + 1) = true := lev_t hb
        clear hb
        refine awp_skip ?_
        simp only [zz6, Nat.reduceEqDiff, ↓reduceIte]
        refine hK2 _ ?_; try clear hK2 K2
        refine awp_keepL [0, 3] ?_
        simp only [zzJ, Nat.reduceBEq]
        refine awp_plain F_mixed [some 11, some 12, some 3] rfl ?_
        simp only [zzK, Nat.reduceLT, Nat.reduceLeDiff, Nat.reduceBEq, evS_move, zz21, gr_v, zz26, evS_assign, zz6, Nat.reduceEqDiff, ↓reduceIte]
        refine ⟨8 - (k + 1), _, by omega, le_S0 (l' := [(0, .d (poss l)), (3, .d (iv (((k + 1) : Nat) + 1 : Int)))]) ?_ ?_, k + 1, by omega, by rw [levelTo_succ, hlv, hli]; rfl, rfl, rfl⟩
        · simp only [leL, look_cons, Nat.reduceBEq, cond_true, cond_false, hw]; trivial
        · simp [wfV, AV.ids]
  · intro hb
    have hk : k = 8 := by simp at hb; omega
    clear hb
    subst hk
    refine awp_exit ?_
    simp only [zz6, Nat.reduceEqDiff, ↓reduceIte]
    refine hK0 _ ?_; try clear hK0 K0
    refine awp_keepL [] ?_
    simp only [zzJ, Nat.reduceBEq]
    refine awp_seq fun K0 hK0 => ?_
    refine awp_plain F_mixed [some 2] rfl ?_
    simp only [zzK, Nat.reduceLT, Nat.reduceLeDiff, Nat.reduceBEq, evS_assign, zz6, Nat.reduceEqDiff, ↓reduceIte]
    refine hK0 _ ?_; try clear hK0 K0
    refine awp_keepL [2] ?_
    simp only [zzJ, Nat.reduceBEq]
    refine awp_ret ?_
    simp only [zz6, Nat.reduceEqDiff, ↓reduceIte]
    refine done0 (by simp only [resCs, resC]; trivial) ?_ (by simp [flatA, flatAs, flatD]) (by simp [AV.ids, AV.idsL])
    simp only [List.map_cons, List.map_nil, resA, S_getD, Nat.reduceLT, Nat.reduceLeDiff, look_cons, Nat.reduceBEq, cond_true, cond_false, resAll]
    rw [show levelOk l = true from hlv]
set_option maxRecDepth 100000 in
set_option maxHeartbeats 4000000 in
theorem bCheck_ (nx : Int) (ts : List TradeV) (ps : List PosV) (ht : ts.length ≤ 500000) (hp : ps.length ≤ 500000) : ACalls Try.prog 38 [.agg (bookC ⟨nx, ts, ps⟩)] [] (.d (iv (bookE ⟨nx, ts, ps⟩))) := by
  refine acalls_S (rs := [.tmp 2]) Try.func38 rfl rfl 124 [(0, .d (.agg (bookC ⟨nx, ts, ps⟩)))] rfl (by simp) rfl ?_
  refine awp_seq fun K0 hK0 => ?_
  refine awp_plain F_mixed [some 1, some 2] rfl ?_
  simp only [zzK, Nat.reduceLT, Nat.reduceLeDiff, Nat.reduceBEq, zz35, newRow1, zz1, zzG, zzD, zzC, Option.map_some, yyE, reduceCtorEq, Nat.reduceAdd, Nat.zero_add, zzH, evS_assign, bookC, tradesB, poss, zz6, Nat.reduceEqDiff, ↓reduceIte]
  refine hK0 _ ?_; try clear hK0 K0
  refine awp_keepL [1] ?_
  simp only [zzJ, Nat.reduceBEq]
  refine awp_seq fun K0 hK0 => ?_
  refine awp_seq fun K1 hK1 => ?_
  refine awp_plain F_mixed [some 7, some 8, some 9, some 10] rfl ?_
  simp only [zzK, Nat.reduceLT, Nat.reduceLeDiff, Nat.reduceBEq, zz19, zz23, F_off44_2, zzH, Nat.zero_add, Nat.reduceAdd, F_ok42, F_ag42, F_sz42, zz8, zzD, zzC, Option.map_some, yyE, reduceCtorEq, evS_call, zz12, F_sl42, Option.isSome_some, evS_move, len_map, zz6, Nat.reduceEqDiff, ↓reduceIte]
  refine hK1 _ ?_; try clear hK1 K1
  refine awp_keepL [1, 8, 9, 10] ?_
  simp only [zzJ, Nat.reduceBEq]
  refine awp_block ?_
  refine awp_loop (fun m s => ∃ pre post : List PosV, ps = pre ++ post ∧ chkR posOk pLt none ps = chkR posOk pLt pre.getLast? post ∧ m = post.length ∧ s = S 124 [(1, .ptr 1 0 0), (8, .d (.sl 4 (ps.map posC))), (9, .d (iv ps.length)), (10, .d (iv pre.length))] [(1, (⟨True, 44, 3, true, false, 1, [[.d (iv nx), .d (.sl 7 (ts.map tradeC)), .d (.sl 4 (ps.map posC))]]⟩ : ARow))]) ps.length _ (le_SK id [] rfl (l' := [(1, .ptr 1 0 0), (8, .d (.sl 4 (ps.map posC))), (9, .d (iv ps.length)), (10, .d (iv ([] : List PosV).length))]) (m' := [(1, (⟨True, 44, 3, true, false, 1, [[.d (iv nx), .d (.sl 7 (ts.map tradeC)), .d (.sl 4 (ps.map posC))]]⟩ : ARow))]) ?_ ?_ ?_ ?_) ⟨[], ps, rfl, rfl, rfl, rfl⟩ ?_
  · simp only [leV, look_cons, Nat.reduceBEq, cond_true, cond_false, len_map]; exact ⟨VLe.refl _, VLe.refl _, VLe.refl _, VLe.refl _, trivial⟩
  · exact ⟨fun _ => ⟨_, rfl, ⟨id, rfl, rfl, fun _ => rfl, id, .inl, VLess.refl _⟩⟩, fun h => by simp at h, trivial⟩
  · simp [wfV, AV.ids, AV.idsL, lookR]
  · simp [wfR, AV.idsL, AV.ids]
  rintro m s ⟨pre, post, rfl, hck, rfl, rfl⟩
  refine awp_seq fun K2 hK2 => ?_
  refine awp_plain F_mixed [some 11] rfl ?_
  simp only [zzK, Nat.reduceLT, Nat.reduceLeDiff, Nat.reduceBEq, zz21, gr_v, zz22, zz6, Nat.reduceEqDiff, ↓reduceIte]
  refine hK2 _ ?_; try clear hK2 K2
  refine awp_keepL [1, 8, 9, 10, 11] ?_
  simp only [zzJ, Nat.reduceBEq]
  refine awp_seq fun K2 hK2 => ?_
  refine awp_condS _ (by decide) (by simp only [look_cons, Nat.reduceBEq, cond_true, cond_false]; rfl) ?_ ?_
  · intro hb
    obtain ⟨x, post, rfl⟩ := more_of hb; clear hb
    have hpp : pre.length < 4611686018427387904 := by simp at hp; omega
    have hpg := prev_get posC pre post x [] hpp
    refine awp_skip ?_
    simp only [zz6, Nat.reduceEqDiff, ↓reduceIte]
    refine hK2 _ ?_; try clear hK2 K2
    refine awp_keepL [1, 8, 9, 10] ?_
    simp only [zzJ, Nat.reduceBEq]
    refine awp_seq fun K2 hK2 => ?_
    refine awp_block ?_
    refine awp_seq fun K3 hK3 => ?_
    refine awp_plain F_mixed [some 12, some 13, some 14, some 4, some 3, none] rfl ?_
    simp only [zzK, Nat.reduceLT, Nat.reduceLeDiff, Nat.reduceBEq, evS_move, evS_indexAddr, zz23, zz24, F_sl42, F_sz25, Option.map_some, zzC, yyE, reduceCtorEq, F_ok25, F_ag25, zz8, zzD, Nat.reduceAdd, Nat.zero_add, zzH, zz32, newRow1, F_zero25, zz10, evS_assign, zz18, splice, List.append_nil, zz1, zzG, posC, getD_mid, len_map, lt_mid, ge_mid, zz6, Nat.reduceEqDiff, ↓reduceIte]
    refine hK3 _ ?_; try clear hK3 K3
    refine awp_keepL [1, 3, 4, 8, 9, 10] ?_
    simp only [zzJ, Nat.reduceBEq]
    refine awp_seq fun K3 hK3 => ?_
    refine awp_draw F_mixed [some 15, some 16, some 17, some 18, some 19, some 20, some 21, some 22, some 23, some 24, some 25, some 26, some 27, some 28, some 29, some 30, some 31, some 32, some 33, some 34, some 35, some 36, some 37, some 38, some 39, some 40, some 41, some 42, some 43, some 44, some 45, some 46, some 47, some 48, some 49, some 50, some 51, some 52, some 53, some 54, some 55, some 56, some 57, some 58, some 59, some 60, some 61, some 62] rfl (by kernel_rfl) ?_
    simp only [zzK, Nat.reduceLT, Nat.reduceLeDiff, Nat.reduceBEq, Nat.reduceSub, S_getD, zz5, and_imp, imp_and, imp_self, zz19, zz23, F_off25_0, zzH, Nat.zero_add, Nat.reduceAdd, F_ok23, F_ag23, F_sz23, zz8, zzD, zzC, Option.map_some, yyE, reduceCtorEq, evS_call, evC_value, zz29, gr_v, zz30, evS_move, F_off25_1, F_ok3, F_ag3, F_sz3, zz21, zz22, zz13, pickK_l, pickK_r, zz25, F_off25_2, F_sl103, F_zero3, zz3, newRow1, zz1, zzG, maxLen_le, Nat.reduceMul, zz34, F_off44_2, F_ok42, F_ag42, F_sz42, zz33, evS_indexAddr, zz24, F_sl42, F_sz25, ints, unDs_map, D.sl.injEq, D.agg.injEq, posC, hpg, getD_mid, len_map, lt_mid, ge_mid, zz6, Nat.reduceEqDiff, ↓reduceIte]
    refine call_go F_go65 (fun hG => keyOk_ x.who x.inst) (by simp [AV.ids, AV.idsL]) (by simp) ?_
    simp only [zzK, Nat.reduceLT, Nat.reduceLeDiff, Nat.reduceBEq, Nat.reduceSub, S_getD, zz5, and_imp, imp_and, imp_self, zz19, zz23, F_off25_0, zzH, Nat.zero_add, Nat.reduceAdd, F_ok23, F_ag23, F_sz23, zz8, zzD, zzC, Option.map_some, yyE, reduceCtorEq, evS_call, evC_value, zz29, gr_v, zz30, evS_move, F_off25_1, F_ok3, F_ag3, F_sz3, zz21, zz22, zz13, pickK_l, pickK_r, zz25, F_off25_2, F_sl103, F_zero3, zz3, newRow1, zz1, zzG, maxLen_le, Nat.reduceMul, zz34, F_off44_2, F_ok42, F_ag42, F_sz42, zz33, evS_indexAddr, zz24, F_sl42, F_sz25, ints, unDs_map, D.agg.injEq, posC, hpg, getD_mid, len_map, lt_mid, ge_mid, zz6, Nat.reduceEqDiff, ↓reduceIte, atsL, oksG, freeN, AV.ren, AV.renL, addRows, ORow.row, Nat.reduceMul, Nat.reduceAdd, zz9, Option.bind_some, Option.map_some, S_mem, yyF, List.length_cons, zz2]
    refine call_go F_go29 (fun hG => Right_ [x.cost] (by simp)) (by simp [AV.ids, AV.idsL]) (by simp) ?_
    simp only [zzK, Nat.reduceLT, Nat.reduceLeDiff, Nat.reduceBEq, Nat.reduceSub, S_getD, zz5, and_imp, imp_and, imp_self, zz19, zz23, F_off25_0, zzH, Nat.zero_add, Nat.reduceAdd, F_ok23, F_ag23, F_sz23, zz8, zzD, zzC, Option.map_some, yyE, reduceCtorEq, evS_call, evC_value, zz29, gr_v, zz30, evS_move, F_off25_1, F_ok3, F_ag3, F_sz3, zz21, zz22, zz13, pickK_l, pickK_r, zz25, F_off25_2, F_sl103, F_zero3, zz3, newRow1, zz1, zzG, maxLen_le, Nat.reduceMul, zz34, F_off44_2, F_ok42, F_ag42, F_sz42, zz33, evS_indexAddr, zz24, F_sl42, F_sz25, ints, unDs_map, D.agg.injEq, posC, hpg, getD_mid, len_map, lt_mid, ge_mid, zz6, Nat.reduceEqDiff, ↓reduceIte, atsL, oksG, freeN, AV.ren, AV.renL, addRows, ORow.row, Nat.reduceMul, Nat.reduceAdd, zz9, Option.bind_some, Option.map_some, S_mem, yyF, List.length_cons, zz2]
    refine ⟨⟨fun _ hp2 => prev_ok pre hpp hp2, fun _ _ => prev_lt pre post x hpp⟩, ?_⟩
    refine call_go F_go66 (fun hG => bless_ (lastOr x pre).who (lastOr x pre).inst x.who x.inst) (by simp [AV.ids, AV.idsL]) (by simp) ?_
    simp only [zzK, Nat.reduceLT, Nat.reduceLeDiff, Nat.reduceBEq, Nat.reduceSub, S_getD, zz5, and_imp, imp_and, imp_self, zz19, zz23, F_off25_0, zzH, Nat.zero_add, Nat.reduceAdd, F_ok23, F_ag23, F_sz23, zz8, zzD, zzC, Option.map_some, yyE, reduceCtorEq, evS_call, evC_value, zz29, gr_v, zz30, evS_move, F_off25_1, F_ok3, F_ag3, F_sz3, zz21, zz22, zz13, pickK_l, pickK_r, zz25, F_off25_2, F_sl103, F_zero3, zz3, newRow1, zz1, zzG, maxLen_le, Nat.reduceMul, zz34, F_off44_2, F_ok42, F_ag42, F_sz42, zz33, evS_indexAddr, zz24, F_sl42, F_sz25, ints, unDs_map, D.agg.injEq, posC, hpg, getD_mid, len_map, lt_mid, ge_mid, zz6, Nat.reduceEqDiff, ↓reduceIte, atsL, oksG, freeN, AV.ren, AV.renL, addRows, ORow.row, Nat.reduceMul, Nat.reduceAdd, zz9, Option.bind_some, Option.map_some, S_mem, yyF, List.length_cons, zz2]
    refine hK3 _ ?_; try clear hK3 K3
    refine awp_keepL [1, 8, 9, 10, 62] ?_
    simp only [zzJ, Nat.reduceBEq]
    refine awp_condS _ (by decide) (by simp only [look_cons, Nat.reduceBEq, cond_true, cond_false]; rfl) ?_ ?_
    · intro hb
      have hs : (!posOk x || (decide ((pre.length : Int) > 0) && !pLt (lastOr x pre) x)) = true := by simpa only [posOk, posBad, pLt, Bool.not_not] using hb
      clear hb
      refine awp_seq fun K4 hK4 => ?_
      refine awp_plain F_mixed [some 2] rfl ?_
      simp only [zzK, Nat.reduceLT, Nat.reduceLeDiff, Nat.reduceBEq, evS_assign, zz6, Nat.reduceEqDiff, ↓reduceIte]
      refine hK4 _ ?_; try clear hK4 K4
      refine awp_keepL [2] ?_
      simp only [zzJ, Nat.reduceBEq]
      refine awp_ret ?_
      simp only [zz6, Nat.reduceEqDiff, ↓reduceIte]
      refine done0 (by simp only [resCs, resC]; trivial) ?_ (by simp [flatA, flatAs, flatD]) (by simp [AV.ids, AV.idsL])
      simp only [List.map_cons, List.map_nil, resA, S_getD, Nat.reduceLT, Nat.reduceLeDiff, look_cons, Nat.reduceBEq, cond_true, cond_false, resAll]
      have e : bookOk ⟨nx, ts, pre ++ x :: post⟩ = false := by simp only [bookOk]; rw [hck, chkR_step, hs]; rfl
      simp only [bookE, e, cond_false]
    · intro hb
      have hs : (!posOk x || (decide ((pre.length : Int) > 0) && !pLt (lastOr x pre) x)) = false := by simpa only [posOk, posBad, pLt, Bool.not_not] using hb
      clear hb
      refine awp_skip ?_
      simp only [zz6, Nat.reduceEqDiff, ↓reduceIte]
      refine hK2 _ ?_; try clear hK2 K2
      refine awp_keepL [1, 8, 9, 10] ?_
      simp only [zzJ, Nat.reduceBEq]
      refine awp_plain F_mixed [some 63, some 10] rfl ?_
      simp only [zzK, Nat.reduceLT, Nat.reduceLeDiff, Nat.reduceBEq, zz21, gr_v, zz26, evS_move, zz6, Nat.reduceEqDiff, ↓reduceIte]
      refine ⟨post.length, _, by simp, le_SK id [] rfl (l' := [(1, .ptr 1 0 0), (8, .d (.sl 4 ((pre ++ x :: post).map posC))), (9, .d (iv (pre ++ x :: post).length)), (10, .d (iv (pre ++ [x]).length))]) (m' := [(1, (⟨True, 44, 3, true, false, 1, [[.d (iv nx), .d (.sl 7 (ts.map tradeC)), .d (.sl 4 ((pre ++ x :: post).map posC))]]⟩ : ARow))]) ?_ ?_ ?_ ?_, pre ++ [x], post, by simp, by rw [hck, chkR_step, hs]; simp, rfl, rfl⟩
      · simp only [leV, look_cons, Nat.reduceBEq, cond_true, cond_false, len_map, wrap_len pre x (by simp at hp; omega)]; exact ⟨VLe.refl _, VLe.refl _, VLe.refl _, VLe.refl _, trivial⟩
      · exact ⟨fun _ => ⟨_, rfl, ⟨id, rfl, rfl, fun _ => rfl, id, .inl, VLess.refl _⟩⟩, fun h => by simp at h, trivial⟩
      · simp [wfV, AV.ids, AV.idsL, lookR]
      · simp [wfR, AV.idsL, AV.ids]
  · intro hb
    obtain rfl := none_of hb; clear hb
    simp only [List.append_nil] at hck hp ⊢
    have hk0 := hck; clear hck
    obtain ⟨ps, eps⟩ : ∃ x, x = pre := ⟨_, rfl⟩
    subst eps
    refine awp_exit ?_
    simp only [zz6, Nat.reduceEqDiff, ↓reduceIte]
    refine hK0 _ ?_; try clear hK0 K0
    refine awp_keepL [1] ?_
    simp only [zzJ, Nat.reduceBEq]
    refine awp_seq fun K0 hK0 => ?_
    refine awp_seq fun K1 hK1 => ?_
    refine awp_plain F_mixed [some 64, some 65, some 66, some 67] rfl ?_
    simp only [zzK, Nat.reduceLT, Nat.reduceLeDiff, Nat.reduceBEq, zz19, zz23, F_off44_1, zzH, Nat.zero_add, Nat.reduceAdd, F_ok41, F_ag41, F_sz41, zz8, zzD, zzC, Option.map_some, yyE, reduceCtorEq, evS_call, zz12, F_sl41, Option.isSome_some, evS_move, len_map, zz6, Nat.reduceEqDiff, ↓reduceIte]
    refine hK1 _ ?_; try clear hK1 K1
    refine awp_keepL [1, 65, 66, 67] ?_
    simp only [zzJ, Nat.reduceBEq]
    refine awp_block ?_
    refine awp_loop (fun m s => ∃ pre post : List TradeV, ts = pre ++ post ∧ chkR (trOk nx) tLt none ts = chkR (trOk nx) tLt pre.getLast? post ∧ m = post.length ∧ s = S 124 [(1, .ptr 1 0 0), (65, .d (.sl 7 (ts.map tradeC))), (66, .d (iv ts.length)), (67, .d (iv pre.length))] [(1, (⟨True, 44, 3, true, false, 1, [[.d (iv nx), .d (.sl 7 (ts.map tradeC)), .d (.sl 4 (ps.map posC))]]⟩ : ARow))]) ts.length _ (le_SK id [] rfl (l' := [(1, .ptr 1 0 0), (65, .d (.sl 7 (ts.map tradeC))), (66, .d (iv ts.length)), (67, .d (iv ([] : List TradeV).length))]) (m' := [(1, (⟨True, 44, 3, true, false, 1, [[.d (iv nx), .d (.sl 7 (ts.map tradeC)), .d (.sl 4 (ps.map posC))]]⟩ : ARow))]) ?_ ?_ ?_ ?_) ⟨[], ts, rfl, rfl, rfl, rfl⟩ ?_
    · simp only [leV, look_cons, Nat.reduceBEq, cond_true, cond_false, len_map]; exact ⟨VLe.refl _, VLe.refl _, VLe.refl _, VLe.refl _, trivial⟩
    · exact ⟨fun _ => ⟨_, rfl, ⟨id, rfl, rfl, fun _ => rfl, id, .inl, VLess.refl _⟩⟩, fun h => by simp at h, trivial⟩
    · simp [wfV, AV.ids, AV.idsL, lookR]
    · simp [wfR, AV.idsL, AV.ids]
    rintro m s ⟨pre, post, rfl, hck, rfl, rfl⟩
    refine awp_seq fun K2 hK2 => ?_
    refine awp_plain F_mixed [some 68] rfl ?_
    simp only [zzK, Nat.reduceLT, Nat.reduceLeDiff, Nat.reduceBEq, zz21, gr_v, zz22, zz6, Nat.reduceEqDiff, ↓reduceIte]
    refine hK2 _ ?_; try clear hK2 K2
    refine awp_keepL [1, 65, 66, 67, 68] ?_
    simp only [zzJ, Nat.reduceBEq]
    refine awp_seq fun K2 hK2 => ?_
    refine awp_condS _ (by decide) (by simp only [look_cons, Nat.reduceBEq, cond_true, cond_false]; rfl) ?_ ?_
    · intro hb
      obtain ⟨x, post, rfl⟩ := more_of hb; clear hb
      have hpp : pre.length < 4611686018427387904 := by simp at ht; omega
      have hpg := prev_get tradeC pre post x [] hpp
      refine awp_skip ?_
      simp only [zz6, Nat.reduceEqDiff, ↓reduceIte]
      refine hK2 _ ?_; try clear hK2 K2
      refine awp_keepL [1, 65, 66, 67] ?_
      simp only [zzJ, Nat.reduceBEq]
      refine awp_seq fun K2 hK2 => ?_
      refine awp_block ?_
      refine awp_seq fun K3 hK3 => ?_
      refine awp_plain F_mixed [some 69, some 70, some 71, some 6, some 5, none] rfl ?_
      simp only [zzK, Nat.reduceLT, Nat.reduceLeDiff, Nat.reduceBEq, evS_move, evS_indexAddr, zz23, zz24, F_sl41, F_sz93, Option.map_some, zzC, yyE, reduceCtorEq, F_ok93, F_ag93, zz8, zzD, Nat.reduceAdd, Nat.zero_add, zzH, zz32, newRow1, F_zero93, zz10, evS_assign, zz18, splice, List.append_nil, zz1, zzG, tradeC, getD_mid, len_map, lt_mid, ge_mid, zz6, Nat.reduceEqDiff, ↓reduceIte]
      refine hK3 _ ?_; try clear hK3 K3
      refine awp_keepL [1, 5, 6, 65, 66, 67] ?_
      simp only [zzJ, Nat.reduceBEq]
      refine awp_seq fun K3 hK3 => ?_
      refine awp_draw F_mixed [some 72, some 73, some 74, some 75, some 76, some 77, some 78, some 79, some 80, some 81, some 82, some 83, some 84, some 85, some 86, some 87, some 88, some 89, some 90, some 91, some 92, some 93, some 94, some 95, some 96, some 97, some 98, some 99, some 100, some 101, some 102] rfl (by kernel_rfl) ?_
      simp only [zzK, Nat.reduceLT, Nat.reduceLeDiff, Nat.reduceBEq, Nat.reduceSub, S_getD, zz5, and_imp, imp_and, imp_self, F_ok93, F_ag93, F_sz93, zz8, zz23, zzD, Nat.reduceAdd, Nat.zero_add, zzH, zzC, Option.map_some, yyE, reduceCtorEq, evS_call, evC_value, zz29, gr_v, zz30, evS_move, zz19, F_off93_0, F_ok3, F_ag3, F_sz3, zz21, zz22, zz13, pickK_l, pickK_r, F_off44_0, zz25, F_off44_1, F_ok41, F_ag41, F_sz41, zz33, evS_indexAddr, zz24, F_sl41, zz31, tradeC, D.agg.injEq, hpg, getD_mid, len_map, lt_mid, ge_mid, zz6, Nat.reduceEqDiff, ↓reduceIte]
      refine call_go F_go67 (fun hG => rtOk_ x) (by simp [AV.ids, AV.idsL]) (by simp) ?_
      simp only [zzK, Nat.reduceLT, Nat.reduceLeDiff, Nat.reduceBEq, Nat.reduceSub, S_getD, zz5, and_imp, imp_and, imp_self, F_ok93, F_ag93, F_sz93, zz8, zz23, zzD, Nat.reduceAdd, Nat.zero_add, zzH, zzC, Option.map_some, yyE, reduceCtorEq, evS_call, evC_value, zz29, gr_v, zz30, evS_move, zz19, F_off93_0, F_ok3, F_ag3, F_sz3, zz21, zz22, zz13, pickK_l, pickK_r, F_off44_0, zz25, F_off44_1, F_ok41, F_ag41, F_sz41, zz33, evS_indexAddr, zz24, F_sl41, zz31, tradeC, D.agg.injEq, hpg, getD_mid, len_map, lt_mid, ge_mid, zz6, Nat.reduceEqDiff, ↓reduceIte, atsL, oksG, freeN, AV.ren, AV.renL, addRows, ORow.row, Nat.reduceMul, Nat.reduceAdd, zz9, Option.bind_some, Option.map_some, S_mem, yyF, List.length_cons, zz2]
      refine ⟨⟨fun _ hp2 => prev_ok pre hpp hp2, fun _ _ => prev_lt pre post x hpp⟩, ?_⟩
      refine hK3 _ ?_; try clear hK3 K3
      refine awp_keepL [1, 65, 66, 67, 102] ?_
      simp only [zzJ, Nat.reduceBEq]
      refine awp_condS _ (by decide) (by simp only [look_cons, Nat.reduceBEq, cond_true, cond_false]; rfl) ?_ ?_
      · intro hb
        have hs : (!trOk nx x || (decide ((pre.length : Int) > 0) && !tLt (lastOr x pre) x)) = true := by simpa only [trOk, trBad, tLt, Bool.not_not] using hb
        clear hb
        refine awp_seq fun K4 hK4 => ?_
        refine awp_plain F_mixed [some 2] rfl ?_
        simp only [zzK, Nat.reduceLT, Nat.reduceLeDiff, Nat.reduceBEq, evS_assign, zz6, Nat.reduceEqDiff, ↓reduceIte]
        refine hK4 _ ?_; try clear hK4 K4
        refine awp_keepL [2] ?_
        simp only [zzJ, Nat.reduceBEq]
        refine awp_ret ?_
        simp only [zz6, Nat.reduceEqDiff, ↓reduceIte]
        try simp only [List.append_nil]
        refine done0 (by simp only [resCs, resC]; trivial) ?_ (by simp [flatA, flatAs, flatD]) (by simp [AV.ids, AV.idsL])
        simp only [List.map_cons, List.map_nil, resA, S_getD, Nat.reduceLT, Nat.reduceLeDiff, look_cons, Nat.reduceBEq, cond_true, cond_false, resAll]
        have e : bookOk ⟨nx, pre ++ x :: post, ps⟩ = false := by simp only [bookOk]; rw [hk0, hck, chkR_step, hs]; rfl
        simp only [bookE, e, cond_false]
      · intro hb
        have hs : (!trOk nx x || (decide ((pre.length : Int) > 0) && !tLt (lastOr x pre) x)) = false := by simpa only [trOk, trBad, tLt, Bool.not_not] using hb
        clear hb
        refine awp_skip ?_
        simp only [zz6, Nat.reduceEqDiff, ↓reduceIte]
        refine hK2 _ ?_; try clear hK2 K2
        refine awp_keepL [1, 65, 66, 67] ?_
        simp only [zzJ, Nat.reduceBEq]
        refine awp_plain F_mixed [some 103, some 67] rfl ?_
        simp only [zzK, Nat.reduceLT, Nat.reduceLeDiff, Nat.reduceBEq, zz21, gr_v, zz26, evS_move, zz6, Nat.reduceEqDiff, ↓reduceIte]
        refine ⟨post.length, _, by simp, le_SK id [] rfl (l' := [(1, .ptr 1 0 0), (65, .d (.sl 7 ((pre ++ x :: post).map tradeC))), (66, .d (iv (pre ++ x :: post).length)), (67, .d (iv (pre ++ [x]).length))]) (m' := [(1, (⟨True, 44, 3, true, false, 1, [[.d (iv nx), .d (.sl 7 ((pre ++ x :: post).map tradeC)), .d (.sl 4 (ps.map posC))]]⟩ : ARow))]) ?_ ?_ ?_ ?_, pre ++ [x], post, by simp, by rw [hck, chkR_step, hs]; simp, rfl, rfl⟩
        · simp only [leV, look_cons, Nat.reduceBEq, cond_true, cond_false, len_map, wrap_len pre x (by simp at ht; omega)]; exact ⟨VLe.refl _, VLe.refl _, VLe.refl _, VLe.refl _, trivial⟩
        · exact ⟨fun _ => ⟨_, rfl, ⟨id, rfl, rfl, fun _ => rfl, id, .inl, VLess.refl _⟩⟩, fun h => by simp at h, trivial⟩
        · simp [wfV, AV.ids, AV.idsL, lookR]
        · simp [wfR, AV.idsL, AV.ids]
    · intro hb
      obtain rfl := none_of hb; clear hb
      simp only [List.append_nil] at hck ht ⊢
      have hk1 := hck; clear hck
      obtain ⟨ts, ets⟩ : ∃ x, x = pre := ⟨_, rfl⟩
      subst ets
      refine awp_exit ?_
      simp only [zz6, Nat.reduceEqDiff, ↓reduceIte]
      refine hK0 _ ?_; try clear hK0 K0
      refine awp_keepL [1] ?_
      simp only [zzJ, Nat.reduceBEq]
      refine awp_seq fun K0 hK0 => ?_
      refine awp_seq fun K1 hK1 => ?_
      refine awp_plain F_mixed [some 104, some 105, some 106, some 107, some 108, some 109, some 110, some 111, some 112, some 113, some 114, some 115, some 116, some 117, some 118, some 119, some 120, some 121, some 122, some 123] rfl ?_
      simp only [zzK, Nat.reduceLT, Nat.reduceLeDiff, Nat.reduceBEq, Nat.reduceSub, S_getD, zz5, and_imp, imp_and, imp_self, zz19, zz23, F_off44_2, zzH, Nat.zero_add, Nat.reduceAdd, F_ok42, F_ag42, F_sz42, zz8, zzD, zzC, Option.map_some, yyE, reduceCtorEq, evS_call, evC_value, zz29, gr_v, zz30, evS_move, F_off44_1, F_ok41, F_ag41, F_sz41, zz12, F_sl41, Option.isSome_some, zz21, zz25, zz13, pickK_l, pickK_r, F_off44_0, F_ok3, F_ag3, F_sz3, zz22, poss, len_map, zz6, Nat.reduceEqDiff, ↓reduceIte]
      refine call_go F_go68 (fun hG => level_ ps hp) (by simp [AV.ids, AV.idsL]) (by simp) ?_
      simp only [zzK, Nat.reduceLT, Nat.reduceLeDiff, Nat.reduceBEq, Nat.reduceSub, S_getD, zz5, and_imp, imp_and, imp_self, zz19, zz23, F_off44_2, zzH, Nat.zero_add, Nat.reduceAdd, F_ok42, F_ag42, F_sz42, zz8, zzD, zzC, Option.map_some, yyE, reduceCtorEq, evS_call, evC_value, zz29, gr_v, zz30, evS_move, F_off44_1, F_ok41, F_ag41, F_sz41, zz12, F_sl41, Option.isSome_some, zz21, zz25, zz13, pickK_l, pickK_r, F_off44_0, F_ok3, F_ag3, F_sz3, zz22, poss, len_map, zz6, Nat.reduceEqDiff, ↓reduceIte, atsL, oksG, freeN, AV.ren, AV.renL, addRows, ORow.row, Nat.reduceMul, Nat.reduceAdd, zz9, Option.bind_some, Option.map_some, S_mem, yyF, List.length_cons, zz2]
      refine hK1 _ ?_; try clear hK1 K1
      refine awp_keepL [123] ?_
      simp only [zzJ, Nat.reduceBEq]
      refine awp_condS _ (by decide) (by simp only [look_cons, Nat.reduceBEq, cond_true, cond_false]; rfl) ?_ ?_
      · intro hb
        have hs : bookTail ⟨nx, ts, ps⟩ = true := hb
        clear hb
        refine awp_seq fun K2 hK2 => ?_
        refine awp_plain F_mixed [some 2] rfl ?_
        simp only [zzK, Nat.reduceLT, Nat.reduceLeDiff, Nat.reduceBEq, evS_assign, zz6, Nat.reduceEqDiff, ↓reduceIte]
        refine hK2 _ ?_; try clear hK2 K2
        refine awp_keepL [2] ?_
        simp only [zzJ, Nat.reduceBEq]
        refine awp_ret ?_
        simp only [zz6, Nat.reduceEqDiff, ↓reduceIte]
        try simp only [List.append_nil]
        refine done0 (by simp only [resCs, resC]; trivial) ?_ (by simp [flatA, flatAs, flatD]) (by simp [AV.ids, AV.idsL])
        simp only [List.map_cons, List.map_nil, resA, S_getD, Nat.reduceLT, Nat.reduceLeDiff, look_cons, Nat.reduceBEq, cond_true, cond_false, resAll]
        have e : bookOk ⟨nx, ts, ps⟩ = false := by simp only [bookOk, hs, Bool.not_true, Bool.and_false]
        simp only [bookE, e, cond_false]
      · intro hb
        have hs : bookTail ⟨nx, ts, ps⟩ = false := hb
        clear hb
        refine awp_skip ?_
        simp only [zz6, Nat.reduceEqDiff, ↓reduceIte]
        refine hK0 _ ?_; try clear hK0 K0
        refine awp_keepL [] ?_
        simp only [zzJ, Nat.reduceBEq]
        refine awp_seq fun K0 hK0 => ?_
        refine awp_plain F_mixed [some 2] rfl ?_
        simp only [zzK, Nat.reduceLT, Nat.reduceLeDiff, Nat.reduceBEq, evS_assign, zz6, Nat.reduceEqDiff, ↓reduceIte]
        refine hK0 _ ?_; try clear hK0 K0
        refine awp_keepL [2] ?_
        simp only [zzJ, Nat.reduceBEq]
        refine awp_ret ?_
        simp only [zz6, Nat.reduceEqDiff, ↓reduceIte]
        try simp only [List.append_nil]
        refine done0 (by simp only [resCs, resC]; trivial) ?_ (by simp [flatA, flatAs, flatD]) (by simp [AV.ids, AV.idsL])
        simp only [List.map_cons, List.map_nil, resA, S_getD, Nat.reduceLT, Nat.reduceLeDiff, look_cons, Nat.reduceBEq, cond_true, cond_false, resAll]
        have e : bookOk ⟨nx, ts, ps⟩ = true := by simp only [bookOk]; rw [hk0, hk1, hs]; rfl
        simp only [bookE, e, cond_true]
theorem heavyB_ (b : BookV) : ACalls Try.prog 12 [.agg (bookC b)] [] (bv (heavyB b)) := by
  refine acalls_S (rs := [.tmp 2]) Try.func12 rfl rfl 13 [(0, .d (.agg (bookC b)))] rfl (by simp) rfl ?_
  refine awp_seq fun K0 hK0 => ?_
  refine awp_plain F_mixed [some 1, some 2] rfl ?_
  simp only [zzK, Nat.reduceLT, Nat.reduceLeDiff, Nat.reduceBEq, zz35, newRow1, zz1, zzG, zzD, zzC, Option.map_some, yyE, reduceCtorEq, Nat.reduceAdd, Nat.zero_add, zzH, evS_assign, bookC, tradesB, poss, zz6, Nat.reduceEqDiff, ↓reduceIte]
  refine hK0 _ ?_; try clear hK0 K0
  refine awp_keepL [1] ?_
  simp only [zzJ, Nat.reduceBEq]
  refine awp_seq fun K0 hK0 => ?_
  refine awp_plain F_mixed [some 3, some 4, some 5, some 6, some 7, some 8, some 9, some 10, some 11, some 12, some 2] rfl ?_
  simp only [zzK, Nat.reduceLT, Nat.reduceLeDiff, Nat.reduceBEq, Nat.reduceSub, S_getD, zz5, and_imp, imp_and, imp_self, zz19, zz23, F_off44_1, zzH, Nat.zero_add, Nat.reduceAdd, F_ok41, F_ag41, F_sz41, zz8, zzD, zzC, Option.map_some, yyE, reduceCtorEq, evS_call, zz12, F_sl41, Option.isSome_some, zz21, gr_v, zz25, evS_move, F_off44_2, F_ok42, F_ag42, F_sz42, F_sl42, zz13, pickK_l, pickK_r, evS_assign, len_map, zz6, Nat.reduceEqDiff, ↓reduceIte]
  refine hK0 _ ?_; try clear hK0 K0
  refine awp_keepL [2] ?_
  simp only [zzJ, Nat.reduceBEq]
  refine awp_ret ?_
  simp only [zz6, Nat.reduceEqDiff, ↓reduceIte]
  refine done0 (by simp only [resCs, resC]; trivial) ?_ (by simp [flatA, flatAs, flatD]) (by simp [AV.ids, AV.idsL])
  simp only [List.map_cons, List.map_nil, resA, S_getD, Nat.reduceLT, Nat.reduceLeDiff, look_cons, Nat.reduceBEq, cond_true, cond_false, resAll]
  rfl
end Go.Proofs.Ytdgkiemehmmobaa
