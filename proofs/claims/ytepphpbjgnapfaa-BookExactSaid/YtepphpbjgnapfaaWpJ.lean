import Derived.Test.YtepphpbjgnapfaaWpC
import Derived.Test.YtepphpbjgnapfaaSpecKE
import Derived.Test.YtepphpbjgnapfaaWpA
namespace Go.Proofs.Ytepphpbjgnapfaa
open Go.RowKit
set_option linter.unusedVariables false
set_option linter.unusedSimpArgs false
theorem F_ag88 : aggT Try.prog 88 = true := by kernel_rfl
theorem F_sz88 : szT Try.prog 88 = 2 := by kernel_rfl
theorem F_ok88 : tyOk Try.prog 88 = true := by kernel_rfl
theorem F_zero88 : zeroT Try.prog 88 = some [(.int .i64 0), (.int .u64 0)] := by kernel_rfl
theorem F_bld88 : bldT Try.prog 88 = true := by kernel_rfl
theorem F_fld88_0 : fldT Try.prog 88 0 = some (0, 1) := by kernel_rfl
theorem F_fld88_1 : fldT Try.prog 88 1 = some (1, 1) := by kernel_rfl
theorem F_sl85 : sliceT Try.prog 85 = some 88 := by kernel_rfl
theorem F_off88_1 : offT Try.prog 88 1 = some 1 := by kernel_rfl
theorem F_ok86 : tyOk Try.prog 86 = true := by kernel_rfl
theorem F_ag86 : aggT Try.prog 86 = false := by kernel_rfl
theorem F_sz86 : szT Try.prog 86 = 1 := by kernel_rfl
theorem F_off88_0 : offT Try.prog 88 0 = some 0 := by kernel_rfl
theorem F_eqi88 (a0 b0 : Int) (a1 b1 : Int) (w : World) : (Op.equalIn 10000 88 (.agg #[.int .i64 a0, .int .u64 a1]) (.agg #[.int .i64 b0, .int .u64 b1])).run Try.prog w = .ok (veqL [.int .i64 a0, .int .u64 a1] [.int .i64 b0, .int .u64 b1]) w := by
  have u3 := Try.underlying3
  have g3 := Try.isAgg3
  have z3 := Try.sizeOf3
  have u86 := Try.underlying86
  have g86 := Try.isAgg86
  have z86 := Try.sizeOf86
  have hS : Try.prog.underlying 88 = some (.struct (Try.prog.fieldsOf 88)) := by kernel_rfl
  have hp : Try.prog.stoodInHeld 88 = false := by kernel_rfl
  rw [show (10000 : Nat) = 9999 + 1 from rfl, run_equalIn_agg w 9999 88 _ _ hS hp]
  simp only [Program.fieldsOf, Try.underlying88]
  go_simp
  by_cases h0 : a0 = b0 <;> by_cases h1 : a1 = b1 <;> simp [veqL, veq, h0, h1]
theorem F_neq88 (a0 b0 : Int) (a1 b1 : Int) (x y : Operand) : pureBin Try.prog .neq 88 x y (.agg #[.int .i64 a0, .int .u64 a1]) (.agg #[.int .i64 b0, .int .u64 b1]) = True := by
  have hm : Try.prog.eqGuardType Try.prog.depth 88 = false := by kernel_rfl
  simp only [pureBin, Pure, eq_iff_iff, iff_true]
  intro w
  simp only [Sem.run_bind, run_eqGuard_agg w .neq 88 x y _ _ hm, Result.andThen_ok, run_neq_struct, F_eqi88, binV]
theorem F_go56 : goFn Try.prog 56 := ⟨_, Try.func56, rfl, rfl⟩
theorem F_go38 : goFn Try.prog 38 := ⟨_, Try.func38, rfl, rfl⟩
theorem F_by88 : byT Try.prog 88 = 16 := by kernel_rfl
theorem F_go57 : goFn Try.prog 57 := ⟨_, Try.func57, rfl, rfl⟩
theorem F_go58 : goFn Try.prog 58 := ⟨_, Try.func58, rfl, rfl⟩
theorem F_go44 : goFn Try.prog 44 := ⟨_, Try.func44, rfl, rfl⟩
theorem F_go59 : goFn Try.prog 59 := ⟨_, Try.func59, rfl, rfl⟩
theorem F_go60 : goFn Try.prog 60 := ⟨_, Try.func60, rfl, rfl⟩
theorem F_go45 : goFn Try.prog 45 := ⟨_, Try.func45, rfl, rfl⟩
theorem F_go46 : goFn Try.prog 46 := ⟨_, Try.func46, rfl, rfl⟩
theorem F_go39 : goFn Try.prog 39 := ⟨_, Try.func39, rfl, rfl⟩
theorem F_go47 : goFn Try.prog 47 := ⟨_, Try.func47, rfl, rfl⟩
theorem rRight_ (n : Int) : ACalls Try.prog 38 [iv n] [] (bv (rightN n)) := by
  refine acalls_S (rs := [.tmp 2]) Try.func38 rfl rfl 9 [(0, .d (iv n))] rfl (by simp) rfl ?_
  refine awp_seq fun K0 hK0 => ?_
  refine awp_plain F_mixed [some 2] rfl ?_
  simp only [List.nil_append, List.cons_append, true_and, and_true, zz0, true_implies, Nat.reduceLT, Nat.reduceLeDiff, zzI, look_nil, Nat.reduceBEq, implies_true, evS_assign, zz6, Nat.reduceEqDiff, ↓reduceIte]
  refine hK0 _ ?_; try clear hK0 K0
  refine awp_keepL [0] ?_
  simp only [zz20, zzI, look_nil, Nat.reduceBEq]
  refine awp_seq fun K0 hK0 => ?_
  refine awp_plain F_mixed [some 3, some 4, some 5, some 6, some 7, some 8, some 2] rfl ?_
  simp only [List.nil_append, List.cons_append, true_and, and_true, zz0, true_implies, Nat.reduceLT, Nat.reduceLeDiff, zzI, look_nil, Nat.reduceBEq, implies_true, Nat.reduceSub, S_getD, zz5, and_imp, imp_and, imp_self, and_self, evS_move, zz21, gr_v, zz31, b_leq, pure_leq, zz13, pickK_l, pickK_r, evS_assign, zz6, Nat.reduceEqDiff, ↓reduceIte]
  refine hK0 _ ?_; try clear hK0 K0
  refine awp_keepL [2] ?_
  simp only [zz20, zzI, look_nil, Nat.reduceBEq]
  refine awp_ret ?_
  simp only [zz6, Nat.reduceEqDiff, ↓reduceIte]
  refine done0 (by simp only [resCs, resC]; trivial) ?_ (by simp [flatA, flatAs, flatD]) (by simp [AV.ids, AV.idsL])
  simp only [List.map_cons, List.map_nil, resA, S_getD, Nat.reduceLT, Nat.reduceLeDiff, look_cons, Nat.reduceBEq, cond_true, cond_false, resAll]
  have h : (decide (n ≥ -4611686018427387904) && decide (n ≤ 4611686018427387904)) = rightN n := by
    rw [Bool.eq_iff_iff]; simp [rightN]
  rw [h]
theorem Of_ (n : Int) (h0 : -9223372036854775808 ≤ n) (h1 : n < 9223372036854775808) : ACalls Try.prog 56 [iv n] [] (wideA n) := by
  refine acalls_S (rs := [.cell 2 88]) Try.func56 rfl rfl 11 [(0, .d (iv n))] rfl (by simp) rfl ?_
  refine awp_seq fun K0 hK0 => ?_
  refine awp_plain F_mixed [some 2] rfl ?_
  simp only [List.nil_append, List.cons_append, true_and, and_true, zz0, true_implies, Nat.reduceLT, Nat.reduceLeDiff, zzI, look_nil, Nat.reduceBEq, implies_true, zz32, newRow1, F_zero88, zz16, Option.some.injEq, exists_eq_left', exists_eq_left, Option.map_some, eq_self, reduceCtorEq, and_self, zzD, Nat.reduceAdd, Nat.zero_add, zzF, zzB, zzE, zz10, zz6, Nat.reduceEqDiff, ↓reduceIte]
  refine hK0 _ ?_; try clear hK0 K0
  refine awp_keepL [0, 2] ?_
  simp only [zz20, zzI, look_nil, Nat.reduceBEq]
  refine awp_seq fun K0 hK0 => ?_
  refine awp_seq fun K1 hK1 => ?_
  refine awp_plain F_mixed [some 3, some 4] rfl ?_
  simp only [List.nil_append, List.cons_append, true_and, and_true, zz0, true_implies, Nat.reduceLT, Nat.reduceLeDiff, zzI, look_nil, Nat.reduceBEq, implies_true, evS_move, zz21, gr_v, zz22, zz6, Nat.reduceEqDiff, ↓reduceIte]
  refine hK1 _ ?_; try clear hK1 K1
  refine awp_keepL [0, 2, 4] ?_
  simp only [zz20, zzI, look_nil, Nat.reduceBEq]
  refine awp_condS _ (by decide) (by simp only [look_cons, Nat.reduceBEq, cond_true, cond_false]; rfl) ?_ ?_
  · intro hb
    simp only [decide_eq_true_eq] at hb
    refine awp_seq fun K2 hK2 => ?_
    refine awp_plain F_mixed [some 5, some 6, some 7, none] rfl ?_
    simp only [List.nil_append, List.cons_append, true_and, and_true, zz0, true_implies, Nat.reduceLT, Nat.reduceLeDiff, zzI, look_nil, Nat.reduceBEq, implies_true, evS_move, zz27, gr_v, F_cv3_86, F_cvV86, F_zero88, F_bld88, zz7, splice, Option.getD_some, List.append_nil, zz1, zzG, zzD, zz16, Option.some.injEq, exists_eq_left', exists_eq_left, Option.map_some, eq_self, reduceCtorEq, and_self, Nat.reduceAdd, Nat.zero_add, zzF, zzB, zzE, zz10, F_fld88_0, F_fld88_1, zz18, F_ok88, F_sz88, zz6, Nat.reduceEqDiff, ↓reduceIte]
    refine hK2 _ ?_; try clear hK2 K2
    refine awp_keepL [2] ?_
    simp only [zz20, zzI, look_nil, Nat.reduceBEq]
    refine awp_ret ?_
    simp only [zz6, Nat.reduceEqDiff, ↓reduceIte]
    refine done0 (by simp [resCs, resC, S, List.getD, look_cons, lookR, F_ag88, F_sz88, F_ok88]) ?_ (by simp [flatA, flatAs, flatD, wideA]) (by simp [AV.ids, AV.idsL, wideA])
    simp only [List.map_cons, List.map_nil, resA, S_getD, S_mem, lookR_cons, lookR_nil, Nat.reduceLT, Nat.reduceLeDiff, look_cons, Nat.reduceBEq, cond_true, cond_false, resAll, List.getD_cons_zero, List.getD_cons_succ, List.drop_zero, List.drop_succ_cons, List.take_succ_cons, List.take_zero, F_ag88, F_sz88, F_ok88]
    rw [wide_neg h0 hb]
  · intro hb
    simp only [decide_eq_false_iff_not, Int.not_lt] at hb
    refine awp_skip ?_
    simp only [zz6, Nat.reduceEqDiff, ↓reduceIte]
    refine hK0 _ ?_; try clear hK0 K0
    refine awp_keepL [0, 2] ?_
    simp only [zz20, zzI, look_nil, Nat.reduceBEq]
    refine awp_seq fun K0 hK0 => ?_
    refine awp_plain F_mixed [some 8, some 9, some 10, none] rfl ?_
    simp only [List.nil_append, List.cons_append, true_and, and_true, zz0, true_implies, Nat.reduceLT, Nat.reduceLeDiff, zzI, look_nil, Nat.reduceBEq, implies_true, evS_move, zz27, gr_v, F_cv3_86, F_cvV86, F_zero88, F_bld88, zz7, splice, Option.getD_some, List.append_nil, zz1, zzG, zzD, zz16, Option.some.injEq, exists_eq_left', exists_eq_left, Option.map_some, eq_self, reduceCtorEq, and_self, Nat.reduceAdd, Nat.zero_add, zzF, zzB, zzE, zz10, F_fld88_1, zz18, F_ok88, F_sz88, zz6, Nat.reduceEqDiff, ↓reduceIte]
    refine hK0 _ ?_; try clear hK0 K0
    refine awp_keepL [2] ?_
    simp only [zz20, zzI, look_nil, Nat.reduceBEq]
    refine awp_ret ?_
    simp only [zz6, Nat.reduceEqDiff, ↓reduceIte]
    refine done0 (by simp [resCs, resC, S, List.getD, look_cons, lookR, F_ag88, F_sz88, F_ok88]) ?_ (by simp [flatA, flatAs, flatD, wideA]) (by simp [AV.ids, AV.idsL, wideA])
    simp only [List.map_cons, List.map_nil, resA, S_getD, S_mem, lookR_cons, lookR_nil, Nat.reduceLT, Nat.reduceLeDiff, look_cons, Nat.reduceBEq, cond_true, cond_false, resAll, List.getD_cons_zero, List.getD_cons_succ, List.drop_zero, List.drop_succ_cons, List.take_succ_cons, List.take_zero, F_ag88, F_sz88, F_ok88]
    rw [wide_pos h1 hb]
set_option maxRecDepth 100000 in
set_option maxHeartbeats 4000000 in
theorem WSum_ (l : List Int) (hl : l.length ≤ 1000000) (hall : ∀ x ∈ l, -170141183460469231731687303715884105728 ≤ x ∧ x < 170141183460469231731687303715884105728) : ACalls Try.prog 57 [wides l] [] (.tp [wideA (bif fitsW l.sum then l.sum else 0), bv (fitsW l.sum)]) := by
  refine acalls_S (rs := [.cell 2 88, .tmp 3]) Try.func57 rfl rfl 75 [(0, .d (wides l))] rfl (by simp) rfl ?_
  refine awp_seq fun K0 hK0 => ?_
  refine awp_plain F_mixed [some 2, some 3] rfl ?_
  simp only [List.nil_append, List.cons_append, true_and, and_true, zz0, true_implies, Nat.reduceLT, Nat.reduceLeDiff, zzI, look_nil, Nat.reduceBEq, implies_true, zz32, newRow1, F_zero88, zz16, Option.some.injEq, exists_eq_left', exists_eq_left, Option.map_some, eq_self, reduceCtorEq, and_self, zzD, Nat.reduceAdd, Nat.zero_add, zzF, zzB, zzE, zz10, evS_assign, zz6, Nat.reduceEqDiff, ↓reduceIte]
  refine hK0 _ ?_; try clear hK0 K0
  refine awp_keepL [0, 2] ?_
  simp only [zz20, zzI, look_nil, Nat.reduceBEq]
  refine awp_seq fun K0 hK0 => ?_
  refine awp_plain F_mixed [some 4] rfl ?_
  simp only [List.nil_append, List.cons_append, true_and, and_true, zz0, true_implies, Nat.reduceLT, Nat.reduceLeDiff, zzI, look_nil, Nat.reduceBEq, implies_true, evS_assign, zz6, Nat.reduceEqDiff, ↓reduceIte]
  refine hK0 _ ?_; try clear hK0 K0
  refine awp_keepL [0, 2, 4] ?_
  simp only [zz20, zzI, look_nil, Nat.reduceBEq]
  refine awp_seq fun K0 hK0 => ?_
  refine awp_plain F_mixed [some 5, some 6] rfl ?_
  simp only [List.nil_append, List.cons_append, true_and, and_true, zz0, true_implies, Nat.reduceLT, Nat.reduceLeDiff, zzI, look_nil, Nat.reduceBEq, implies_true, evS_assign, zz6, Nat.reduceEqDiff, ↓reduceIte]
  refine hK0 _ ?_; try clear hK0 K0
  refine awp_keepL [0, 2, 4, 5, 6] ?_
  simp only [zz20, zzI, look_nil, Nat.reduceBEq]
  refine awp_seq fun K0 hK0 => ?_
  refine awp_seq fun K1 hK1 => ?_
  refine awp_plain F_mixed [some 7] rfl ?_
  simp only [List.nil_append, List.cons_append, true_and, and_true, zz0, true_implies, Nat.reduceLT, Nat.reduceLeDiff, zzI, look_nil, Nat.reduceBEq, implies_true, evS_assign, zz6, Nat.reduceEqDiff, ↓reduceIte]
  refine hK1 _ ?_; try clear hK1 K1
  refine awp_keepL [0, 2, 4, 5, 6, 7] ?_
  simp only [zz20, zzI, look_nil, Nat.reduceBEq]
  refine awp_block ?_
  refine awp_loop (fun m s => ∃ pre post : List Int, l = pre ++ post ∧ m = post.length ∧ s = S 75 [(0, .d (wides l)), (2, .ptr 2 0 0), (4, .d (iv (topN pre.sum))), (5, .d (.v (.int .u64 (hiN pre.sum)))), (6, .d (.v (.int .u64 (loN pre.sum)))), (7, .d (iv pre.length))] [(2, (⟨True, 88, 2, true, false, 2, [[.d (.v (.int .i64 0)), .d (.v (.int .u64 0))]]⟩ : ARow))]) l.length _ (le_SK id [] rfl (l' := [(0, .d (wides l)), (2, .ptr 2 0 0), (4, .d (iv (topN ([] : List Int).sum))), (5, .d (.v (.int .u64 (hiN ([] : List Int).sum)))), (6, .d (.v (.int .u64 (loN ([] : List Int).sum)))), (7, .d (iv ([] : List Int).length))]) (m' := [(2, (⟨True, 88, 2, true, false, 2, [[.d (.v (.int .i64 0)), .d (.v (.int .u64 0))]]⟩ : ARow))]) ?_ ?_ ?_ ?_) ⟨[], l, rfl, rfl, rfl⟩ ?_
  · simp only [leV, look_cons, Nat.reduceBEq, cond_true, cond_false, List.sum_nil]; exact ⟨VLe.refl _, VLe.refl _, VLe.refl _, VLe.refl _, VLe.refl _, VLe.refl _, trivial⟩
  · exact ⟨fun _ => ⟨_, rfl, ⟨id, rfl, rfl, fun _ => rfl, id, .inl, VLess.refl _⟩⟩, fun h => by simp at h, trivial⟩
  · simp [wfV, AV.ids, lookR]
  · simp [wfR, AV.idsL, AV.ids]
  rintro m s ⟨pre, post, rfl, rfl, rfl⟩
  refine awp_seq fun K2 hK2 => ?_
  refine awp_seq fun K3 hK3 => ?_
  refine awp_plain F_mixed [some 13, some 14, some 15, some 16] rfl ?_
  simp only [List.nil_append, List.cons_append, true_and, and_true, zz0, true_implies, Nat.reduceLT, Nat.reduceLeDiff, zzI, look_nil, Nat.reduceBEq, implies_true, evS_move, evS_call, zz12, F_sl85, Option.isSome_some, zz21, gr_v, zz22, wides, len_map, zz6, Nat.reduceEqDiff, ↓reduceIte]
  refine hK3 _ ?_; try clear hK3 K3
  refine awp_keepL [0, 2, 4, 5, 6, 7, 16] ?_
  simp only [zz20, zzI, look_nil, Nat.reduceBEq]
  refine awp_condS _ (by decide) (by simp only [look_cons, Nat.reduceBEq, cond_true, cond_false]; rfl) ?_ ?_
  · intro hb
    obtain ⟨x, post, rfl⟩ := more_of hb; clear hb
    have hx := hall x (by simp)
    have hs := wsum_bound (l := pre) (fun y hy => hall y (by simp [hy])) (by simp at hl; omega)
    refine awp_skip ?_
    simp only [zz6, Nat.reduceEqDiff, ↓reduceIte]
    refine hK2 _ ?_; try clear hK2 K2
    refine awp_keepL [0, 2, 4, 5, 6, 7] ?_
    simp only [zz20, zzI, look_nil, Nat.reduceBEq]
    refine awp_seq fun K2 hK2 => ?_
    refine awp_block ?_
    refine awp_seq fun K3 hK3 => ?_
    refine awp_plain F_mixed [some 20, some 21, some 22, some 23, some 24, some 25, some 26, some 19, some 27, some 28, some 8, some 9] rfl ?_
    simp only [List.nil_append, List.cons_append, true_and, and_true, zz0, true_implies, Nat.reduceLT, Nat.reduceLeDiff, zzI, look_nil, Nat.reduceBEq, implies_true, evS_move, evS_indexAddr, zz23, zz24, F_sl85, F_sz88, Option.map_some, zz16, Option.some.injEq, exists_eq_left', exists_eq_left, eq_self, reduceCtorEq, and_self, zz19, F_off88_1, zzB, Nat.zero_add, Nat.reduceAdd, F_ok86, F_ag86, F_sz86, zz8, zzD, zzF, zzE, evS_call, evC_value, zz14, evS_assign, wides, wideC, getD_mid, len_map, lt_mid, ge_mid, zz6, Nat.reduceEqDiff, ↓reduceIte]
    refine call_ext _ _ (add64 (loN pre.sum) (x % 18446744073709551616) 0 (lo_nn _) (by omega) (by decide) (by decide)) ?_
    simp only [List.nil_append, List.cons_append, true_and, and_true, zz0, true_implies, Nat.reduceLT, Nat.reduceLeDiff, zzI, look_nil, Nat.reduceBEq, implies_true, evS_move, evS_indexAddr, zz23, zz24, F_sl85, F_sz88, Option.map_some, zz16, Option.some.injEq, exists_eq_left', exists_eq_left, eq_self, reduceCtorEq, and_self, zz19, F_off88_1, zzB, Nat.zero_add, Nat.reduceAdd, F_ok86, F_ag86, F_sz86, zz8, zzD, zzF, zzE, evS_call, evC_value, zz14, evS_assign, wides, wideC, getD_mid, len_map, lt_mid, ge_mid, zz6, Nat.reduceEqDiff, ↓reduceIte, grsL, gr_v, Option.bind_some, Option.map_some, Option.some.injEq, oksL, ofV_pair, ofV_int, ofV_bool]
    refine hK3 _ ?_; try clear hK3 K3
    refine awp_keepL [0, 2, 4, 5, 7, 8, 9] ?_
    simp only [zz20, zzI, look_nil, Nat.reduceBEq]
    refine awp_seq fun K3 hK3 => ?_
    refine awp_plain F_mixed [some 30, some 31, some 32, some 33, some 34, some 35, some 36, some 37, some 38, some 29, some 39, some 40, some 10, some 11] rfl ?_
    simp only [List.nil_append, List.cons_append, true_and, and_true, zz0, true_implies, Nat.reduceLT, Nat.reduceLeDiff, zzI, look_nil, Nat.reduceBEq, implies_true, evS_move, evS_indexAddr, zz23, zz24, F_sl85, F_sz88, Option.map_some, zz16, Option.some.injEq, exists_eq_left', exists_eq_left, eq_self, reduceCtorEq, and_self, zz19, F_off88_0, zzB, Nat.zero_add, Nat.reduceAdd, F_ok3, F_ag3, F_sz3, zz8, zzD, zzF, zzE, zz27, gr_v, F_cv3_86, F_cvV86, evS_call, evC_value, zz14, evS_assign, wides, wideC, getD_mid, len_map, lt_mid, ge_mid, zz6, Nat.reduceEqDiff, ↓reduceIte]
    refine call_ext _ _ (add64 (hiN pre.sum) (IntKind.wrap .u64 (x / 18446744073709551616)) ((loN pre.sum + x % 18446744073709551616 + 0) / 18446744073709551616) (hi_nn _) (wu_nn _) (wcarry0 _ _) (wcarry1 _ _)) ?_
    simp only [List.nil_append, List.cons_append, true_and, and_true, zz0, true_implies, Nat.reduceLT, Nat.reduceLeDiff, zzI, look_nil, Nat.reduceBEq, implies_true, evS_move, evS_indexAddr, zz23, zz24, F_sl85, F_sz88, Option.map_some, zz16, Option.some.injEq, exists_eq_left', exists_eq_left, eq_self, reduceCtorEq, and_self, zz19, F_off88_0, zzB, Nat.zero_add, Nat.reduceAdd, F_ok3, F_ag3, F_sz3, zz8, zzD, zzF, zzE, zz27, gr_v, F_cv3_86, F_cvV86, evS_call, evC_value, zz14, evS_assign, wides, wideC, getD_mid, len_map, lt_mid, ge_mid, zz6, Nat.reduceEqDiff, ↓reduceIte, grsL, gr_v, Option.bind_some, Option.map_some, Option.some.injEq, oksL, ofV_pair, ofV_int, ofV_bool]
    refine hK3 _ ?_; try clear hK3 K3
    refine awp_keepL [0, 2, 4, 7, 8, 10, 11] ?_
    simp only [zz20, zzI, look_nil, Nat.reduceBEq]
    refine awp_seq fun K3 hK3 => ?_
    refine awp_plain F_mixed [some 41, some 42, some 6, some 5] rfl ?_
    simp only [List.nil_append, List.cons_append, true_and, and_true, zz0, true_implies, Nat.reduceLT, Nat.reduceLeDiff, zzI, look_nil, Nat.reduceBEq, implies_true, evS_move, evS_assign, zz6, Nat.reduceEqDiff, ↓reduceIte]
    refine hK3 _ ?_; try clear hK3 K3
    refine awp_keepL [0, 2, 4, 5, 6, 7, 11] ?_
    simp only [zz20, zzI, look_nil, Nat.reduceBEq]
    refine awp_seq fun K3 hK3 => ?_
    refine awp_plain F_mixed [some 43, some 44, some 45, some 46, some 4] rfl ?_
    simp only [List.nil_append, List.cons_append, true_and, and_true, zz0, true_implies, Nat.reduceLT, Nat.reduceLeDiff, zzI, look_nil, Nat.reduceBEq, implies_true, evS_move, zz27, gr_v, F_cv86_3, F_cvV3, zz21, zz26, evS_assign, zz6, Nat.reduceEqDiff, ↓reduceIte]
    refine hK3 _ ?_; try clear hK3 K3
    refine awp_keepL [0, 2, 4, 5, 6, 7] ?_
    simp only [zz20, zzI, look_nil, Nat.reduceBEq]
    refine awp_seq fun K3 hK3 => ?_
    refine awp_plain F_mixed [some 47, some 48, some 49, some 50, some 51, some 52] rfl ?_
    simp only [List.nil_append, List.cons_append, true_and, and_true, zz0, true_implies, Nat.reduceLT, Nat.reduceLeDiff, zzI, look_nil, Nat.reduceBEq, implies_true, evS_move, evS_indexAddr, zz23, zz24, F_sl85, F_sz88, Option.map_some, zz16, Option.some.injEq, exists_eq_left', exists_eq_left, eq_self, reduceCtorEq, and_self, zz19, F_off88_0, zzB, Nat.zero_add, Nat.reduceAdd, F_ok3, F_ag3, F_sz3, zz8, zzD, zzF, zzE, zz21, gr_v, zz22, wides, wideC, getD_mid, len_map, lt_mid, ge_mid, zz6, Nat.reduceEqDiff, ↓reduceIte]
    refine hK3 _ ?_; try clear hK3 K3
    refine awp_keepL [0, 2, 4, 5, 6, 7, 52] ?_
    simp only [zz20, zzI, look_nil, Nat.reduceBEq]
    refine awp_condS _ (by decide) (by simp only [look_cons, Nat.reduceBEq, cond_true, cond_false]; rfl) ?_ ?_
    · intro hb
      refine awp_plain F_mixed [some 53, some 54, some 4] rfl ?_
      simp only [List.nil_append, List.cons_append, true_and, and_true, zz0, true_implies, Nat.reduceLT, Nat.reduceLeDiff, zzI, look_nil, Nat.reduceBEq, implies_true, evS_move, zz21, gr_v, zz33, evS_assign, zz6, Nat.reduceEqDiff, ↓reduceIte]
      refine hK2 _ ?_; try clear hK2 K2
      refine awp_keepL [0, 2, 4, 5, 6, 7] ?_
      simp only [zz20, zzI, look_nil, Nat.reduceBEq]
      refine awp_plain F_mixed [some 17, some 18, some 7] rfl ?_
      simp only [List.nil_append, List.cons_append, true_and, and_true, zz0, true_implies, Nat.reduceLT, Nat.reduceLeDiff, zzI, look_nil, Nat.reduceBEq, implies_true, evS_move, zz21, gr_v, zz26, evS_assign, zz6, Nat.reduceEqDiff, ↓reduceIte]
      refine ⟨post.length, _, by simp, le_SK id [] rfl (l' := [(0, .d (wides (pre ++ x :: post))), (2, .ptr 2 0 0), (4, .d (iv (topN (pre ++ [x]).sum))), (5, .d (.v (.int .u64 (hiN (pre ++ [x]).sum)))), (6, .d (.v (.int .u64 (loN (pre ++ [x]).sum)))), (7, .d (iv (pre ++ [x]).length))]) (m' := [(2, (⟨True, 88, 2, true, false, 2, [[.d (.v (.int .i64 0)), .d (.v (.int .u64 0))]]⟩ : ARow))]) ?_ ?_ ?_ ?_, pre ++ [x], post, by simp, rfl, rfl⟩
      · simp only [leV, look_cons, Nat.reduceBEq, cond_true, cond_false, wides, wrap_len pre x (by simp at hl; omega), sum_snoc]
        refine ⟨VLe.refl _, VLe.refl _, ?_, ?_, ?_, VLe.refl _, trivial⟩
        · (first | rw [wsum_topA hs.1 hs.2 hx.1 hx.2 hb] | rw [wsum_topB hs.1 hs.2 hx.1 hx.2 hb]); exact VLe.refl _
        · rw [wsum_hi]; exact VLe.refl _
        · rw [wsum_lo]; exact VLe.refl _
      · exact ⟨fun _ => ⟨_, rfl, ⟨id, rfl, rfl, fun _ => rfl, id, .inl, VLess.refl _⟩⟩, fun h => by simp at h, trivial⟩
      · simp [wfV, AV.ids, lookR]
      · simp [wfR, AV.idsL, AV.ids]
    · intro hb
      refine awp_skip ?_
      simp only [zz6, Nat.reduceEqDiff, ↓reduceIte]
      refine hK2 _ ?_; try clear hK2 K2
      refine awp_keepL [0, 2, 4, 5, 6, 7] ?_
      simp only [zz20, zzI, look_nil, Nat.reduceBEq]
      refine awp_plain F_mixed [some 17, some 18, some 7] rfl ?_
      simp only [List.nil_append, List.cons_append, true_and, and_true, zz0, true_implies, Nat.reduceLT, Nat.reduceLeDiff, zzI, look_nil, Nat.reduceBEq, implies_true, evS_move, zz21, gr_v, zz26, evS_assign, zz6, Nat.reduceEqDiff, ↓reduceIte]
      refine ⟨post.length, _, by simp, le_SK id [] rfl (l' := [(0, .d (wides (pre ++ x :: post))), (2, .ptr 2 0 0), (4, .d (iv (topN (pre ++ [x]).sum))), (5, .d (.v (.int .u64 (hiN (pre ++ [x]).sum)))), (6, .d (.v (.int .u64 (loN (pre ++ [x]).sum)))), (7, .d (iv (pre ++ [x]).length))]) (m' := [(2, (⟨True, 88, 2, true, false, 2, [[.d (.v (.int .i64 0)), .d (.v (.int .u64 0))]]⟩ : ARow))]) ?_ ?_ ?_ ?_, pre ++ [x], post, by simp, rfl, rfl⟩
      · simp only [leV, look_cons, Nat.reduceBEq, cond_true, cond_false, wides, wrap_len pre x (by simp at hl; omega), sum_snoc]
        refine ⟨VLe.refl _, VLe.refl _, ?_, ?_, ?_, VLe.refl _, trivial⟩
        · (first | rw [wsum_topA hs.1 hs.2 hx.1 hx.2 hb] | rw [wsum_topB hs.1 hs.2 hx.1 hx.2 hb]); exact VLe.refl _
        · rw [wsum_hi]; exact VLe.refl _
        · rw [wsum_lo]; exact VLe.refl _
      · exact ⟨fun _ => ⟨_, rfl, ⟨id, rfl, rfl, fun _ => rfl, id, .inl, VLess.refl _⟩⟩, fun h => by simp at h, trivial⟩
      · simp [wfV, AV.ids, lookR]
      · simp [wfR, AV.idsL, AV.ids]
  · intro hb
    obtain rfl := none_of hb; clear hb
    simp only [List.append_nil] at hl hall ⊢
    refine awp_exit ?_
    simp only [zz6, Nat.reduceEqDiff, ↓reduceIte]
    refine hK0 _ ?_; try clear hK0 K0
    refine awp_keepL [2, 4, 5, 6] ?_
    simp only [zz20, zzI, look_nil, Nat.reduceBEq]
    refine awp_seq fun K0 hK0 => ?_
    refine awp_plain F_mixed [some 55, some 56, some 12] rfl ?_
    simp only [List.nil_append, List.cons_append, true_and, and_true, zz0, true_implies, Nat.reduceLT, Nat.reduceLeDiff, zzI, look_nil, Nat.reduceBEq, implies_true, evS_move, zz27, gr_v, F_cv86_3, F_cvV3, evS_assign, zz6, Nat.reduceEqDiff, ↓reduceIte]
    refine hK0 _ ?_; try clear hK0 K0
    refine awp_keepL [2, 4, 6, 12] ?_
    simp only [zz20, zzI, look_nil, Nat.reduceBEq]
    refine awp_seq fun K0 hK0 => ?_
    refine awp_seq fun K1 hK1 => ?_
    refine awp_plain F_mixed [some 57, some 58, some 59, some 60, some 61, some 62, some 63, some 64, some 65, some 66, some 67, some 68, some 69, some 70] rfl ?_
    simp only [List.nil_append, List.cons_append, true_and, and_true, zz0, true_implies, Nat.reduceLT, Nat.reduceLeDiff, zzI, look_nil, Nat.reduceBEq, implies_true, Nat.reduceSub, S_getD, zz5, and_imp, imp_and, imp_self, and_self, evS_move, zz21, gr_v, zz34, zz31, zz13, pickK_l, pickK_r, zz22, zz6, Nat.reduceEqDiff, ↓reduceIte]
    refine hK1 _ ?_; try clear hK1 K1
    refine awp_keepL [2, 6, 12, 70] ?_
    simp only [zz20, zzI, look_nil, Nat.reduceBEq]
    refine awp_condS _ (by decide) (by simp only [look_cons, Nat.reduceBEq, cond_true, cond_false]; rfl) ?_ ?_
    · intro hb
      rw [fits_law] at hb
      refine awp_seq fun K2 hK2 => ?_
      refine awp_plain F_mixed [some 71, some 72, some 73, none, some 3] rfl ?_
      simp only [List.nil_append, List.cons_append, true_and, and_true, zz0, true_implies, Nat.reduceLT, Nat.reduceLeDiff, zzI, look_nil, Nat.reduceBEq, implies_true, evS_move, F_zero88, F_bld88, zz7, splice, Option.getD_some, List.append_nil, zz1, zzG, zzD, zz16, Option.some.injEq, exists_eq_left', exists_eq_left, Option.map_some, eq_self, reduceCtorEq, and_self, Nat.reduceAdd, Nat.zero_add, zzF, zzB, zzE, zz10, F_fld88_0, F_fld88_1, zz18, F_ok88, F_sz88, evS_assign, zz6, Nat.reduceEqDiff, ↓reduceIte]
      refine hK2 _ ?_; try clear hK2 K2
      refine awp_keepL [2, 3] ?_
      simp only [zz20, zzI, look_nil, Nat.reduceBEq]
      refine awp_ret ?_
      simp only [zz6, Nat.reduceEqDiff, ↓reduceIte]
      refine done0 (by simp [resCs, resC, S, List.getD, look_cons, lookR, F_ag88, F_sz88, F_ok88]) ?_ (by simp [flatA, flatAs, flatD, wideA]) (by simp [AV.ids, AV.idsL, wideA])
      simp only [List.map_cons, List.map_nil, resA, S_getD, S_mem, lookR_cons, lookR_nil, Nat.reduceLT, Nat.reduceLeDiff, look_cons, Nat.reduceBEq, cond_true, cond_false, resAll, List.getD_cons_zero, List.getD_cons_succ, List.drop_zero, List.drop_succ_cons, List.take_succ_cons, List.take_zero, F_ag88, F_sz88, F_ok88]
      simp only [List.append_nil, hb, wide_fit hb, cond_true]
    · intro hb
      rw [fits_law] at hb
      refine awp_skip ?_
      simp only [zz6, Nat.reduceEqDiff, ↓reduceIte]
      refine hK0 _ ?_; try clear hK0 K0
      refine awp_keepL [2] ?_
      simp only [zz20, zzI, look_nil, Nat.reduceBEq]
      refine awp_seq fun K0 hK0 => ?_
      refine awp_plain F_mixed [some 74, none, some 3] rfl ?_
      simp only [List.nil_append, List.cons_append, true_and, and_true, zz0, true_implies, Nat.reduceLT, Nat.reduceLeDiff, zzI, look_nil, Nat.reduceBEq, implies_true, F_zero88, F_bld88, zz7, splice, Option.getD_some, List.append_nil, zz1, zzG, zzD, zz16, Option.some.injEq, exists_eq_left', exists_eq_left, Option.map_some, eq_self, reduceCtorEq, and_self, Nat.reduceAdd, Nat.zero_add, zzF, zzB, zzE, zz10, zz18, F_ok88, F_sz88, evS_assign, zz6, Nat.reduceEqDiff, ↓reduceIte]
      refine hK0 _ ?_; try clear hK0 K0
      refine awp_keepL [2, 3] ?_
      simp only [zz20, zzI, look_nil, Nat.reduceBEq]
      refine awp_ret ?_
      simp only [zz6, Nat.reduceEqDiff, ↓reduceIte]
      refine done0 (by simp [resCs, resC, S, List.getD, look_cons, lookR, F_ag88, F_sz88, F_ok88]) ?_ (by simp [flatA, flatAs, flatD, wideA]) (by simp [AV.ids, AV.idsL, wideA])
      simp only [List.map_cons, List.map_nil, resA, S_getD, S_mem, lookR_cons, lookR_nil, Nat.reduceLT, Nat.reduceLeDiff, look_cons, Nat.reduceBEq, cond_true, cond_false, resAll, List.getD_cons_zero, List.getD_cons_succ, List.drop_zero, List.drop_succ_cons, List.take_succ_cons, List.take_zero, F_ag88, F_sz88, F_ok88]
      simp only [List.append_nil, hb, cond_false]; rfl
theorem Int_ (t : Int) : ACalls Try.prog 58 [.agg (wideC t)] [] (.tp [.d (iv (bif rightN t then t else 0)), bv (rightN t)]) := by
  refine acalls_S (rs := [.tmp 2, .tmp 3]) Try.func58 rfl rfl 18 [(0, .d (.agg (wideC t)))] rfl (by simp) rfl ?_
  refine awp_seq fun K0 hK0 => ?_
  refine awp_plain F_mixed [some 1, some 2, some 3] rfl ?_
  simp only [List.nil_append, List.cons_append, true_and, and_true, zz0, true_implies, Nat.reduceLT, Nat.reduceLeDiff, zzI, look_nil, Nat.reduceBEq, implies_true, zz35, newRow1, zz1, zzG, zzD, zz16, Option.some.injEq, exists_eq_left', exists_eq_left, Option.map_some, eq_self, reduceCtorEq, and_self, Nat.reduceAdd, Nat.zero_add, zzF, zzB, zzE, evS_assign, wideC, zz6, Nat.reduceEqDiff, ↓reduceIte]
  refine hK0 _ ?_; try clear hK0 K0
  refine awp_keepL [1] ?_
  simp only [zz20, zzI, look_nil, Nat.reduceBEq]
  refine awp_seq fun K0 hK0 => ?_
  refine awp_plain F_mixed [some 5, some 6, some 7, some 4] rfl ?_
  simp only [List.nil_append, List.cons_append, true_and, and_true, zz0, true_implies, Nat.reduceLT, Nat.reduceLeDiff, zzI, look_nil, Nat.reduceBEq, implies_true, zz19, zz23, F_off88_1, zzB, Nat.zero_add, Nat.reduceAdd, F_ok86, F_ag86, F_sz86, zz8, zzD, zzF, zzE, zz16, Option.some.injEq, exists_eq_left', exists_eq_left, Option.map_some, eq_self, reduceCtorEq, and_self, zz27, gr_v, F_cv86_3, F_cvV3, evS_assign, zz6, Nat.reduceEqDiff, ↓reduceIte]
  refine hK0 _ ?_; try clear hK0 K0
  refine awp_keepL [1, 4] ?_
  simp only [zz20, zzI, look_nil, Nat.reduceBEq]
  refine awp_seq fun K0 hK0 => ?_
  refine awp_seq fun K1 hK1 => ?_
  refine awp_draw F_mixed [some 8, some 9, some 10, some 11, some 12, some 13, some 14, some 15, some 16] rfl (by kernel_rfl) ?_
  simp only [List.nil_append, List.cons_append, true_and, and_true, zz0, true_implies, Nat.reduceLT, Nat.reduceLeDiff, zzI, look_nil, Nat.reduceBEq, implies_true, Nat.reduceSub, S_getD, zz5, and_imp, imp_and, imp_self, and_self, evS_move, evS_call, evC_value, F_ok88, F_ag88, F_sz88, zz8, zz23, zzD, Nat.reduceAdd, Nat.zero_add, zzF, zzB, zzE, zz16, Option.some.injEq, exists_eq_left', exists_eq_left, Option.map_some, eq_self, reduceCtorEq, zz21, gr_v, gr_ag, gr_agg, grL_cons, grL_nil, grD_cons, grD_nil, b_eqla, b_neqa, F_neq88, zz29, zz30, zz13, pickK_l, pickK_r, wideA, wideC, zz6, Nat.reduceEqDiff, ↓reduceIte]
  refine call_go F_go56 (fun hG => Of_ (IntKind.wrap .i64 (t % 18446744073709551616)) (wI0 _) (wI1 _)) (by simp [AV.ids, AV.idsL, wideA, wideC]) (by simp) ?_
  simp only [List.nil_append, List.cons_append, true_and, and_true, zz0, true_implies, Nat.reduceLT, Nat.reduceLeDiff, zzI, look_nil, Nat.reduceBEq, implies_true, Nat.reduceSub, S_getD, zz5, and_imp, imp_and, imp_self, and_self, evS_move, evS_call, evC_value, F_ok88, F_ag88, F_sz88, zz8, zz23, zzD, Nat.reduceAdd, Nat.zero_add, zzF, zzB, zzE, zz16, Option.some.injEq, exists_eq_left', exists_eq_left, Option.map_some, eq_self, reduceCtorEq, zz21, gr_v, gr_ag, gr_agg, grL_cons, grL_nil, grD_cons, grD_nil, b_eqla, b_neqa, F_neq88, zz29, zz30, zz13, pickK_l, pickK_r, wideA, wideC, zz6, Nat.reduceEqDiff, ↓reduceIte, atsL, oksG, freeN, AV.ren, AV.renL, addRows, ORow.row, Nat.reduceMul, Nat.reduceAdd, zz9, Option.bind_some, Option.map_some, forall_eq', D.sl.injEq, S_mem, Option.some.injEq, exists_eq_left', exists_eq_left, exists_eq', exists_eq, List.length_cons, zz2]
  refine call_go F_go38 (fun hG => rRight_ (IntKind.wrap .i64 (t % 18446744073709551616))) (by simp [AV.ids, AV.idsL, wideA, wideC]) (by simp) ?_
  simp only [List.nil_append, List.cons_append, true_and, and_true, zz0, true_implies, Nat.reduceLT, Nat.reduceLeDiff, zzI, look_nil, Nat.reduceBEq, implies_true, Nat.reduceSub, S_getD, zz5, and_imp, imp_and, imp_self, and_self, evS_move, evS_call, evC_value, F_ok88, F_ag88, F_sz88, zz8, zz23, zzD, Nat.reduceAdd, Nat.zero_add, zzF, zzB, zzE, zz16, Option.some.injEq, exists_eq_left', exists_eq_left, Option.map_some, eq_self, reduceCtorEq, zz21, gr_v, gr_ag, gr_agg, grL_cons, grL_nil, grD_cons, grD_nil, b_eqla, b_neqa, F_neq88, zz29, zz30, zz13, pickK_l, pickK_r, wideA, wideC, zz6, Nat.reduceEqDiff, ↓reduceIte, atsL, oksG, freeN, AV.ren, AV.renL, addRows, ORow.row, Nat.reduceMul, Nat.reduceAdd, zz9, Option.bind_some, Option.map_some, forall_eq', D.sl.injEq, S_mem, Option.some.injEq, exists_eq_left', exists_eq_left, exists_eq', exists_eq, List.length_cons, zz2]
  refine hK1 _ ?_; try clear hK1 K1
  refine awp_keepL [4, 16] ?_
  simp only [zz20, zzI, look_nil, Nat.reduceBEq]
  refine awp_condS _ (by decide) (by simp only [look_cons, Nat.reduceBEq, cond_true, cond_false]; rfl) ?_ ?_
  · intro hb
    rw [int_law] at hb
    simp only [Bool.not_eq_true'] at hb
    refine awp_seq fun K2 hK2 => ?_
    refine awp_plain F_mixed [some 2, some 3] rfl ?_
    simp only [List.nil_append, List.cons_append, true_and, and_true, zz0, true_implies, Nat.reduceLT, Nat.reduceLeDiff, zzI, look_nil, Nat.reduceBEq, implies_true, evS_assign, zz6, Nat.reduceEqDiff, ↓reduceIte]
    refine hK2 _ ?_; try clear hK2 K2
    refine awp_keepL [2, 3] ?_
    simp only [zz20, zzI, look_nil, Nat.reduceBEq]
    refine awp_ret ?_
    simp only [zz6, Nat.reduceEqDiff, ↓reduceIte]
    refine done0 (by simp only [resCs, resC]; trivial) ?_ (by simp [flatA, flatAs, flatD]) (by simp [AV.ids, AV.idsL])
    simp only [List.map_cons, List.map_nil, resA, S_getD, Nat.reduceLT, Nat.reduceLeDiff, look_cons, Nat.reduceBEq, cond_true, cond_false, resAll]
    simp only [hb, cond_false]
  · intro hb
    rw [int_law] at hb
    simp only [Bool.not_eq_false'] at hb
    refine awp_skip ?_
    simp only [zz6, Nat.reduceEqDiff, ↓reduceIte]
    refine hK0 _ ?_; try clear hK0 K0
    refine awp_keepL [4] ?_
    simp only [zz20, zzI, look_nil, Nat.reduceBEq]
    refine awp_seq fun K0 hK0 => ?_
    refine awp_plain F_mixed [some 17, some 2, some 3] rfl ?_
    simp only [List.nil_append, List.cons_append, true_and, and_true, zz0, true_implies, Nat.reduceLT, Nat.reduceLeDiff, zzI, look_nil, Nat.reduceBEq, implies_true, evS_move, evS_assign, zz6, Nat.reduceEqDiff, ↓reduceIte]
    refine hK0 _ ?_; try clear hK0 K0
    refine awp_keepL [2, 3] ?_
    simp only [zz20, zzI, look_nil, Nat.reduceBEq]
    refine awp_ret ?_
    simp only [zz6, Nat.reduceEqDiff, ↓reduceIte]
    refine done0 (by simp only [resCs, resC]; trivial) ?_ (by simp [flatA, flatAs, flatD]) (by simp [AV.ids, AV.idsL])
    simp only [List.map_cons, List.map_nil, resA, S_getD, Nat.reduceLT, Nat.reduceLeDiff, look_cons, Nat.reduceBEq, cond_true, cond_false, resAll]
    simp only [hb, cond_true, int_val hb]
theorem Add_ (l : List Int) (hl : l.length ≤ 1000000) (hall : ∀ x ∈ l, -9223372036854775808 ≤ x ∧ x < 9223372036854775808) : ACalls Try.prog 39 [ints l] [] (.tp [.d (iv (bif rightN l.sum then l.sum else 0)), bv (rightN l.sum)]) := by
  refine acalls_S (rs := [.tmp 2, .tmp 3]) Try.func39 rfl rfl 33 [(0, .d (ints l))] rfl (by simp) rfl ?_
  refine awp_seq fun K0 hK0 => ?_
  refine awp_plain F_mixed [some 2, some 3] rfl ?_
  simp only [List.nil_append, List.cons_append, true_and, and_true, zz0, true_implies, Nat.reduceLT, Nat.reduceLeDiff, zzI, look_nil, Nat.reduceBEq, implies_true, evS_assign, zz6, Nat.reduceEqDiff, ↓reduceIte]
  refine hK0 _ ?_; try clear hK0 K0
  refine awp_keepL [0] ?_
  simp only [zz20, zzI, look_nil, Nat.reduceBEq]
  refine awp_seq fun K0 hK0 => ?_
  refine awp_plain F_mixed [some 4] rfl ?_
  simp only [List.nil_append, List.cons_append, true_and, and_true, zz0, true_implies, Nat.reduceLT, Nat.reduceLeDiff, zzI, look_nil, Nat.reduceBEq, implies_true, evS_assign, zz6, Nat.reduceEqDiff, ↓reduceIte]
  refine hK0 _ ?_; try clear hK0 K0
  refine awp_keepL [0, 4] ?_
  simp only [zz20, zzI, look_nil, Nat.reduceBEq]
  refine awp_seq fun K0 hK0 => ?_
  refine awp_seq fun K1 hK1 => ?_
  refine awp_plain F_mixed [some 5] rfl ?_
  simp only [List.nil_append, List.cons_append, true_and, and_true, zz0, true_implies, Nat.reduceLT, Nat.reduceLeDiff, zzI, look_nil, Nat.reduceBEq, implies_true, evS_assign, zz6, Nat.reduceEqDiff, ↓reduceIte]
  refine hK1 _ ?_; try clear hK1 K1
  refine awp_keepL [0, 4, 5] ?_
  simp only [zz20, zzI, look_nil, Nat.reduceBEq]
  refine awp_block ?_
  refine awp_loop (fun m s => ∃ pre post : List Int, l = pre ++ post ∧ m = post.length ∧ s = S 33 [(0, .d (ints l)), (4, .ref 4 pre.length), (5, .d (iv pre.length))] [(4, grow 88 2 4 (pre.map wideC))]) l.length _ (le_SK id [4] rfl (l' := [(0, .d (ints l)), (4, .ref 4 ([] : List Int).length), (5, .d (iv ([] : List Int).length))]) (m' := [(4, grow 88 2 4 (([] : List Int).map wideC))]) ?_ ?_ ?_ ?_) ⟨[], l, rfl, rfl, rfl⟩ ?_
  · simp only [leV, look_cons, Nat.reduceBEq, cond_true, cond_false]; exact ⟨VLe.data_ _, VLe.nil_ (by decide), VLe.data_ _, trivial⟩
  · simp [leR, grow]
  · simp [wfV, AV.ids, lookR]
  · simp [wfR, grow]
  rintro m s ⟨pre, post, rfl, rfl, rfl⟩
  refine awp_seq fun K2 hK2 => ?_
  refine awp_seq fun K3 hK3 => ?_
  refine awp_plain F_mixed [some 8, some 9, some 10, some 11] rfl ?_
  simp only [List.nil_append, List.cons_append, true_and, and_true, zz0, true_implies, Nat.reduceLT, Nat.reduceLeDiff, zzI, look_nil, Nat.reduceBEq, implies_true, evS_move, evS_call, zz12, F_sl68, Option.isSome_some, zz21, gr_v, zz22, ints, len_map, zz6, Nat.reduceEqDiff, ↓reduceIte]
  refine hK3 _ ?_; try clear hK3 K3
  refine awp_keepL [0, 4, 5, 11] ?_
  simp only [zz20, zzI, look_nil, Nat.reduceBEq]
  refine awp_condS _ (by decide) (by simp only [look_cons, Nat.reduceBEq, cond_true, cond_false]; rfl) ?_ ?_
  · intro hb
    obtain ⟨x, post, rfl⟩ := more_of hb; clear hb
    have hx := hall x (by simp)
    refine awp_skip ?_
    simp only [zz6, Nat.reduceEqDiff, ↓reduceIte]
    refine hK2 _ ?_; try clear hK2 K2
    refine awp_keepL [0, 4, 5] ?_
    simp only [zz20, zzI, look_nil, Nat.reduceBEq]
    refine awp_seq fun K2 hK2 => ?_
    refine awp_block ?_
    refine awp_plain F_mixed [some 14, some 15, some 16, some 17, some 18, some 19, some 20, some 21, some 4] rfl ?_
    simp only [List.nil_append, List.cons_append, true_and, and_true, zz0, true_implies, Nat.reduceLT, Nat.reduceLeDiff, zzI, look_nil, Nat.reduceBEq, implies_true, evS_move, evS_indexAddr, zz23, zz24, F_sl68, F_sz3, Option.map_some, zz16, Option.some.injEq, exists_eq_left', exists_eq_left, eq_self, reduceCtorEq, and_self, F_ok3, F_ag3, zz8, zzD, Nat.reduceAdd, Nat.zero_add, zzF, zzB, zzE, evS_call, evC_value, F_sl85, F_zero88, F_sz88, zz3, newRow1, zz1, zzG, maxLen_le, Nat.reduceMul, F_by88, zz4, zz9, Option.bind_some, evS_assign, ints, grow, wideA, wideC, getD_mid, len_map, lt_mid, ge_mid, zz6, Nat.reduceEqDiff, ↓reduceIte]
    refine call_go F_go56 (fun hG => Of_ x hx.1 hx.2) (by simp [AV.ids, AV.idsL, wideA, wideC]) (by simp) ?_
    simp only [List.nil_append, List.cons_append, true_and, and_true, zz0, true_implies, Nat.reduceLT, Nat.reduceLeDiff, zzI, look_nil, Nat.reduceBEq, implies_true, evS_move, evS_indexAddr, zz23, zz24, F_sl68, F_sz3, Option.map_some, zz16, Option.some.injEq, exists_eq_left', exists_eq_left, eq_self, reduceCtorEq, and_self, F_ok3, F_ag3, zz8, zzD, Nat.reduceAdd, Nat.zero_add, zzF, zzB, zzE, evS_call, evC_value, F_sl85, F_zero88, F_sz88, zz3, newRow1, zz1, zzG, maxLen_le, Nat.reduceMul, F_by88, zz4, zz9, Option.bind_some, evS_assign, ints, grow, wideA, wideC, getD_mid, len_map, lt_mid, ge_mid, zz6, Nat.reduceEqDiff, ↓reduceIte, atsL, oksG, freeN, AV.ren, AV.renL, addRows, ORow.row, Nat.reduceMul, Nat.reduceAdd, unDs_cons, Option.bind_some, Option.map_some, forall_eq', D.sl.injEq, S_mem, Option.some.injEq, exists_eq_left', exists_eq_left, exists_eq', exists_eq, List.length_cons, zz2]
    have hm : pre.length + 1 ≤ 1000000 := by simp at hl; omega
    refine ⟨by rw [maxLen_le _ hm]; trivial, by omega, ?_⟩
    clear hm
    refine hK2 _ ?_; try clear hK2 K2
    refine awp_keepL [0, 4, 5] ?_
    simp only [zz20, zzI, look_nil, Nat.reduceBEq]
    refine awp_plain F_mixed [some 12, some 13, some 5] rfl ?_
    simp only [List.nil_append, List.cons_append, true_and, and_true, zz0, true_implies, Nat.reduceLT, Nat.reduceLeDiff, zzI, look_nil, Nat.reduceBEq, implies_true, evS_move, zz21, gr_v, zz26, evS_assign, zz6, Nat.reduceEqDiff, ↓reduceIte]
    refine ⟨post.length, _, by simp, le_SK (fun _ => 21) [] rfl (l' := [(0, .d (ints (pre ++ x :: post))), (4, .ref 4 (pre ++ [x]).length), (5, .d (iv (pre ++ [x]).length))]) (m' := [(4, grow 88 2 4 ((pre ++ [x]).map wideC))]) ?_ ?_ ?_ ?_, pre ++ [x], post, by simp, rfl, rfl⟩
    · simp only [leV, look_cons, Nat.reduceBEq, cond_true, cond_false, ints, wrap_len pre x (by simp at hl; omega)]
      refine ⟨VLe.data_ _, ?_, VLe.data_ _, trivial⟩
      rw [show pre.length + 1 = (pre ++ [x]).length from by simp]; exact VLe.ref_ (f := fun _ => 21) (r := 4) (by simp)
    · refine ⟨fun _ => ⟨_, rfl, RowLe.data_ (by simp [wideC])⟩, fun h => by simp at h, trivial⟩
    · simp [wfV, AV.ids, lookR, grow]
    · exact ⟨wf_data _ _, trivial⟩
  · intro hb
    obtain rfl := none_of hb; clear hb
    simp only [List.append_nil] at hl hall ⊢
    have hfit := fits_small hall hl
    refine awp_exit ?_
    simp only [zz6, Nat.reduceEqDiff, ↓reduceIte]
    refine hK0 _ ?_; try clear hK0 K0
    refine awp_keepL [4] ?_
    simp only [zz20, zzI, look_nil, Nat.reduceBEq]
    refine awp_seq fun K0 hK0 => ?_
    refine awp_plain F_mixed [some 23, some 24, some 22, some 25, some 26, some 6, none, some 7] rfl ?_
    simp only [List.nil_append, List.cons_append, true_and, and_true, zz0, true_implies, Nat.reduceLT, Nat.reduceLeDiff, zzI, look_nil, Nat.reduceBEq, implies_true, evS_move, evS_call, evC_value, zz14, zzD, Nat.reduceAdd, Nat.zero_add, zzF, zz32, newRow1, F_zero88, zz16, Option.some.injEq, exists_eq_left', exists_eq_left, Option.map_some, eq_self, reduceCtorEq, and_self, zzB, zzE, zz10, zz18, F_ok88, F_sz88, splice, List.append_nil, zz1, zzG, evS_assign, wides, wideA, len_map, grow, zz6, Nat.reduceEqDiff, ↓reduceIte]
    refine call_go F_go57 (fun hG => WSum_ pre hl (fun x hx => ⟨by have := (hall x hx).1; omega, by have := (hall x hx).2; omega⟩)) (by simp [AV.ids, AV.idsL, wideA]) (by simp) ?_
    simp only [List.nil_append, List.cons_append, true_and, and_true, zz0, true_implies, Nat.reduceLT, Nat.reduceLeDiff, zzI, look_nil, Nat.reduceBEq, implies_true, evS_move, evS_call, evC_value, zz14, zzD, Nat.reduceAdd, Nat.zero_add, zzF, zz32, newRow1, F_zero88, zz16, Option.some.injEq, exists_eq_left', exists_eq_left, Option.map_some, eq_self, reduceCtorEq, and_self, zzB, zzE, zz10, zz18, F_ok88, F_sz88, splice, List.append_nil, zz1, zzG, evS_assign, wides, wideA, len_map, grow, zz6, Nat.reduceEqDiff, ↓reduceIte, atsL, oksG, freeN, AV.ren, AV.renL, addRows, ORow.row, Nat.reduceMul, Nat.reduceAdd, zz9, Option.bind_some, Option.map_some, forall_eq', D.sl.injEq, S_mem, Option.some.injEq, exists_eq_left', exists_eq_left, exists_eq', exists_eq, List.length_cons, zz2]
    refine hK0 _ ?_; try clear hK0 K0
    refine awp_keepL [6, 7] ?_
    simp only [zz20, zzI, look_nil, Nat.reduceBEq]
    refine awp_seq fun K0 hK0 => ?_
    refine awp_seq fun K1 hK1 => ?_
    refine awp_plain F_mixed [some 27, some 28] rfl ?_
    simp only [List.nil_append, List.cons_append, true_and, and_true, zz0, true_implies, Nat.reduceLT, Nat.reduceLeDiff, zzI, look_nil, Nat.reduceBEq, implies_true, evS_move, zz29, gr_v, zz30, zz6, Nat.reduceEqDiff, ↓reduceIte]
    refine hK1 _ ?_; try clear hK1 K1
    refine awp_keepL [6, 28] ?_
    simp only [zz20, zzI, look_nil, Nat.reduceBEq]
    refine awp_condS _ (by decide) (by simp only [look_cons, Nat.reduceBEq, cond_true, cond_false]; rfl) ?_ ?_
    · intro hb
      simp [hfit] at hb
    · intro hb
      clear hb
      refine awp_skip ?_
      simp only [zz6, Nat.reduceEqDiff, ↓reduceIte]
      refine hK0 _ ?_; try clear hK0 K0
      refine awp_keepL [6] ?_
      simp only [zz20, zzI, look_nil, Nat.reduceBEq]
      refine awp_seq fun K0 hK0 => ?_
      refine awp_plain F_mixed [some 29, some 30, some 31, some 32, some 2, some 3] rfl ?_
      simp only [List.nil_append, List.cons_append, true_and, and_true, zz0, true_implies, Nat.reduceLT, Nat.reduceLeDiff, zzI, look_nil, Nat.reduceBEq, implies_true, F_ok88, F_ag88, F_sz88, zz8, zz23, zzD, Nat.reduceAdd, Nat.zero_add, zzF, zzB, zzE, zz16, Option.some.injEq, exists_eq_left', exists_eq_left, Option.map_some, eq_self, reduceCtorEq, and_self, evS_call, evC_value, zz14, evS_assign, hfit, wideC, wideA, D.agg.injEq, zz6, Nat.reduceEqDiff, ↓reduceIte]
      refine call_go F_go58 (fun hG => Int_ pre.sum) (by simp [AV.ids, AV.idsL, wideC, wideA]) (by simp) ?_
      simp only [List.nil_append, List.cons_append, true_and, and_true, zz0, true_implies, Nat.reduceLT, Nat.reduceLeDiff, zzI, look_nil, Nat.reduceBEq, implies_true, F_ok88, F_ag88, F_sz88, zz8, zz23, zzD, Nat.reduceAdd, Nat.zero_add, zzF, zzB, zzE, zz16, Option.some.injEq, exists_eq_left', exists_eq_left, Option.map_some, eq_self, reduceCtorEq, and_self, evS_call, evC_value, zz14, evS_assign, hfit, wideC, wideA, D.agg.injEq, zz6, Nat.reduceEqDiff, ↓reduceIte, atsL, oksG, freeN, AV.ren, AV.renL, addRows, ORow.row, Nat.reduceMul, Nat.reduceAdd, zz9, Option.bind_some, Option.map_some, forall_eq', D.sl.injEq, S_mem, Option.some.injEq, exists_eq_left', exists_eq_left, exists_eq', exists_eq, List.length_cons, zz2]
      refine hK0 _ ?_; try clear hK0 K0
      refine awp_keepL [2, 3] ?_
      simp only [zz20, zzI, look_nil, Nat.reduceBEq]
      refine awp_ret ?_
      simp only [zz6, Nat.reduceEqDiff, ↓reduceIte]
      refine done0 (by simp only [resCs, resC]; trivial) ?_ (by simp [flatA, flatAs, flatD]) (by simp [AV.ids, AV.idsL])
      simp only [List.map_cons, List.map_nil, resA, S_getD, Nat.reduceLT, Nat.reduceLeDiff, look_cons, Nat.reduceBEq, cond_true, cond_false, resAll]
      simp only [List.append_nil]
theorem rIn_ (n lo hi : Int) : ACalls Try.prog 44 [iv n, iv lo, iv hi] [] (bv (inR n lo hi)) := by
  refine acalls_S (rs := [.tmp 6]) Try.func44 rfl rfl 15 [(0, .d (iv n)), (1, .d (iv lo)), (2, .d (iv hi))] rfl (by simp) rfl ?_
  refine awp_seq fun K0 hK0 => ?_
  refine awp_plain F_mixed [some 6] rfl ?_
  simp only [List.nil_append, List.cons_append, true_and, and_true, zz0, true_implies, Nat.reduceLT, Nat.reduceLeDiff, zzI, look_nil, Nat.reduceBEq, implies_true, evS_assign, zz6, Nat.reduceEqDiff, ↓reduceIte]
  refine hK0 _ ?_; try clear hK0 K0
  refine awp_keepL [0, 1, 2] ?_
  simp only [zz20, zzI, look_nil, Nat.reduceBEq]
  refine awp_seq fun K0 hK0 => ?_
  refine awp_plain F_mixed [some 7, some 8, some 9, some 10, some 11, some 12, some 13, some 14, some 6] rfl ?_
  simp only [List.nil_append, List.cons_append, true_and, and_true, zz0, true_implies, Nat.reduceLT, Nat.reduceLeDiff, zzI, look_nil, Nat.reduceBEq, implies_true, Nat.reduceSub, S_getD, zz5, and_imp, imp_and, imp_self, and_self, evS_move, zz21, gr_v, zz31, b_leq, pure_leq, zz13, pickK_l, pickK_r, evS_assign, zz6, Nat.reduceEqDiff, ↓reduceIte]
  refine hK0 _ ?_; try clear hK0 K0
  refine awp_keepL [6] ?_
  simp only [zz20, zzI, look_nil, Nat.reduceBEq]
  refine awp_ret ?_
  simp only [zz6, Nat.reduceEqDiff, ↓reduceIte]
  refine done0 (by simp only [resCs, resC]; trivial) ?_ (by simp [flatA, flatAs, flatD]) (by simp [AV.ids, AV.idsL])
  simp only [List.map_cons, List.map_nil, resA, S_getD, Nat.reduceLT, Nat.reduceLeDiff, look_cons, Nat.reduceBEq, cond_true, cond_false, resAll]
  rfl
theorem rWho_ (n : Int) : ACalls Try.prog 59 [iv n] [] (bv (inR n 1 16)) := by
  refine acalls_S (rs := [.tmp 2]) Try.func59 rfl rfl 5 [(0, .d (iv n))] rfl (by simp) rfl ?_
  refine awp_seq fun K0 hK0 => ?_
  refine awp_plain F_mixed [some 2] rfl ?_
  simp only [List.nil_append, List.cons_append, true_and, and_true, zz0, true_implies, Nat.reduceLT, Nat.reduceLeDiff, zzI, look_nil, Nat.reduceBEq, implies_true, evS_assign, zz6, Nat.reduceEqDiff, ↓reduceIte]
  refine hK0 _ ?_; try clear hK0 K0
  refine awp_keepL [0] ?_
  simp only [zz20, zzI, look_nil, Nat.reduceBEq]
  refine awp_seq fun K0 hK0 => ?_
  refine awp_plain F_mixed [some 3, some 4, some 2] rfl ?_
  simp only [List.nil_append, List.cons_append, true_and, and_true, zz0, true_implies, Nat.reduceLT, Nat.reduceLeDiff, zzI, look_nil, Nat.reduceBEq, implies_true, evS_move, evS_call, evC_value, evS_assign, zz6, Nat.reduceEqDiff, ↓reduceIte]
  refine call_go F_go44 (fun hG => rIn_ n 1 16) (by simp [AV.ids, AV.idsL]) (by simp) ?_
  simp only [List.nil_append, List.cons_append, true_and, and_true, zz0, true_implies, Nat.reduceLT, Nat.reduceLeDiff, zzI, look_nil, Nat.reduceBEq, implies_true, evS_move, evS_call, evC_value, evS_assign, zz6, Nat.reduceEqDiff, ↓reduceIte, atsL, oksG, freeN, AV.ren, AV.renL, addRows, ORow.row, Nat.reduceMul, Nat.reduceAdd, zz9, Option.bind_some, Option.map_some, forall_eq', D.sl.injEq, zz16, Option.some.injEq, exists_eq_left', exists_eq_left, exists_eq', exists_eq, zzD, zz2]
  refine hK0 _ ?_; try clear hK0 K0
  refine awp_keepL [2] ?_
  simp only [zz20, zzI, look_nil, Nat.reduceBEq]
  refine awp_ret ?_
  simp only [zz6, Nat.reduceEqDiff, ↓reduceIte]
  refine done0 (by simp only [resCs, resC]; trivial) ?_ (by simp [flatA, flatAs, flatD]) (by simp [AV.ids, AV.idsL])
  simp only [List.map_cons, List.map_nil, resA, S_getD, Nat.reduceLT, Nat.reduceLeDiff, look_cons, Nat.reduceBEq, cond_true, cond_false, resAll]
  
theorem rSized_ (t : TradeV) : ACalls Try.prog 60 [.agg (tradeC t)] [] (bv (tradeOk t)) := by
  refine acalls_S (rs := [.tmp 2]) Try.func60 rfl rfl 11 [(0, .d (.agg (tradeC t)))] rfl (by simp) rfl ?_
  refine awp_seq fun K0 hK0 => ?_
  refine awp_plain F_mixed [some 1, some 2] rfl ?_
  simp only [List.nil_append, List.cons_append, true_and, and_true, zz0, true_implies, Nat.reduceLT, Nat.reduceLeDiff, zzI, look_nil, Nat.reduceBEq, implies_true, zz35, newRow1, zz1, zzG, zzD, zz16, Option.some.injEq, exists_eq_left', exists_eq_left, Option.map_some, eq_self, reduceCtorEq, and_self, Nat.reduceAdd, Nat.zero_add, zzF, zzB, zzE, evS_assign, tradeC, zz6, Nat.reduceEqDiff, ↓reduceIte]
  refine hK0 _ ?_; try clear hK0 K0
  refine awp_keepL [1] ?_
  simp only [zz20, zzI, look_nil, Nat.reduceBEq]
  refine awp_seq fun K0 hK0 => ?_
  refine awp_plain F_mixed [some 3, some 4, some 5, some 6, some 7, some 8, some 9, some 10, some 2] rfl ?_
  simp only [List.nil_append, List.cons_append, true_and, and_true, zz0, true_implies, Nat.reduceLT, Nat.reduceLeDiff, zzI, look_nil, Nat.reduceBEq, implies_true, Nat.reduceSub, S_getD, zz5, and_imp, imp_and, imp_self, and_self, zz19, zz23, F_off27_4, zzB, Nat.zero_add, Nat.reduceAdd, F_ok3, F_ag3, F_sz3, zz8, zzD, zzF, zzE, zz16, Option.some.injEq, exists_eq_left', exists_eq_left, Option.map_some, eq_self, reduceCtorEq, evS_call, evC_value, evS_move, F_off27_5, zz13, pickK_l, pickK_r, evS_assign, zz6, Nat.reduceEqDiff, ↓reduceIte]
  refine call_go F_go44 (fun hG => rIn_ t.qty 1 1048576) (by simp [AV.ids, AV.idsL]) (by simp) ?_
  simp only [List.nil_append, List.cons_append, true_and, and_true, zz0, true_implies, Nat.reduceLT, Nat.reduceLeDiff, zzI, look_nil, Nat.reduceBEq, implies_true, Nat.reduceSub, S_getD, zz5, and_imp, imp_and, imp_self, and_self, zz19, zz23, F_off27_4, zzB, Nat.zero_add, Nat.reduceAdd, F_ok3, F_ag3, F_sz3, zz8, zzD, zzF, zzE, zz16, Option.some.injEq, exists_eq_left', exists_eq_left, Option.map_some, eq_self, reduceCtorEq, evS_call, evC_value, evS_move, F_off27_5, zz13, pickK_l, pickK_r, evS_assign, zz6, Nat.reduceEqDiff, ↓reduceIte, atsL, oksG, freeN, AV.ren, AV.renL, addRows, ORow.row, Nat.reduceMul, Nat.reduceAdd, zz9, Option.bind_some, Option.map_some, forall_eq', D.sl.injEq, S_mem, Option.some.injEq, exists_eq_left', exists_eq_left, exists_eq', exists_eq, List.length_cons, zz2]
  refine call_go F_go44 (fun hG => rIn_ t.price 1 1073741824) (by simp [AV.ids, AV.idsL]) (by simp) ?_
  simp only [List.nil_append, List.cons_append, true_and, and_true, zz0, true_implies, Nat.reduceLT, Nat.reduceLeDiff, zzI, look_nil, Nat.reduceBEq, implies_true, Nat.reduceSub, S_getD, zz5, and_imp, imp_and, imp_self, and_self, zz19, zz23, F_off27_4, zzB, Nat.zero_add, Nat.reduceAdd, F_ok3, F_ag3, F_sz3, zz8, zzD, zzF, zzE, zz16, Option.some.injEq, exists_eq_left', exists_eq_left, Option.map_some, eq_self, reduceCtorEq, evS_call, evC_value, evS_move, F_off27_5, zz13, pickK_l, pickK_r, evS_assign, zz6, Nat.reduceEqDiff, ↓reduceIte, atsL, oksG, freeN, AV.ren, AV.renL, addRows, ORow.row, Nat.reduceMul, Nat.reduceAdd, zz9, Option.bind_some, Option.map_some, forall_eq', D.sl.injEq, S_mem, Option.some.injEq, exists_eq_left', exists_eq_left, exists_eq', exists_eq, List.length_cons, zz2]
  refine hK0 _ ?_; try clear hK0 K0
  refine awp_keepL [2] ?_
  simp only [zz20, zzI, look_nil, Nat.reduceBEq]
  refine awp_ret ?_
  simp only [zz6, Nat.reduceEqDiff, ↓reduceIte]
  refine done0 (by simp only [resCs, resC]; trivial) ?_ (by simp [flatA, flatAs, flatD]) (by simp [AV.ids, AV.idsL])
  simp only [List.map_cons, List.map_nil, resA, S_getD, Nat.reduceLT, Nat.reduceLeDiff, look_cons, Nat.reduceBEq, cond_true, cond_false, resAll]
  simp only [inR, tradeOk, Bool.and_assoc]
theorem rKey_ (w n : Int) : ACalls Try.prog 45 [.agg [iv w, iv n]] [] (bv (keyOk w n)) := by
  refine acalls_S (rs := [.tmp 2]) Try.func45 rfl rfl 11 [(0, .d (.agg [iv w, iv n]))] rfl (by simp) rfl ?_
  refine awp_seq fun K0 hK0 => ?_
  refine awp_plain F_mixed [some 1, some 2] rfl ?_
  simp only [List.nil_append, List.cons_append, true_and, and_true, zz0, true_implies, Nat.reduceLT, Nat.reduceLeDiff, zzI, look_nil, Nat.reduceBEq, implies_true, zz35, newRow1, zz1, zzG, zzD, zz16, Option.some.injEq, exists_eq_left', exists_eq_left, Option.map_some, eq_self, reduceCtorEq, and_self, Nat.reduceAdd, Nat.zero_add, zzF, zzB, zzE, evS_assign, zz6, Nat.reduceEqDiff, ↓reduceIte]
  refine hK0 _ ?_; try clear hK0 K0
  refine awp_keepL [1] ?_
  simp only [zz20, zzI, look_nil, Nat.reduceBEq]
  refine awp_seq fun K0 hK0 => ?_
  refine awp_plain F_mixed [some 3, some 4, some 5, some 6, some 7, some 8, some 9, some 10, some 2] rfl ?_
  simp only [List.nil_append, List.cons_append, true_and, and_true, zz0, true_implies, Nat.reduceLT, Nat.reduceLeDiff, zzI, look_nil, Nat.reduceBEq, implies_true, Nat.reduceSub, S_getD, zz5, and_imp, imp_and, imp_self, and_self, zz19, zz23, F_off44_0, zzB, Nat.zero_add, Nat.reduceAdd, F_ok3, F_ag3, F_sz3, zz8, zzD, zzF, zzE, zz16, Option.some.injEq, exists_eq_left', exists_eq_left, Option.map_some, eq_self, reduceCtorEq, evS_call, evC_value, evS_move, F_off44_1, zz13, pickK_l, pickK_r, evS_assign, zz6, Nat.reduceEqDiff, ↓reduceIte]
  refine call_go F_go59 (fun hG => rWho_ w) (by simp [AV.ids, AV.idsL]) (by simp) ?_
  simp only [List.nil_append, List.cons_append, true_and, and_true, zz0, true_implies, Nat.reduceLT, Nat.reduceLeDiff, zzI, look_nil, Nat.reduceBEq, implies_true, Nat.reduceSub, S_getD, zz5, and_imp, imp_and, imp_self, and_self, zz19, zz23, F_off44_0, zzB, Nat.zero_add, Nat.reduceAdd, F_ok3, F_ag3, F_sz3, zz8, zzD, zzF, zzE, zz16, Option.some.injEq, exists_eq_left', exists_eq_left, Option.map_some, eq_self, reduceCtorEq, evS_call, evC_value, evS_move, F_off44_1, zz13, pickK_l, pickK_r, evS_assign, zz6, Nat.reduceEqDiff, ↓reduceIte, atsL, oksG, freeN, AV.ren, AV.renL, addRows, ORow.row, Nat.reduceMul, Nat.reduceAdd, zz9, Option.bind_some, Option.map_some, forall_eq', D.sl.injEq, S_mem, Option.some.injEq, exists_eq_left', exists_eq_left, exists_eq', exists_eq, List.length_cons, zz2]
  refine call_go F_go44 (fun hG => rIn_ n 1 8) (by simp [AV.ids, AV.idsL]) (by simp) ?_
  simp only [List.nil_append, List.cons_append, true_and, and_true, zz0, true_implies, Nat.reduceLT, Nat.reduceLeDiff, zzI, look_nil, Nat.reduceBEq, implies_true, Nat.reduceSub, S_getD, zz5, and_imp, imp_and, imp_self, and_self, zz19, zz23, F_off44_0, zzB, Nat.zero_add, Nat.reduceAdd, F_ok3, F_ag3, F_sz3, zz8, zzD, zzF, zzE, zz16, Option.some.injEq, exists_eq_left', exists_eq_left, Option.map_some, eq_self, reduceCtorEq, evS_call, evC_value, evS_move, F_off44_1, zz13, pickK_l, pickK_r, evS_assign, zz6, Nat.reduceEqDiff, ↓reduceIte, atsL, oksG, freeN, AV.ren, AV.renL, addRows, ORow.row, Nat.reduceMul, Nat.reduceAdd, zz9, Option.bind_some, Option.map_some, forall_eq', D.sl.injEq, S_mem, Option.some.injEq, exists_eq_left', exists_eq_left, exists_eq', exists_eq, List.length_cons, zz2]
  refine hK0 _ ?_; try clear hK0 K0
  refine awp_keepL [2] ?_
  simp only [zz20, zzI, look_nil, Nat.reduceBEq]
  refine awp_ret ?_
  simp only [zz6, Nat.reduceEqDiff, ↓reduceIte]
  refine done0 (by simp only [resCs, resC]; trivial) ?_ (by simp [flatA, flatAs, flatD]) (by simp [AV.ids, AV.idsL])
  simp only [List.map_cons, List.map_nil, resA, S_getD, Nat.reduceLT, Nat.reduceLeDiff, look_cons, Nat.reduceBEq, cond_true, cond_false, resAll]
  simp only [keyOk, inR, Bool.and_assoc]
theorem rKeyLess_ (a b c d : Int) : ACalls Try.prog 46 [.agg [iv a, iv b], .agg [iv c, iv d]] [] (bv (keyLt a b c d)) := by
  refine acalls_S (rs := [.tmp 4]) Try.func46 rfl rfl 24 [(0, .d (.agg [iv a, iv b])), (1, .d (.agg [iv c, iv d]))] rfl (by simp) rfl ?_
  refine awp_seq fun K0 hK0 => ?_
  refine awp_plain F_mixed [some 2, some 3, some 4] rfl ?_
  simp only [List.nil_append, List.cons_append, true_and, and_true, zz0, true_implies, Nat.reduceLT, Nat.reduceLeDiff, zzI, look_nil, Nat.reduceBEq, implies_true, zz35, newRow1, zz1, zzG, zzD, zz16, Option.some.injEq, exists_eq_left', exists_eq_left, Option.map_some, eq_self, reduceCtorEq, and_self, Nat.reduceAdd, Nat.zero_add, zzF, zzB, zzE, evS_assign, zz6, Nat.reduceEqDiff, ↓reduceIte]
  refine hK0 _ ?_; try clear hK0 K0
  refine awp_keepL [2, 3] ?_
  simp only [zz20, zzI, look_nil, Nat.reduceBEq]
  refine awp_seq fun K0 hK0 => ?_
  refine awp_plain F_mixed [some 5, some 6, some 7, some 8, some 9, some 10, some 11, some 12, some 13, some 14, some 15, some 16, some 17, some 18, some 19, some 20, some 21, some 22, some 23, some 4] rfl ?_
  simp only [List.nil_append, List.cons_append, true_and, and_true, zz0, true_implies, Nat.reduceLT, Nat.reduceLeDiff, zzI, look_nil, Nat.reduceBEq, implies_true, Nat.reduceSub, S_getD, zz5, and_imp, imp_and, imp_self, and_self, zz19, zz23, F_off44_0, zzB, Nat.zero_add, Nat.reduceAdd, F_ok3, F_ag3, F_sz3, zz8, zzD, zzF, zzE, zz16, Option.some.injEq, exists_eq_left', exists_eq_left, Option.map_some, eq_self, reduceCtorEq, zz21, gr_v, zz22, evS_move, zz34, F_off44_1, zz13, pickK_l, pickK_r, evS_assign, zz6, Nat.reduceEqDiff, ↓reduceIte]
  refine hK0 _ ?_; try clear hK0 K0
  refine awp_keepL [4] ?_
  simp only [zz20, zzI, look_nil, Nat.reduceBEq]
  refine awp_ret ?_
  simp only [zz6, Nat.reduceEqDiff, ↓reduceIte]
  refine done0 (by simp only [resCs, resC]; trivial) ?_ (by simp [flatA, flatAs, flatD]) (by simp [AV.ids, AV.idsL])
  simp only [List.map_cons, List.map_nil, resA, S_getD, Nat.reduceLT, Nat.reduceLeDiff, look_cons, Nat.reduceBEq, cond_true, cond_false, resAll]
  try rfl
theorem rNum_ (t : TradeV) : ACalls Try.prog 47 [.agg (tradeC t)] [] (bv (rtOk t)) := by
  refine acalls_S (rs := [.tmp 2]) Try.func47 rfl rfl 27 [(0, .d (.agg (tradeC t)))] rfl (by simp) rfl ?_
  refine awp_seq fun K0 hK0 => ?_
  refine awp_plain F_mixed [some 1, some 2] rfl ?_
  simp only [List.nil_append, List.cons_append, true_and, and_true, zz0, true_implies, Nat.reduceLT, Nat.reduceLeDiff, zzI, look_nil, Nat.reduceBEq, implies_true, zz35, newRow1, zz1, zzG, zzD, zz16, Option.some.injEq, exists_eq_left', exists_eq_left, Option.map_some, eq_self, reduceCtorEq, and_self, Nat.reduceAdd, Nat.zero_add, zzF, zzB, zzE, evS_assign, tradeC, zz6, Nat.reduceEqDiff, ↓reduceIte]
  refine hK0 _ ?_; try clear hK0 K0
  refine awp_keepL [1] ?_
  simp only [zz20, zzI, look_nil, Nat.reduceBEq]
  refine awp_seq fun K0 hK0 => ?_
  refine awp_plain F_mixed [some 3, some 4, some 5, some 6, some 7, some 8, some 9, some 10, some 11, some 12, some 13, some 14, some 15, some 16, some 17, some 18, some 19, some 20, some 21, some 22, some 23, some 24, some 25, some 26, some 2] rfl ?_
  simp only [List.nil_append, List.cons_append, true_and, and_true, zz0, true_implies, Nat.reduceLT, Nat.reduceLeDiff, zzI, look_nil, Nat.reduceBEq, implies_true, Nat.reduceSub, S_getD, zz5, and_imp, imp_and, imp_self, and_self, F_ok27, F_ag27, F_sz27, zz8, zz23, zzD, Nat.reduceAdd, Nat.zero_add, zzF, zzB, zzE, zz16, Option.some.injEq, exists_eq_left', exists_eq_left, Option.map_some, eq_self, reduceCtorEq, evS_call, evC_value, evS_move, zz19, F_off27_1, F_ok3, F_ag3, F_sz3, zz13, pickK_l, pickK_r, F_off27_2, zz21, gr_v, zz28, F_off27_3, evS_assign, tradeC, D.agg.injEq, zz6, Nat.reduceEqDiff, ↓reduceIte]
  refine call_go F_go60 (fun hG => rSized_ t) (by simp [AV.ids, AV.idsL]) (by simp) ?_
  simp only [List.nil_append, List.cons_append, true_and, and_true, zz0, true_implies, Nat.reduceLT, Nat.reduceLeDiff, zzI, look_nil, Nat.reduceBEq, implies_true, Nat.reduceSub, S_getD, zz5, and_imp, imp_and, imp_self, and_self, F_ok27, F_ag27, F_sz27, zz8, zz23, zzD, Nat.reduceAdd, Nat.zero_add, zzF, zzB, zzE, zz16, Option.some.injEq, exists_eq_left', exists_eq_left, Option.map_some, eq_self, reduceCtorEq, evS_call, evC_value, evS_move, zz19, F_off27_1, F_ok3, F_ag3, F_sz3, zz13, pickK_l, pickK_r, F_off27_2, zz21, gr_v, zz28, F_off27_3, evS_assign, tradeC, D.agg.injEq, zz6, Nat.reduceEqDiff, ↓reduceIte, atsL, oksG, freeN, AV.ren, AV.renL, addRows, ORow.row, Nat.reduceMul, Nat.reduceAdd, zz9, Option.bind_some, Option.map_some, forall_eq', D.sl.injEq, S_mem, Option.some.injEq, exists_eq_left', exists_eq_left, exists_eq', exists_eq, List.length_cons, zz2]
  refine call_go F_go59 (fun hG => rWho_ t.buyer) (by simp [AV.ids, AV.idsL]) (by simp) ?_
  simp only [List.nil_append, List.cons_append, true_and, and_true, zz0, true_implies, Nat.reduceLT, Nat.reduceLeDiff, zzI, look_nil, Nat.reduceBEq, implies_true, Nat.reduceSub, S_getD, zz5, and_imp, imp_and, imp_self, and_self, F_ok27, F_ag27, F_sz27, zz8, zz23, zzD, Nat.reduceAdd, Nat.zero_add, zzF, zzB, zzE, zz16, Option.some.injEq, exists_eq_left', exists_eq_left, Option.map_some, eq_self, reduceCtorEq, evS_call, evC_value, evS_move, zz19, F_off27_1, F_ok3, F_ag3, F_sz3, zz13, pickK_l, pickK_r, F_off27_2, zz21, gr_v, zz28, F_off27_3, evS_assign, tradeC, D.agg.injEq, zz6, Nat.reduceEqDiff, ↓reduceIte, atsL, oksG, freeN, AV.ren, AV.renL, addRows, ORow.row, Nat.reduceMul, Nat.reduceAdd, zz9, Option.bind_some, Option.map_some, forall_eq', D.sl.injEq, S_mem, Option.some.injEq, exists_eq_left', exists_eq_left, exists_eq', exists_eq, List.length_cons, zz2]
  refine call_go F_go59 (fun hG => rWho_ t.seller) (by simp [AV.ids, AV.idsL]) (by simp) ?_
  simp only [List.nil_append, List.cons_append, true_and, and_true, zz0, true_implies, Nat.reduceLT, Nat.reduceLeDiff, zzI, look_nil, Nat.reduceBEq, implies_true, Nat.reduceSub, S_getD, zz5, and_imp, imp_and, imp_self, and_self, F_ok27, F_ag27, F_sz27, zz8, zz23, zzD, Nat.reduceAdd, Nat.zero_add, zzF, zzB, zzE, zz16, Option.some.injEq, exists_eq_left', exists_eq_left, Option.map_some, eq_self, reduceCtorEq, evS_call, evC_value, evS_move, zz19, F_off27_1, F_ok3, F_ag3, F_sz3, zz13, pickK_l, pickK_r, F_off27_2, zz21, gr_v, zz28, F_off27_3, evS_assign, tradeC, D.agg.injEq, zz6, Nat.reduceEqDiff, ↓reduceIte, atsL, oksG, freeN, AV.ren, AV.renL, addRows, ORow.row, Nat.reduceMul, Nat.reduceAdd, zz9, Option.bind_some, Option.map_some, forall_eq', D.sl.injEq, S_mem, Option.some.injEq, exists_eq_left', exists_eq_left, exists_eq', exists_eq, List.length_cons, zz2]
  refine call_go F_go44 (fun hG => rIn_ t.inst 1 8) (by simp [AV.ids, AV.idsL]) (by simp) ?_
  simp only [List.nil_append, List.cons_append, true_and, and_true, zz0, true_implies, Nat.reduceLT, Nat.reduceLeDiff, zzI, look_nil, Nat.reduceBEq, implies_true, Nat.reduceSub, S_getD, zz5, and_imp, imp_and, imp_self, and_self, F_ok27, F_ag27, F_sz27, zz8, zz23, zzD, Nat.reduceAdd, Nat.zero_add, zzF, zzB, zzE, zz16, Option.some.injEq, exists_eq_left', exists_eq_left, Option.map_some, eq_self, reduceCtorEq, evS_call, evC_value, evS_move, zz19, F_off27_1, F_ok3, F_ag3, F_sz3, zz13, pickK_l, pickK_r, F_off27_2, zz21, gr_v, zz28, F_off27_3, evS_assign, tradeC, D.agg.injEq, zz6, Nat.reduceEqDiff, ↓reduceIte, atsL, oksG, freeN, AV.ren, AV.renL, addRows, ORow.row, Nat.reduceMul, Nat.reduceAdd, zz9, Option.bind_some, Option.map_some, forall_eq', D.sl.injEq, S_mem, Option.some.injEq, exists_eq_left', exists_eq_left, exists_eq', exists_eq, List.length_cons, zz2]
  refine hK0 _ ?_; try clear hK0 K0
  refine awp_keepL [2] ?_
  simp only [zz20, zzI, look_nil, Nat.reduceBEq]
  refine awp_ret ?_
  simp only [zz6, Nat.reduceEqDiff, ↓reduceIte]
  refine done0 (by simp only [resCs, resC]; trivial) ?_ (by simp [flatA, flatAs, flatD]) (by simp [AV.ids, AV.idsL])
  simp only [List.map_cons, List.map_nil, resA, S_getD, Nat.reduceLT, Nat.reduceLeDiff, look_cons, Nat.reduceBEq, cond_true, cond_false, resAll]
  rw [rtOk_ref]
set_option maxRecDepth 100000 in
set_option maxHeartbeats 4000000 in
theorem rBook_ (nx : Int) (ts : List TradeV) (ps : List PosV) (ht : ts.length ≤ 500000) (hp : ps.length ≤ 500000) : ACalls Try.prog 21 [.agg (bookC ⟨nx, ts, ps⟩)] [] (bv (bookOk ⟨nx, ts, ps⟩)) := by
  refine acalls_S (rs := [.tmp 2]) Try.func21 rfl rfl 156 [(0, .d (.agg (bookC ⟨nx, ts, ps⟩)))] rfl (by simp) rfl ?_
  refine awp_seq fun K0 hK0 => ?_
  refine awp_plain F_mixed [some 1, some 2] rfl ?_
  simp only [List.nil_append, List.cons_append, true_and, and_true, zz0, true_implies, Nat.reduceLT, Nat.reduceLeDiff, zzI, look_nil, Nat.reduceBEq, implies_true, zz35, newRow1, zz1, zzG, zzD, zz16, Option.some.injEq, exists_eq_left', exists_eq_left, Option.map_some, eq_self, reduceCtorEq, and_self, Nat.reduceAdd, Nat.zero_add, zzF, zzB, zzE, evS_assign, bookC, tradesB, poss, zz6, Nat.reduceEqDiff, ↓reduceIte]
  refine hK0 _ ?_; try clear hK0 K0
  refine awp_keepL [1] ?_
  simp only [zz20, zzI, look_nil, Nat.reduceBEq]
  refine awp_seq fun K0 hK0 => ?_
  refine awp_seq fun K1 hK1 => ?_
  refine awp_plain F_mixed [some 12, some 13, some 14, some 15, some 16, some 17, some 18, some 19, some 20, some 21] rfl ?_
  simp only [List.nil_append, List.cons_append, true_and, and_true, zz0, true_implies, Nat.reduceLT, Nat.reduceLeDiff, zzI, look_nil, Nat.reduceBEq, implies_true, Nat.reduceSub, S_getD, zz5, and_imp, imp_and, imp_self, and_self, zz19, zz23, F_off25_0, zzB, Nat.zero_add, Nat.reduceAdd, F_ok3, F_ag3, F_sz3, zz8, zzD, zzF, zzE, zz16, Option.some.injEq, exists_eq_left', exists_eq_left, Option.map_some, eq_self, reduceCtorEq, evS_call, evC_value, zz29, gr_v, zz30, evS_move, F_off25_1, F_ok22, F_ag22, F_sz22, zz12, F_sl22, Option.isSome_some, zz21, zz25, zz13, pickK_l, pickK_r, len_map, zz6, Nat.reduceEqDiff, ↓reduceIte]
  refine call_go F_go44 (fun hG => rIn_ nx 0 1099511627776) (by simp [AV.ids, AV.idsL]) (by simp) ?_
  simp only [List.nil_append, List.cons_append, true_and, and_true, zz0, true_implies, Nat.reduceLT, Nat.reduceLeDiff, zzI, look_nil, Nat.reduceBEq, implies_true, Nat.reduceSub, S_getD, zz5, and_imp, imp_and, imp_self, and_self, zz19, zz23, F_off25_0, zzB, Nat.zero_add, Nat.reduceAdd, F_ok3, F_ag3, F_sz3, zz8, zzD, zzF, zzE, zz16, Option.some.injEq, exists_eq_left', exists_eq_left, Option.map_some, eq_self, reduceCtorEq, evS_call, evC_value, zz29, gr_v, zz30, evS_move, F_off25_1, F_ok22, F_ag22, F_sz22, zz12, F_sl22, Option.isSome_some, zz21, zz25, zz13, pickK_l, pickK_r, len_map, zz6, Nat.reduceEqDiff, ↓reduceIte, atsL, oksG, freeN, AV.ren, AV.renL, addRows, ORow.row, Nat.reduceMul, Nat.reduceAdd, zz9, Option.bind_some, Option.map_some, forall_eq', D.sl.injEq, S_mem, Option.some.injEq, exists_eq_left', exists_eq_left, exists_eq', exists_eq, List.length_cons, zz2]
  refine hK1 _ ?_; try clear hK1 K1
  refine awp_keepL [1, 21] ?_
  simp only [zz20, zzI, look_nil, Nat.reduceBEq]
  refine awp_condS _ (by decide) (by simp only [look_cons, Nat.reduceBEq, cond_true, cond_false]; rfl) ?_ ?_
  · intro hb
    have hd : _ = true := hb
    clear hb
    refine awp_seq fun K2 hK2 => ?_
    refine awp_plain F_mixed [some 2] rfl ?_
    simp only [List.nil_append, List.cons_append, true_and, and_true, zz0, true_implies, Nat.reduceLT, Nat.reduceLeDiff, zzI, look_nil, Nat.reduceBEq, implies_true, evS_assign, zz6, Nat.reduceEqDiff, ↓reduceIte]
    refine hK2 _ ?_; try clear hK2 K2
    refine awp_keepL [2] ?_
    simp only [zz20, zzI, look_nil, Nat.reduceBEq]
    refine awp_ret ?_
    simp only [zz6, Nat.reduceEqDiff, ↓reduceIte]
    refine done0 (by simp only [resCs, resC]; trivial) ?_ (by simp [flatA, flatAs, flatD]) (by simp [AV.ids, AV.idsL])
    simp only [List.map_cons, List.map_nil, resA, S_getD, Nat.reduceLT, Nat.reduceLeDiff, look_cons, Nat.reduceBEq, cond_true, cond_false, resAll]
    rw [rb_head hd]
  · intro hb
    have hd : (!inR nx 0 1099511627776 || decide ((ts.length : Int) > 128)) = false := hb
    clear hb
    refine awp_skip ?_
    simp only [zz6, Nat.reduceEqDiff, ↓reduceIte]
    refine hK0 _ ?_; try clear hK0 K0
    refine awp_keepL [1] ?_
    simp only [zz20, zzI, look_nil, Nat.reduceBEq]
    refine awp_seq fun K0 hK0 => ?_
    refine awp_seq fun K1 hK1 => ?_
    refine awp_plain F_mixed [some 3] rfl ?_
    simp only [List.nil_append, List.cons_append, true_and, and_true, zz0, true_implies, Nat.reduceLT, Nat.reduceLeDiff, zzI, look_nil, Nat.reduceBEq, implies_true, evS_assign, zz6, Nat.reduceEqDiff, ↓reduceIte]
    refine hK1 _ ?_; try clear hK1 K1
    refine awp_keepL [1, 3] ?_
    simp only [zz20, zzI, look_nil, Nat.reduceBEq]
    refine awp_block ?_
    refine awp_loop (fun m s => ∃ pre post : List PosV, ps = pre ++ post ∧ chkR posOk pLt none ps = chkR posOk pLt pre.getLast? post ∧ m = post.length ∧ s = S 156 [(1, .ptr 1 0 0), (3, .d (iv pre.length))] [(1, (⟨True, 25, 3, true, false, 1, [[.d (iv nx), .d (.sl 7 (ts.map tradeC)), .d (.sl 4 (ps.map posC))]]⟩ : ARow))]) ps.length _ (le_SK id [] rfl (l' := [(1, .ptr 1 0 0), (3, .d (iv ([] : List PosV).length))]) (m' := [(1, (⟨True, 25, 3, true, false, 1, [[.d (iv nx), .d (.sl 7 (ts.map tradeC)), .d (.sl 4 (ps.map posC))]]⟩ : ARow))]) ?_ ?_ ?_ ?_) ⟨[], ps, rfl, rfl, rfl, rfl⟩ ?_
    · simp only [leV, look_cons, Nat.reduceBEq, cond_true, cond_false, len_map]; exact ⟨VLe.refl _, VLe.refl _, trivial⟩
    · exact ⟨fun _ => ⟨_, rfl, ⟨id, rfl, rfl, fun _ => rfl, id, .inl, VLess.refl _⟩⟩, fun h => by simp at h, trivial⟩
    · simp [wfV, AV.ids, AV.idsL, lookR]
    · simp [wfR, AV.idsL, AV.ids]
    rintro m s ⟨pre, post, rfl, hck, rfl, rfl⟩
    refine awp_seq fun K2 hK2 => ?_
    refine awp_seq fun K3 hK3 => ?_
    refine awp_plain F_mixed [some 22, some 23, some 24, some 25, some 26] rfl ?_
    simp only [List.nil_append, List.cons_append, true_and, and_true, zz0, true_implies, Nat.reduceLT, Nat.reduceLeDiff, zzI, look_nil, Nat.reduceBEq, implies_true, evS_move, zz19, zz23, F_off25_2, zzB, Nat.zero_add, Nat.reduceAdd, F_ok23, F_ag23, F_sz23, zz8, zzD, zzF, zzE, zz16, Option.some.injEq, exists_eq_left', exists_eq_left, Option.map_some, eq_self, reduceCtorEq, and_self, evS_call, zz12, F_sl23, Option.isSome_some, zz21, gr_v, zz22, len_map, zz6, Nat.reduceEqDiff, ↓reduceIte]
    refine hK3 _ ?_; try clear hK3 K3
    refine awp_keepL [1, 3, 26] ?_
    simp only [zz20, zzI, look_nil, Nat.reduceBEq]
    refine awp_condS _ (by decide) (by simp only [look_cons, Nat.reduceBEq, cond_true, cond_false]; rfl) ?_ ?_
    · intro hb
      obtain ⟨x, post, rfl⟩ := more_of hb; clear hb
      have hpp : pre.length < 4611686018427387904 := by simp at hp; omega
      have hpg := prev_get posC pre post x [] hpp
      refine awp_skip ?_
      simp only [zz6, Nat.reduceEqDiff, ↓reduceIte]
      refine hK2 _ ?_; try clear hK2 K2
      refine awp_keepL [1, 3] ?_
      simp only [zz20, zzI, look_nil, Nat.reduceBEq]
      refine awp_seq fun K2 hK2 => ?_
      refine awp_block ?_
      refine awp_seq fun K3 hK3 => ?_
      refine awp_plain F_mixed [some 29, some 30, some 31, some 32, some 33, some 4, none] rfl ?_
      simp only [List.nil_append, List.cons_append, true_and, and_true, zz0, true_implies, Nat.reduceLT, Nat.reduceLeDiff, zzI, look_nil, Nat.reduceBEq, implies_true, zz19, zz23, F_off25_2, zzB, Nat.zero_add, Nat.reduceAdd, F_ok23, F_ag23, F_sz23, zz8, zzD, zzF, zzE, zz16, Option.some.injEq, exists_eq_left', exists_eq_left, Option.map_some, eq_self, reduceCtorEq, and_self, evS_move, evS_indexAddr, zz24, F_sl23, F_sz51, F_ok51, F_ag51, zz32, newRow1, F_zero51, zz10, zz18, splice, List.append_nil, zz1, zzG, posC, getD_mid, len_map, lt_mid, ge_mid, zz6, Nat.reduceEqDiff, ↓reduceIte]
      refine hK3 _ ?_; try clear hK3 K3
      refine awp_keepL [1, 3, 4] ?_
      simp only [zz20, zzI, look_nil, Nat.reduceBEq]
      refine awp_seq fun K3 hK3 => ?_
      refine awp_draw F_mixed [some 34, some 35, some 36, some 37, some 38, some 39, some 40, some 41, some 42, some 43, some 44, some 45, some 46, some 47, some 48, some 49, some 50, some 51, some 52, some 53, some 54, some 55, some 56, some 57, some 58, some 59, some 60, some 61, some 62, some 63, some 64, some 65, some 66, some 67, some 68, some 69, some 70, some 71, some 72, some 73, some 74, some 75, some 76] rfl (by kernel_rfl) ?_
      simp only [List.nil_append, List.cons_append, true_and, and_true, zz0, true_implies, Nat.reduceLT, Nat.reduceLeDiff, zzI, look_nil, Nat.reduceBEq, implies_true, Nat.reduceSub, S_getD, zz5, and_imp, imp_and, imp_self, and_self, zz19, zz23, F_off51_0, zzB, Nat.zero_add, Nat.reduceAdd, F_ok44, F_ag44, F_sz44, zz8, zzD, zzF, zzE, zz16, Option.some.injEq, exists_eq_left', exists_eq_left, Option.map_some, eq_self, reduceCtorEq, evS_call, evC_value, zz29, gr_v, zz30, evS_move, F_off51_1, F_ok3, F_ag3, F_sz3, zz13, pickK_l, pickK_r, F_off51_2, zz21, zz34, zz25, F_off25_2, F_ok23, F_ag23, F_sz23, zz33, evS_indexAddr, zz24, F_sl23, F_sz51, D.agg.injEq, posC, hpg, getD_mid, len_map, lt_mid, ge_mid, zz6, Nat.reduceEqDiff, ↓reduceIte]
      refine call_go F_go45 (fun hG => rKey_ x.who x.inst) (by simp [AV.ids, AV.idsL]) (by simp) ?_
      simp only [List.nil_append, List.cons_append, true_and, and_true, zz0, true_implies, Nat.reduceLT, Nat.reduceLeDiff, zzI, look_nil, Nat.reduceBEq, implies_true, Nat.reduceSub, S_getD, zz5, and_imp, imp_and, imp_self, and_self, zz19, zz23, F_off51_0, zzB, Nat.zero_add, Nat.reduceAdd, F_ok44, F_ag44, F_sz44, zz8, zzD, zzF, zzE, zz16, Option.some.injEq, exists_eq_left', exists_eq_left, Option.map_some, eq_self, reduceCtorEq, evS_call, evC_value, zz29, gr_v, zz30, evS_move, F_off51_1, F_ok3, F_ag3, F_sz3, zz13, pickK_l, pickK_r, F_off51_2, zz21, zz34, zz25, F_off25_2, F_ok23, F_ag23, F_sz23, zz33, evS_indexAddr, zz24, F_sl23, F_sz51, D.agg.injEq, posC, hpg, getD_mid, len_map, lt_mid, ge_mid, zz6, Nat.reduceEqDiff, ↓reduceIte, atsL, oksG, freeN, AV.ren, AV.renL, addRows, ORow.row, Nat.reduceMul, Nat.reduceAdd, zz9, Option.bind_some, Option.map_some, forall_eq', D.sl.injEq, S_mem, Option.some.injEq, exists_eq_left', exists_eq_left, exists_eq', exists_eq, List.length_cons, zz2]
      refine call_go F_go44 (fun hG => rIn_ x.qty (-1099511627776) 1099511627776) (by simp [AV.ids, AV.idsL]) (by simp) ?_
      simp only [List.nil_append, List.cons_append, true_and, and_true, zz0, true_implies, Nat.reduceLT, Nat.reduceLeDiff, zzI, look_nil, Nat.reduceBEq, implies_true, Nat.reduceSub, S_getD, zz5, and_imp, imp_and, imp_self, and_self, zz19, zz23, F_off51_0, zzB, Nat.zero_add, Nat.reduceAdd, F_ok44, F_ag44, F_sz44, zz8, zzD, zzF, zzE, zz16, Option.some.injEq, exists_eq_left', exists_eq_left, Option.map_some, eq_self, reduceCtorEq, evS_call, evC_value, zz29, gr_v, zz30, evS_move, F_off51_1, F_ok3, F_ag3, F_sz3, zz13, pickK_l, pickK_r, F_off51_2, zz21, zz34, zz25, F_off25_2, F_ok23, F_ag23, F_sz23, zz33, evS_indexAddr, zz24, F_sl23, F_sz51, D.agg.injEq, posC, hpg, getD_mid, len_map, lt_mid, ge_mid, zz6, Nat.reduceEqDiff, ↓reduceIte, atsL, oksG, freeN, AV.ren, AV.renL, addRows, ORow.row, Nat.reduceMul, Nat.reduceAdd, zz9, Option.bind_some, Option.map_some, forall_eq', D.sl.injEq, S_mem, Option.some.injEq, exists_eq_left', exists_eq_left, exists_eq', exists_eq, List.length_cons, zz2]
      refine call_go F_go38 (fun hG => rRight_ x.cost) (by simp [AV.ids, AV.idsL]) (by simp) ?_
      simp only [List.nil_append, List.cons_append, true_and, and_true, zz0, true_implies, Nat.reduceLT, Nat.reduceLeDiff, zzI, look_nil, Nat.reduceBEq, implies_true, Nat.reduceSub, S_getD, zz5, and_imp, imp_and, imp_self, and_self, zz19, zz23, F_off51_0, zzB, Nat.zero_add, Nat.reduceAdd, F_ok44, F_ag44, F_sz44, zz8, zzD, zzF, zzE, zz16, Option.some.injEq, exists_eq_left', exists_eq_left, Option.map_some, eq_self, reduceCtorEq, evS_call, evC_value, zz29, gr_v, zz30, evS_move, F_off51_1, F_ok3, F_ag3, F_sz3, zz13, pickK_l, pickK_r, F_off51_2, zz21, zz34, zz25, F_off25_2, F_ok23, F_ag23, F_sz23, zz33, evS_indexAddr, zz24, F_sl23, F_sz51, D.agg.injEq, posC, hpg, getD_mid, len_map, lt_mid, ge_mid, zz6, Nat.reduceEqDiff, ↓reduceIte, atsL, oksG, freeN, AV.ren, AV.renL, addRows, ORow.row, Nat.reduceMul, Nat.reduceAdd, zz9, Option.bind_some, Option.map_some, forall_eq', D.sl.injEq, S_mem, Option.some.injEq, exists_eq_left', exists_eq_left, exists_eq', exists_eq, List.length_cons, zz2]
      refine ⟨⟨fun _ hp2 => prev_ok pre hpp hp2, fun _ _ => prev_lt pre post x hpp⟩, ?_⟩
      refine call_go F_go46 (fun hG => rKeyLess_ (lastOr x pre).who (lastOr x pre).inst x.who x.inst) (by simp [AV.ids, AV.idsL]) (by simp) ?_
      simp only [List.nil_append, List.cons_append, true_and, and_true, zz0, true_implies, Nat.reduceLT, Nat.reduceLeDiff, zzI, look_nil, Nat.reduceBEq, implies_true, Nat.reduceSub, S_getD, zz5, and_imp, imp_and, imp_self, and_self, zz19, zz23, F_off51_0, zzB, Nat.zero_add, Nat.reduceAdd, F_ok44, F_ag44, F_sz44, zz8, zzD, zzF, zzE, zz16, Option.some.injEq, exists_eq_left', exists_eq_left, Option.map_some, eq_self, reduceCtorEq, evS_call, evC_value, zz29, gr_v, zz30, evS_move, F_off51_1, F_ok3, F_ag3, F_sz3, zz13, pickK_l, pickK_r, F_off51_2, zz21, zz34, zz25, F_off25_2, F_ok23, F_ag23, F_sz23, zz33, evS_indexAddr, zz24, F_sl23, F_sz51, D.agg.injEq, posC, hpg, getD_mid, len_map, lt_mid, ge_mid, zz6, Nat.reduceEqDiff, ↓reduceIte, atsL, oksG, freeN, AV.ren, AV.renL, addRows, ORow.row, Nat.reduceMul, Nat.reduceAdd, zz9, Option.bind_some, Option.map_some, forall_eq', D.sl.injEq, S_mem, Option.some.injEq, exists_eq_left', exists_eq_left, exists_eq', exists_eq, List.length_cons, zz2]
      refine hK3 _ ?_; try clear hK3 K3
      refine awp_keepL [1, 3, 76] ?_
      simp only [zz20, zzI, look_nil, Nat.reduceBEq]
      refine awp_condS _ (by decide) (by simp only [look_cons, Nat.reduceBEq, cond_true, cond_false]; rfl) ?_ ?_
      · intro hb
        have hs : (!posOk x || (decide ((pre.length : Int) > 0) && !pLt (lastOr x pre) x)) = true := by rw [posOk_ref]; exact hb
        clear hb
        refine awp_seq fun K4 hK4 => ?_
        refine awp_plain F_mixed [some 2] rfl ?_
        simp only [List.nil_append, List.cons_append, true_and, and_true, zz0, true_implies, Nat.reduceLT, Nat.reduceLeDiff, zzI, look_nil, Nat.reduceBEq, implies_true, evS_assign, zz6, Nat.reduceEqDiff, ↓reduceIte]
        refine hK4 _ ?_; try clear hK4 K4
        refine awp_keepL [2] ?_
        simp only [zz20, zzI, look_nil, Nat.reduceBEq]
        refine awp_ret ?_
        simp only [zz6, Nat.reduceEqDiff, ↓reduceIte]
        refine done0 (by simp only [resCs, resC]; trivial) ?_ (by simp [flatA, flatAs, flatD]) (by simp [AV.ids, AV.idsL])
        simp only [List.map_cons, List.map_nil, resA, S_getD, Nat.reduceLT, Nat.reduceLeDiff, look_cons, Nat.reduceBEq, cond_true, cond_false, resAll]
        have e : bookOk ⟨nx, ts, pre ++ x :: post⟩ = false := by simp only [bookOk]; rw [hck, chkR_step, hs]; rfl
        rw [e]
      · intro hb
        have hs : (!posOk x || (decide ((pre.length : Int) > 0) && !pLt (lastOr x pre) x)) = false := by rw [posOk_ref]; exact hb
        clear hb
        refine awp_skip ?_
        simp only [zz6, Nat.reduceEqDiff, ↓reduceIte]
        refine hK2 _ ?_; try clear hK2 K2
        refine awp_keepL [1, 3] ?_
        simp only [zz20, zzI, look_nil, Nat.reduceBEq]
        refine awp_plain F_mixed [some 27, some 28, some 3] rfl ?_
        simp only [List.nil_append, List.cons_append, true_and, and_true, zz0, true_implies, Nat.reduceLT, Nat.reduceLeDiff, zzI, look_nil, Nat.reduceBEq, implies_true, evS_move, zz21, gr_v, zz26, evS_assign, zz6, Nat.reduceEqDiff, ↓reduceIte]
        refine ⟨post.length, _, by simp, le_SK id [] rfl (l' := [(1, .ptr 1 0 0), (3, .d (iv (pre ++ [x]).length))]) (m' := [(1, (⟨True, 25, 3, true, false, 1, [[.d (iv nx), .d (.sl 7 (ts.map tradeC)), .d (.sl 4 ((pre ++ x :: post).map posC))]]⟩ : ARow))]) ?_ ?_ ?_ ?_, pre ++ [x], post, by simp, by rw [hck, chkR_step, hs]; simp, rfl, rfl⟩
        · simp only [leV, look_cons, Nat.reduceBEq, cond_true, cond_false, len_map, wrap_len pre x (by simp at hp; omega)]; exact ⟨VLe.refl _, VLe.refl _, trivial⟩
        · exact ⟨fun _ => ⟨_, rfl, ⟨id, rfl, rfl, fun _ => rfl, id, .inl, VLess.refl _⟩⟩, fun h => by simp at h, trivial⟩
        · simp [wfV, AV.ids, AV.idsL, lookR]
        · simp [wfR, AV.idsL, AV.ids]
    · intro hb
      obtain rfl := none_of hb; clear hb
      simp only [List.append_nil] at hck hp ⊢
      obtain ⟨ps, eps⟩ : ∃ x, x = pre := ⟨_, rfl⟩
      subst eps
      obtain ⟨hk0, hall⟩ := chk_pos hck
      clear hck
      refine awp_exit ?_
      simp only [zz6, Nat.reduceEqDiff, ↓reduceIte]
      refine hK0 _ ?_; try clear hK0 K0
      refine awp_keepL [1] ?_
      simp only [zz20, zzI, look_nil, Nat.reduceBEq]
      refine awp_seq fun K0 hK0 => ?_
      refine awp_seq fun K1 hK1 => ?_
      refine awp_plain F_mixed [some 5] rfl ?_
      simp only [List.nil_append, List.cons_append, true_and, and_true, zz0, true_implies, Nat.reduceLT, Nat.reduceLeDiff, zzI, look_nil, Nat.reduceBEq, implies_true, evS_assign, zz6, Nat.reduceEqDiff, ↓reduceIte]
      refine hK1 _ ?_; try clear hK1 K1
      refine awp_keepL [1, 5] ?_
      simp only [zz20, zzI, look_nil, Nat.reduceBEq]
      refine awp_block ?_
      refine awp_loop (fun m s => ∃ (k : Nat), (k ≤ 8) ∧ (levelTo ps k = true) ∧ m = 8 - k ∧ s = S 156 [(1, .ptr 1 0 0), (5, .d (iv (((k : Nat) : Int) + 1)))] [(1, (⟨True, 25, 3, true, false, 1, [[.d (iv nx), .d (.sl 7 (ts.map tradeC)), .d (.sl 4 (ps.map posC))]]⟩ : ARow))]) (8) _ (le_SK id [] rfl (l' := [(1, .ptr 1 0 0), (5, .d (iv (((0 : Nat) : Int) + 1)))]) (m' := [(1, (⟨True, 25, 3, true, false, 1, [[.d (iv nx), .d (.sl 7 (ts.map tradeC)), .d (.sl 4 (ps.map posC))]]⟩ : ARow))]) ?_ ?_ ?_ ?_) ⟨0, by omega, rfl, rfl, rfl⟩ ?_
      · simp only [leV, look_cons, Nat.reduceBEq, cond_true, cond_false]; exact ⟨(by first | exact VLe.still rfl | exact VLe.nil_ (by decide) | exact VLe.nild_ | exact VLe.refl _ | exact VLe.ptrE (by simp) (by rfl) | exact VLe.refE (by simp) (by rfl) (by first | rfl | (simp; done) | (simp; omega)) | exact VLe.dE (by first | rfl | simp)), (by first | exact VLe.still rfl | exact VLe.nil_ (by decide) | exact VLe.nild_ | exact VLe.refl _ | exact VLe.ptrE (by simp) (by rfl) | exact VLe.refE (by simp) (by rfl) (by first | rfl | (simp; done) | (simp; omega)) | exact VLe.dE (by first | rfl | simp)), trivial⟩
      · exact ⟨fun _ => ⟨_, rfl, (by first | exact RowLe.data_ (by first | rfl | simp) | exact RowLe.uq2 (by first | rfl | simp) (by simp) ids_data | exact RowLe.still (by simp [AV.idsL, AV.ids]) | exact RowLe.same (by simp) (by simp [AV.idsL, AV.ids]))⟩, fun h => by simp at h, trivial⟩
      · simp [wfV, AV.ids, AV.idsL, lookR, grow]
      · exact ⟨by simp [AV.idsL, AV.ids, lookR], trivial⟩
      rintro m s ⟨k, hk8, hlv, rfl, rfl⟩
      refine awp_seq fun K2 hK2 => ?_
      refine awp_seq fun K3 hK3 => ?_
      refine awp_plain F_mixed [some 77, some 78] rfl ?_
      simp only [List.nil_append, List.cons_append, true_and, and_true, zz0, true_implies, Nat.reduceLT, Nat.reduceLeDiff, zzI, look_nil, Nat.reduceBEq, implies_true, evS_move, zz21, gr_v, b_leq, pure_leq, zz6, Nat.reduceEqDiff, ↓reduceIte]
      refine hK3 _ ?_; try clear hK3 K3
      refine awp_keepL [1, 5, 78] ?_
      simp only [zz20, zzI, look_nil, Nat.reduceBEq]
      refine awp_condS _ (by decide) (by simp only [look_cons, Nat.reduceBEq, cond_true, cond_false]; rfl) ?_ ?_
      · intro hb
        have hk : k < 8 := by have := of_decide_eq_true hb; omega
        clear hb
        have hw : IntKind.wrap .i64 (((k : Nat) : Int) + 1 + 1) = (((k + 1 : Nat) : Int) + 1) := by rw [wrapI (by omega) (by omega)]; omega
        refine awp_skip ?_
        simp only [zz6, Nat.reduceEqDiff, ↓reduceIte]
        refine hK2 _ ?_; try clear hK2 K2
        refine awp_keepL [1, 5] ?_
        simp only [zz20, zzI, look_nil, Nat.reduceBEq]
        refine awp_seq fun K2 hK2 => ?_
        refine awp_block ?_
        refine awp_seq fun K3 hK3 => ?_
        refine awp_plain F_mixed [some 6] rfl ?_
        simp only [List.nil_append, List.cons_append, true_and, and_true, zz0, true_implies, Nat.reduceLT, Nat.reduceLeDiff, zzI, look_nil, Nat.reduceBEq, implies_true, evS_assign, zz6, Nat.reduceEqDiff, ↓reduceIte]
        refine hK3 _ ?_; try clear hK3 K3
        refine awp_keepL [1, 5, 6] ?_
        simp only [zz20, zzI, look_nil, Nat.reduceBEq]
        refine awp_seq fun K3 hK3 => ?_
        refine awp_seq fun K4 hK4 => ?_
        refine awp_plain F_mixed [some 7] rfl ?_
        simp only [List.nil_append, List.cons_append, true_and, and_true, zz0, true_implies, Nat.reduceLT, Nat.reduceLeDiff, zzI, look_nil, Nat.reduceBEq, implies_true, evS_assign, zz6, Nat.reduceEqDiff, ↓reduceIte]
        refine hK4 _ ?_; try clear hK4 K4
        refine awp_keepL [1, 5, 6, 7] ?_
        simp only [zz20, zzI, look_nil, Nat.reduceBEq]
        refine awp_block ?_
        refine awp_loop (fun m s => ∃ (pre : List PosV) (post : List PosV), (ps = pre ++ post) ∧ m = post.length ∧ s = S 156 [(1, .ptr 1 0 0), (5, .d (iv ((k : Int) + 1))), (6, .ref 6 (levelQ pre (k + 1)).length), (7, .d (iv pre.length))] [(1, (⟨True, 25, 3, true, false, 1, [[.d (iv nx), .d (.sl 7 (ts.map tradeC)), .d (.sl 4 (ps.map posC))]]⟩ : ARow)), (6, grow 3 1 6 ((levelQ pre (k + 1)).map fun n => [iv n]))]) (ps.length) _ (le_SK id [6] rfl (l' := [(1, .ptr 1 0 0), (5, .d (iv ((k : Int) + 1))), (6, .ref 6 (levelQ [] (k + 1)).length), (7, .d (iv [].length))]) (m' := [(1, (⟨True, 25, 3, true, false, 1, [[.d (iv nx), .d (.sl 7 (ts.map tradeC)), .d (.sl 4 (ps.map posC))]]⟩ : ARow)), (6, grow 3 1 6 ((levelQ [] (k + 1)).map fun n => [iv n]))]) ?_ ?_ ?_ ?_) ⟨[], ps, rfl, rfl, rfl⟩ ?_
        · simp only [leV, look_cons, Nat.reduceBEq, cond_true, cond_false]; exact ⟨(by first | exact VLe.still rfl | exact VLe.nil_ (by decide) | exact VLe.nild_ | exact VLe.refl _ | exact VLe.ptrE (by simp) (by rfl) | exact VLe.refE (by simp) (by rfl) (by first | rfl | (simp; done) | (simp; omega)) | exact VLe.dE (by first | rfl | simp)), (by first | exact VLe.still rfl | exact VLe.nil_ (by decide) | exact VLe.nild_ | exact VLe.refl _ | exact VLe.ptrE (by simp) (by rfl) | exact VLe.refE (by simp) (by rfl) (by first | rfl | (simp; done) | (simp; omega)) | exact VLe.dE (by first | rfl | simp)), (by first | exact VLe.still rfl | exact VLe.nil_ (by decide) | exact VLe.nild_ | exact VLe.refl _ | exact VLe.ptrE (by simp) (by rfl) | exact VLe.refE (by simp) (by rfl) (by first | rfl | (simp; done) | (simp; omega)) | exact VLe.dE (by first | rfl | simp)), (by first | exact VLe.still rfl | exact VLe.nil_ (by decide) | exact VLe.nild_ | exact VLe.refl _ | exact VLe.ptrE (by simp) (by rfl) | exact VLe.refE (by simp) (by rfl) (by first | rfl | (simp; done) | (simp; omega)) | exact VLe.dE (by first | rfl | simp)), trivial⟩
        · exact ⟨fun _ => ⟨_, rfl, (by first | exact RowLe.data_ (by first | rfl | simp) | exact RowLe.uq2 (by first | rfl | simp) (by simp) ids_data | exact RowLe.still (by simp [AV.idsL, AV.ids]) | exact RowLe.same (by simp) (by simp [AV.idsL, AV.ids]))⟩, fun h => by simp at h, fun h => by simp at h, fun _ => rfl, trivial⟩
        · simp [wfV, AV.ids, AV.idsL, lookR, grow]
        · exact ⟨by simp [AV.idsL, AV.ids, lookR], wf_data _ _, trivial⟩
        rintro m s ⟨pre, post, hsp, rfl, rfl⟩
        have hspl := congrArg List.length hsp
        simp only [List.length_append] at hspl
        have hql := levelQ_len pre (k + 1)
        refine awp_seq fun K5 hK5 => ?_
        refine awp_seq fun K6 hK6 => ?_
        refine awp_plain F_mixed [some 81, some 82, some 83, some 84, some 85] rfl ?_
        simp only [List.nil_append, List.cons_append, true_and, and_true, zz0, true_implies, Nat.reduceLT, Nat.reduceLeDiff, zzI, look_nil, Nat.reduceBEq, implies_true, evS_move, zz19, zz23, F_off25_2, zzB, Nat.zero_add, Nat.reduceAdd, F_ok23, F_ag23, F_sz23, zz8, zzD, zzF, zzE, zz16, Option.some.injEq, exists_eq_left', exists_eq_left, Option.map_some, eq_self, reduceCtorEq, and_self, evS_call, zz12, F_sl23, Option.isSome_some, zz21, gr_v, zz22, len_map, zz6, Nat.reduceEqDiff, ↓reduceIte]
        refine hK6 _ ?_; try clear hK6 K6
        refine awp_keepL [1, 5, 6, 7, 85] ?_
        simp only [zz20, zzI, look_nil, Nat.reduceBEq]
        refine awp_condS _ (by decide) (by simp only [look_cons, Nat.reduceBEq, cond_true, cond_false]; rfl) ?_ ?_
        · intro hb
          obtain ⟨x, post2, rfl⟩ : ∃ x t, post = x :: t := by
            cases post with
            | nil => have := of_decide_eq_true hb; simp at hspl; omega
            | cons x t => exact ⟨x, t, rfl⟩
          clear hb
          simp only [List.length_cons] at hspl
          have gx : (ps.map posC).getD pre.length [] = [iv x.who, iv x.inst, iv x.qty, iv x.cost] := by
            rw [hsp, List.map_append]; exact gd_mid' (A := pre.map posC) _ _ (by simp)
          have bx := ltI (show pre.length < ps.length by omega)
          have hwx : IntKind.wrap .i64 ((pre.length : Int) + 1) = ((pre ++ [x]).length : Int) := by rw [wrapI (by omega) (by omega)]; simp
          refine awp_skip ?_
          simp only [zz6, Nat.reduceEqDiff, ↓reduceIte]
          refine hK5 _ ?_; try clear hK5 K5
          refine awp_keepL [1, 5, 6, 7] ?_
          simp only [zz20, zzI, look_nil, Nat.reduceBEq]
          refine awp_seq fun K5 hK5 => ?_
          refine awp_block ?_
          refine awp_seq fun K6 hK6 => ?_
          refine awp_plain F_mixed [some 88, some 89, some 90, some 91, some 92, some 93, some 94, some 95, some 96] rfl ?_
          simp only [List.nil_append, List.cons_append, true_and, and_true, zz0, true_implies, Nat.reduceLT, Nat.reduceLeDiff, zzI, look_nil, Nat.reduceBEq, implies_true, zz19, zz23, F_off25_2, zzB, Nat.zero_add, Nat.reduceAdd, F_ok23, F_ag23, F_sz23, zz8, zzD, zzF, zzE, zz16, Option.some.injEq, exists_eq_left', exists_eq_left, Option.map_some, eq_self, reduceCtorEq, and_self, evS_move, evS_indexAddr, zz24, F_sl23, F_sz51, F_off51_0, F_off44_1, F_ok3, F_ag3, F_sz3, zz21, gr_v, zz34, posC, gx, bx, hwx, len_map, ge0, Int.toNat_natCast, D.agg.injEq, zz6, Nat.reduceEqDiff, ↓reduceIte]
          refine hK6 _ ?_; try clear hK6 K6
          refine awp_keepL [1, 5, 6, 7, 96] ?_
          simp only [zz20, zzI, look_nil, Nat.reduceBEq]
          refine awp_condS _ (by decide) (by simp only [look_cons, Nat.reduceBEq, cond_true, cond_false]; rfl) ?_ ?_
          · intro hb
            have hs : (x.inst == ((k : Int) + 1)) = true := hb
            clear hb
            have hsl := levelQ_yes hs pre
            refine awp_plain F_mixed [some 97, some 98, some 99, some 100, some 101, some 102, some 103, some 104, some 105, some 6] rfl ?_
            simp only [List.nil_append, List.cons_append, true_and, and_true, zz0, true_implies, Nat.reduceLT, Nat.reduceLeDiff, zzI, look_nil, Nat.reduceBEq, implies_true, evS_move, zz19, zz23, F_off25_2, zzB, Nat.zero_add, Nat.reduceAdd, F_ok23, F_ag23, F_sz23, zz8, zzD, zzF, zzE, zz16, Option.some.injEq, exists_eq_left', exists_eq_left, Option.map_some, eq_self, reduceCtorEq, and_self, evS_indexAddr, zz24, F_sl23, F_sz51, F_off51_1, F_ok3, F_ag3, F_sz3, F_sl68, F_zero3, zz3, newRow1, zz1, zzG, maxLen_le, Nat.reduceMul, evS_call, F_by3, zz4, zz9, Option.bind_some, evS_assign, posC, grow, unDs_map, gx, bx, hwx, len_map, ge0, Int.toNat_natCast, D.agg.injEq, zz6, Nat.reduceEqDiff, ↓reduceIte]
            have hm : (levelQ pre (k + 1)).length + 1 ≤ 1000000 := by first | omega | (simp; omega)
            first | refine ⟨le_maxLen hm, by omega, ?_⟩ | refine ⟨by simp, le_maxLen hm, by omega, ?_⟩
            clear hm
            refine hK5 _ ?_; try clear hK5 K5
            refine awp_keepL [1, 5, 6, 7] ?_
            simp only [zz20, zzI, look_nil, Nat.reduceBEq]
            refine awp_plain F_mixed [some 86, some 87, some 7] rfl ?_
            simp only [List.nil_append, List.cons_append, true_and, and_true, zz0, true_implies, Nat.reduceLT, Nat.reduceLeDiff, zzI, look_nil, Nat.reduceBEq, implies_true, evS_move, zz21, gr_v, zz26, evS_assign, hwx, zz6, Nat.reduceEqDiff, ↓reduceIte]
            refine ⟨post2.length, _, by simp, le_SK (fun r => bif r == 6 then 105 else r) [] rfl (l' := [(1, .ptr 1 0 0), (5, .d (iv ((k : Int) + 1))), (6, .ref 6 (levelQ (pre ++ [x]) (k + 1)).length), (7, .d (iv (pre ++ [x]).length))]) (m' := [(1, (⟨True, 25, 3, true, false, 1, [[.d (iv nx), .d (.sl 7 (ts.map tradeC)), .d (.sl 4 (ps.map posC))]]⟩ : ARow)), (6, grow 3 1 6 ((levelQ (pre ++ [x]) (k + 1)).map fun n => [iv n]))]) ?_ ?_ ?_ ?_, (pre ++ [x]), post2, by simp [hsp], rfl, rfl⟩
            · simp only [leV, look_cons, Nat.reduceBEq, cond_true, cond_false, hwx, hsl]; exact ⟨(by first | exact VLe.still rfl | exact VLe.nil_ (by decide) | exact VLe.nild_ | exact VLe.refl _ | exact VLe.ptrE (by simp) (by rfl) | exact VLe.refE (by simp) (by rfl) (by first | rfl | (simp; done) | (simp; omega)) | exact VLe.dE (by first | rfl | simp)), (by first | exact VLe.still rfl | exact VLe.nil_ (by decide) | exact VLe.nild_ | exact VLe.refl _ | exact VLe.ptrE (by simp) (by rfl) | exact VLe.refE (by simp) (by rfl) (by first | rfl | (simp; done) | (simp; omega)) | exact VLe.dE (by first | rfl | simp)), (by first | exact VLe.still rfl | exact VLe.nil_ (by decide) | exact VLe.nild_ | exact VLe.refl _ | exact VLe.ptrE (by simp) (by rfl) | exact VLe.refE (by simp) (by rfl) (by first | rfl | (simp; done) | (simp; omega)) | exact VLe.dE (by first | rfl | simp)), (by first | exact VLe.still rfl | exact VLe.nil_ (by decide) | exact VLe.nild_ | exact VLe.refl _ | exact VLe.ptrE (by simp) (by rfl) | exact VLe.refE (by simp) (by rfl) (by first | rfl | (simp; done) | (simp; omega)) | exact VLe.dE (by first | rfl | simp)), trivial⟩
            · exact ⟨fun _ => ⟨_, rfl, (by first | exact RowLe.data_ (by first | rfl | simp) | exact RowLe.uq2 (by first | rfl | simp) (by simp) ids_data | exact RowLe.still (by simp [AV.idsL, AV.ids]) | exact RowLe.same (by simp) (by simp [AV.idsL, AV.ids]))⟩, fun h => by simp at h, fun _ => ⟨_, rfl, RowLe.data_ (by rw [hsl]; simp)⟩, fun h => by simp at h, trivial⟩
            · simp [wfV, AV.ids, AV.idsL, lookR, grow]
            · exact ⟨by simp [AV.idsL, AV.ids, lookR], wf_data _ _, trivial⟩
          · intro hb
            have hs : (x.inst == ((k : Int) + 1)) = false := hb
            clear hb
            have hsl := levelQ_no hs pre
            refine awp_skip ?_
            simp only [zz6, Nat.reduceEqDiff, ↓reduceIte]
            refine hK5 _ ?_; try clear hK5 K5
            refine awp_keepL [1, 5, 6, 7] ?_
            simp only [zz20, zzI, look_nil, Nat.reduceBEq]
            refine awp_plain F_mixed [some 86, some 87, some 7] rfl ?_
            simp only [List.nil_append, List.cons_append, true_and, and_true, zz0, true_implies, Nat.reduceLT, Nat.reduceLeDiff, zzI, look_nil, Nat.reduceBEq, implies_true, evS_move, zz21, gr_v, zz26, evS_assign, hwx, zz6, Nat.reduceEqDiff, ↓reduceIte]
            refine ⟨post2.length, _, by simp, le_SK id [] rfl (l' := [(1, .ptr 1 0 0), (5, .d (iv ((k : Int) + 1))), (6, .ref 6 (levelQ (pre ++ [x]) (k + 1)).length), (7, .d (iv (pre ++ [x]).length))]) (m' := [(1, (⟨True, 25, 3, true, false, 1, [[.d (iv nx), .d (.sl 7 (ts.map tradeC)), .d (.sl 4 (ps.map posC))]]⟩ : ARow)), (6, grow 3 1 6 ((levelQ (pre ++ [x]) (k + 1)).map fun n => [iv n]))]) ?_ ?_ ?_ ?_, (pre ++ [x]), post2, by simp [hsp], rfl, rfl⟩
            · simp only [leV, look_cons, Nat.reduceBEq, cond_true, cond_false, hwx, hsl]; exact ⟨(by first | exact VLe.still rfl | exact VLe.nil_ (by decide) | exact VLe.nild_ | exact VLe.refl _ | exact VLe.ptrE (by simp) (by rfl) | exact VLe.refE (by simp) (by rfl) (by first | rfl | (simp; done) | (simp; omega)) | exact VLe.dE (by first | rfl | simp)), (by first | exact VLe.still rfl | exact VLe.nil_ (by decide) | exact VLe.nild_ | exact VLe.refl _ | exact VLe.ptrE (by simp) (by rfl) | exact VLe.refE (by simp) (by rfl) (by first | rfl | (simp; done) | (simp; omega)) | exact VLe.dE (by first | rfl | simp)), (by first | exact VLe.still rfl | exact VLe.nil_ (by decide) | exact VLe.nild_ | exact VLe.refl _ | exact VLe.ptrE (by simp) (by rfl) | exact VLe.refE (by simp) (by rfl) (by first | rfl | (simp; done) | (simp; omega)) | exact VLe.dE (by first | rfl | simp)), (by first | exact VLe.still rfl | exact VLe.nil_ (by decide) | exact VLe.nild_ | exact VLe.refl _ | exact VLe.ptrE (by simp) (by rfl) | exact VLe.refE (by simp) (by rfl) (by first | rfl | (simp; done) | (simp; omega)) | exact VLe.dE (by first | rfl | simp)), trivial⟩
            · exact ⟨fun _ => ⟨_, rfl, (by first | exact RowLe.data_ (by first | rfl | simp) | exact RowLe.uq2 (by first | rfl | simp) (by simp) ids_data | exact RowLe.still (by simp [AV.idsL, AV.ids]) | exact RowLe.same (by simp) (by simp [AV.idsL, AV.ids]))⟩, fun h => by simp at h, fun _ => ⟨_, rfl, RowLe.data_ (by rw [hsl])⟩, fun h => by simp at h, trivial⟩
            · simp [wfV, AV.ids, AV.idsL, lookR, grow]
            · exact ⟨by simp [AV.idsL, AV.ids, lookR], wf_data _ _, trivial⟩
        · intro hb
          obtain rfl : post = [] := by
            cases post with
            | nil => rfl
            | cons x t => have := of_decide_eq_false hb; simp at hspl; omega
          clear hb
          simp only [List.append_nil] at hsp
          obtain rfl : ps = pre := hsp
          refine awp_exit ?_
          simp only [zz6, Nat.reduceEqDiff, ↓reduceIte]
          refine hK3 _ ?_; try clear hK3 K3
          refine awp_keepL [1, 5, 6] ?_
          simp only [zz20, zzI, look_nil, Nat.reduceBEq]
          refine awp_seq fun K3 hK3 => ?_
          refine awp_plain F_mixed [some 107, some 108, some 106, some 109, some 110, some 8, some 9] rfl ?_
          simp only [List.nil_append, List.cons_append, true_and, and_true, zz0, true_implies, Nat.reduceLT, Nat.reduceLeDiff, zzI, look_nil, Nat.reduceBEq, implies_true, evS_move, evS_call, evC_value, zz14, zzD, Nat.reduceAdd, Nat.zero_add, zzF, evS_assign, ints, grow, len_map, zz6, Nat.reduceEqDiff, ↓reduceIte]
          refine call_go F_go39 (fun hG => Add_ (levelQ ps (k + 1)) (by omega) (levQ_bnd hall _)) (by simp [AV.ids, AV.idsL]) (by simp) ?_
          simp only [List.nil_append, List.cons_append, true_and, and_true, zz0, true_implies, Nat.reduceLT, Nat.reduceLeDiff, zzI, look_nil, Nat.reduceBEq, implies_true, evS_move, evS_call, evC_value, zz14, zzD, Nat.reduceAdd, Nat.zero_add, zzF, evS_assign, ints, grow, len_map, zz6, Nat.reduceEqDiff, ↓reduceIte, atsL, oksG, freeN, AV.ren, AV.renL, addRows, ORow.row, Nat.reduceMul, Nat.reduceAdd, zz9, Option.bind_some, Option.map_some, forall_eq', D.sl.injEq, zz16, Option.some.injEq, exists_eq_left', exists_eq_left, exists_eq', exists_eq, List.length_cons, zz2]
          try refine ⟨by simp, ?_⟩
          refine hK3 _ ?_; try clear hK3 K3
          refine awp_keepL [1, 5, 8, 9] ?_
          simp only [zz20, zzI, look_nil, Nat.reduceBEq]
          refine awp_seq fun K3 hK3 => ?_
          refine awp_plain F_mixed [some 111, some 112, some 113, some 114, some 115, some 116] rfl ?_
          simp only [List.nil_append, List.cons_append, true_and, and_true, zz0, true_implies, Nat.reduceLT, Nat.reduceLeDiff, zzI, look_nil, Nat.reduceBEq, implies_true, Nat.reduceSub, S_getD, zz5, and_imp, imp_and, imp_self, and_self, evS_move, zz29, gr_v, zz30, zz21, zz28, zz13, pickK_l, pickK_r, zz6, Nat.reduceEqDiff, ↓reduceIte]
          refine hK3 _ ?_; try clear hK3 K3
          refine awp_keepL [1, 5, 116] ?_
          simp only [zz20, zzI, look_nil, Nat.reduceBEq]
          refine awp_condS _ (by decide) (by simp only [look_cons, Nat.reduceBEq, cond_true, cond_false]; rfl) ?_ ?_
          · intro hb
            have hli : levelI ps (k + 1) = false := by
              have e := lev_ref hall ((k : Int) + 1)
              rw [show _ = true from hb] at e
              simpa using e.symm
            clear hb
            refine awp_seq fun K4 hK4 => ?_
            refine awp_plain F_mixed [some 2] rfl ?_
            simp only [List.nil_append, List.cons_append, true_and, and_true, zz0, true_implies, Nat.reduceLT, Nat.reduceLeDiff, zzI, look_nil, Nat.reduceBEq, implies_true, evS_assign, zz6, Nat.reduceEqDiff, ↓reduceIte]
            refine hK4 _ ?_; try clear hK4 K4
            refine awp_keepL [2] ?_
            simp only [zz20, zzI, look_nil, Nat.reduceBEq]
            refine awp_ret ?_
            simp only [zz6, Nat.reduceEqDiff, ↓reduceIte]
            try simp only [List.append_nil]
            refine done0 (by simp only [resCs, resC]; trivial) ?_ (by simp [flatA, flatAs, flatD]) (by simp [AV.ids, AV.idsL])
            simp only [List.map_cons, List.map_nil, resA, S_getD, Nat.reduceLT, Nat.reduceLeDiff, look_cons, Nat.reduceBEq, cond_true, cond_false, resAll]
            rw [rb_lev hk hli]
          · intro hb
            have hli : levelI ps (k + 1) = true := by
              have e := lev_ref hall ((k : Int) + 1)
              rw [show _ = false from hb] at e
              simpa using e.symm
            clear hb
            refine awp_skip ?_
            simp only [zz6, Nat.reduceEqDiff, ↓reduceIte]
            refine hK2 _ ?_; try clear hK2 K2
            refine awp_keepL [1, 5] ?_
            simp only [zz20, zzI, look_nil, Nat.reduceBEq]
            refine awp_plain F_mixed [some 79, some 80, some 5] rfl ?_
            simp only [List.nil_append, List.cons_append, true_and, and_true, zz0, true_implies, Nat.reduceLT, Nat.reduceLeDiff, zzI, look_nil, Nat.reduceBEq, implies_true, evS_move, zz21, gr_v, zz26, evS_assign, zz6, Nat.reduceEqDiff, ↓reduceIte]
            refine ⟨8 - (k + 1), _, by omega, le_SK id [] rfl (l' := [(1, .ptr 1 0 0), (5, .d (iv ((((k + 1) : Nat) : Int) + 1)))]) (m' := [(1, (⟨True, 25, 3, true, false, 1, [[.d (iv nx), .d (.sl 7 (ts.map tradeC)), .d (.sl 4 (ps.map posC))]]⟩ : ARow))]) ?_ ?_ ?_ ?_, (k + 1), by omega, by rw [levelTo_succ, hlv, hli]; rfl, rfl, rfl⟩
            · simp only [leV, look_cons, Nat.reduceBEq, cond_true, cond_false, hw]; exact ⟨(by first | exact VLe.still rfl | exact VLe.nil_ (by decide) | exact VLe.nild_ | exact VLe.refl _ | exact VLe.ptrE (by simp) (by rfl) | exact VLe.refE (by simp) (by rfl) (by first | rfl | (simp; done) | (simp; omega)) | exact VLe.dE (by first | rfl | simp)), (by first | exact VLe.still rfl | exact VLe.nil_ (by decide) | exact VLe.nild_ | exact VLe.refl _ | exact VLe.ptrE (by simp) (by rfl) | exact VLe.refE (by simp) (by rfl) (by first | rfl | (simp; done) | (simp; omega)) | exact VLe.dE (by first | rfl | simp)), trivial⟩
            · exact ⟨fun _ => ⟨_, rfl, (by first | exact RowLe.data_ (by first | rfl | simp) | exact RowLe.uq2 (by first | rfl | simp) (by simp) ids_data | exact RowLe.still (by simp [AV.idsL, AV.ids]) | exact RowLe.same (by simp) (by simp [AV.idsL, AV.ids]))⟩, fun h => by simp at h, trivial⟩
            · simp [wfV, AV.ids, AV.idsL, lookR, grow]
            · exact ⟨by simp [AV.idsL, AV.ids, lookR], trivial⟩
      · intro hb
        obtain rfl : k = 8 := by have := of_decide_eq_false hb; omega
        clear hb
        refine awp_exit ?_
        simp only [zz6, Nat.reduceEqDiff, ↓reduceIte]
        refine hK0 _ ?_; try clear hK0 K0
        refine awp_keepL [1] ?_
        simp only [zz20, zzI, look_nil, Nat.reduceBEq]
        refine awp_seq fun K0 hK0 => ?_
        refine awp_seq fun K1 hK1 => ?_
        refine awp_plain F_mixed [some 10] rfl ?_
        simp only [List.nil_append, List.cons_append, true_and, and_true, zz0, true_implies, Nat.reduceLT, Nat.reduceLeDiff, zzI, look_nil, Nat.reduceBEq, implies_true, evS_assign, zz6, Nat.reduceEqDiff, ↓reduceIte]
        refine hK1 _ ?_; try clear hK1 K1
        refine awp_keepL [1, 10] ?_
        simp only [zz20, zzI, look_nil, Nat.reduceBEq]
        refine awp_block ?_
        refine awp_loop (fun m s => ∃ pre post : List TradeV, ts = pre ++ post ∧ chkR (trOk nx) tLt none ts = chkR (trOk nx) tLt pre.getLast? post ∧ m = post.length ∧ s = S 156 [(1, .ptr 1 0 0), (10, .d (iv pre.length))] [(1, (⟨True, 25, 3, true, false, 1, [[.d (iv nx), .d (.sl 7 (ts.map tradeC)), .d (.sl 4 (ps.map posC))]]⟩ : ARow))]) ts.length _ (le_SK id [] rfl (l' := [(1, .ptr 1 0 0), (10, .d (iv ([] : List TradeV).length))]) (m' := [(1, (⟨True, 25, 3, true, false, 1, [[.d (iv nx), .d (.sl 7 (ts.map tradeC)), .d (.sl 4 (ps.map posC))]]⟩ : ARow))]) ?_ ?_ ?_ ?_) ⟨[], ts, rfl, rfl, rfl, rfl⟩ ?_
        · simp only [leV, look_cons, Nat.reduceBEq, cond_true, cond_false, len_map]; exact ⟨VLe.refl _, VLe.refl _, trivial⟩
        · exact ⟨fun _ => ⟨_, rfl, ⟨id, rfl, rfl, fun _ => rfl, id, .inl, VLess.refl _⟩⟩, fun h => by simp at h, trivial⟩
        · simp [wfV, AV.ids, AV.idsL, lookR]
        · simp [wfR, AV.idsL, AV.ids]
        rintro m s ⟨pre, post, rfl, hck, rfl, rfl⟩
        refine awp_seq fun K2 hK2 => ?_
        refine awp_seq fun K3 hK3 => ?_
        refine awp_plain F_mixed [some 117, some 118, some 119, some 120, some 121] rfl ?_
        simp only [List.nil_append, List.cons_append, true_and, and_true, zz0, true_implies, Nat.reduceLT, Nat.reduceLeDiff, zzI, look_nil, Nat.reduceBEq, implies_true, evS_move, zz19, zz23, F_off25_1, zzB, Nat.zero_add, Nat.reduceAdd, F_ok22, F_ag22, F_sz22, zz8, zzD, zzF, zzE, zz16, Option.some.injEq, exists_eq_left', exists_eq_left, Option.map_some, eq_self, reduceCtorEq, and_self, evS_call, zz12, F_sl22, Option.isSome_some, zz21, gr_v, zz22, len_map, zz6, Nat.reduceEqDiff, ↓reduceIte]
        refine hK3 _ ?_; try clear hK3 K3
        refine awp_keepL [1, 10, 121] ?_
        simp only [zz20, zzI, look_nil, Nat.reduceBEq]
        refine awp_condS _ (by decide) (by simp only [look_cons, Nat.reduceBEq, cond_true, cond_false]; rfl) ?_ ?_
        · intro hb
          obtain ⟨x, post, rfl⟩ := more_of hb; clear hb
          have hpp : pre.length < 4611686018427387904 := by simp at ht; omega
          have hpg := prev_get tradeC pre post x [] hpp
          refine awp_skip ?_
          simp only [zz6, Nat.reduceEqDiff, ↓reduceIte]
          refine hK2 _ ?_; try clear hK2 K2
          refine awp_keepL [1, 10] ?_
          simp only [zz20, zzI, look_nil, Nat.reduceBEq]
          refine awp_seq fun K2 hK2 => ?_
          refine awp_block ?_
          refine awp_seq fun K3 hK3 => ?_
          refine awp_plain F_mixed [some 124, some 125, some 126, some 127, some 128, some 11, none] rfl ?_
          simp only [List.nil_append, List.cons_append, true_and, and_true, zz0, true_implies, Nat.reduceLT, Nat.reduceLeDiff, zzI, look_nil, Nat.reduceBEq, implies_true, zz19, zz23, F_off25_1, zzB, Nat.zero_add, Nat.reduceAdd, F_ok22, F_ag22, F_sz22, zz8, zzD, zzF, zzE, zz16, Option.some.injEq, exists_eq_left', exists_eq_left, Option.map_some, eq_self, reduceCtorEq, and_self, evS_move, evS_indexAddr, zz24, F_sl22, F_sz27, F_ok27, F_ag27, zz32, newRow1, F_zero27, zz10, zz18, splice, List.append_nil, zz1, zzG, tradeC, getD_mid, len_map, lt_mid, ge_mid, zz6, Nat.reduceEqDiff, ↓reduceIte]
          refine hK3 _ ?_; try clear hK3 K3
          refine awp_keepL [1, 10, 11] ?_
          simp only [zz20, zzI, look_nil, Nat.reduceBEq]
          refine awp_seq fun K3 hK3 => ?_
          refine awp_draw F_mixed [some 129, some 130, some 131, some 132, some 133, some 134, some 135, some 136, some 137, some 138, some 139, some 140, some 141, some 142, some 143, some 144, some 145, some 146, some 147, some 148, some 149, some 150, some 151, some 152, some 153, some 154, some 155] rfl (by kernel_rfl) ?_
          simp only [List.nil_append, List.cons_append, true_and, and_true, zz0, true_implies, Nat.reduceLT, Nat.reduceLeDiff, zzI, look_nil, Nat.reduceBEq, implies_true, Nat.reduceSub, S_getD, zz5, and_imp, imp_and, imp_self, and_self, F_ok27, F_ag27, F_sz27, zz8, zz23, zzD, Nat.reduceAdd, Nat.zero_add, zzF, zzB, zzE, zz16, Option.some.injEq, exists_eq_left', exists_eq_left, Option.map_some, eq_self, reduceCtorEq, evS_call, evC_value, zz29, gr_v, zz30, evS_move, zz19, F_off27_0, F_ok3, F_ag3, F_sz3, F_off25_0, zz13, pickK_l, pickK_r, zz21, zz25, F_off25_1, F_ok22, F_ag22, F_sz22, zz33, evS_indexAddr, zz24, F_sl22, b_leq, pure_leq, tradeC, D.agg.injEq, hpg, getD_mid, len_map, lt_mid, ge_mid, zz6, Nat.reduceEqDiff, ↓reduceIte]
          refine call_go F_go47 (fun hG => rNum_ x) (by simp [AV.ids, AV.idsL]) (by simp) ?_
          simp only [List.nil_append, List.cons_append, true_and, and_true, zz0, true_implies, Nat.reduceLT, Nat.reduceLeDiff, zzI, look_nil, Nat.reduceBEq, implies_true, Nat.reduceSub, S_getD, zz5, and_imp, imp_and, imp_self, and_self, F_ok27, F_ag27, F_sz27, zz8, zz23, zzD, Nat.reduceAdd, Nat.zero_add, zzF, zzB, zzE, zz16, Option.some.injEq, exists_eq_left', exists_eq_left, Option.map_some, eq_self, reduceCtorEq, evS_call, evC_value, zz29, gr_v, zz30, evS_move, zz19, F_off27_0, F_ok3, F_ag3, F_sz3, F_off25_0, zz13, pickK_l, pickK_r, zz21, zz25, F_off25_1, F_ok22, F_ag22, F_sz22, zz33, evS_indexAddr, zz24, F_sl22, b_leq, pure_leq, tradeC, D.agg.injEq, hpg, getD_mid, len_map, lt_mid, ge_mid, zz6, Nat.reduceEqDiff, ↓reduceIte, atsL, oksG, freeN, AV.ren, AV.renL, addRows, ORow.row, Nat.reduceMul, Nat.reduceAdd, zz9, Option.bind_some, Option.map_some, forall_eq', D.sl.injEq, S_mem, Option.some.injEq, exists_eq_left', exists_eq_left, exists_eq', exists_eq, List.length_cons, zz2]
          refine call_go F_go44 (fun hG => rIn_ x.no 1 nx) (by simp [AV.ids, AV.idsL]) (by simp) ?_
          simp only [List.nil_append, List.cons_append, true_and, and_true, zz0, true_implies, Nat.reduceLT, Nat.reduceLeDiff, zzI, look_nil, Nat.reduceBEq, implies_true, Nat.reduceSub, S_getD, zz5, and_imp, imp_and, imp_self, and_self, F_ok27, F_ag27, F_sz27, zz8, zz23, zzD, Nat.reduceAdd, Nat.zero_add, zzF, zzB, zzE, zz16, Option.some.injEq, exists_eq_left', exists_eq_left, Option.map_some, eq_self, reduceCtorEq, evS_call, evC_value, zz29, gr_v, zz30, evS_move, zz19, F_off27_0, F_ok3, F_ag3, F_sz3, F_off25_0, zz13, pickK_l, pickK_r, zz21, zz25, F_off25_1, F_ok22, F_ag22, F_sz22, zz33, evS_indexAddr, zz24, F_sl22, b_leq, pure_leq, tradeC, D.agg.injEq, hpg, getD_mid, len_map, lt_mid, ge_mid, zz6, Nat.reduceEqDiff, ↓reduceIte, atsL, oksG, freeN, AV.ren, AV.renL, addRows, ORow.row, Nat.reduceMul, Nat.reduceAdd, zz9, Option.bind_some, Option.map_some, forall_eq', D.sl.injEq, S_mem, Option.some.injEq, exists_eq_left', exists_eq_left, exists_eq', exists_eq, List.length_cons, zz2]
          refine ⟨⟨fun _ hp2 => prev_ok pre hpp hp2, fun _ _ => prev_lt pre post x hpp⟩, ?_⟩
          refine hK3 _ ?_; try clear hK3 K3
          refine awp_keepL [1, 10, 155] ?_
          simp only [zz20, zzI, look_nil, Nat.reduceBEq]
          refine awp_condS _ (by decide) (by simp only [look_cons, Nat.reduceBEq, cond_true, cond_false]; rfl) ?_ ?_
          · intro hb
            have hs : (!trOk nx x || (decide ((pre.length : Int) > 0) && !tLt (lastOr x pre) x)) = true := by rw [trOk_ref]; simpa only [tLt, Bool.not_not, ge_iff_le] using hb
            clear hb
            refine awp_seq fun K4 hK4 => ?_
            refine awp_plain F_mixed [some 2] rfl ?_
            simp only [List.nil_append, List.cons_append, true_and, and_true, zz0, true_implies, Nat.reduceLT, Nat.reduceLeDiff, zzI, look_nil, Nat.reduceBEq, implies_true, evS_assign, zz6, Nat.reduceEqDiff, ↓reduceIte]
            refine hK4 _ ?_; try clear hK4 K4
            refine awp_keepL [2] ?_
            simp only [zz20, zzI, look_nil, Nat.reduceBEq]
            refine awp_ret ?_
            simp only [zz6, Nat.reduceEqDiff, ↓reduceIte]
            try simp only [List.append_nil]
            refine done0 (by simp only [resCs, resC]; trivial) ?_ (by simp [flatA, flatAs, flatD]) (by simp [AV.ids, AV.idsL])
            simp only [List.map_cons, List.map_nil, resA, S_getD, Nat.reduceLT, Nat.reduceLeDiff, look_cons, Nat.reduceBEq, cond_true, cond_false, resAll]
            have e : bookOk ⟨nx, pre ++ x :: post, ps⟩ = false := by simp only [bookOk]; rw [hk0, hck, chkR_step, hs]; rfl
            rw [e]
          · intro hb
            have hs : (!trOk nx x || (decide ((pre.length : Int) > 0) && !tLt (lastOr x pre) x)) = false := by rw [trOk_ref]; simpa only [tLt, Bool.not_not, ge_iff_le] using hb
            clear hb
            refine awp_skip ?_
            simp only [zz6, Nat.reduceEqDiff, ↓reduceIte]
            refine hK2 _ ?_; try clear hK2 K2
            refine awp_keepL [1, 10] ?_
            simp only [zz20, zzI, look_nil, Nat.reduceBEq]
            refine awp_plain F_mixed [some 122, some 123, some 10] rfl ?_
            simp only [List.nil_append, List.cons_append, true_and, and_true, zz0, true_implies, Nat.reduceLT, Nat.reduceLeDiff, zzI, look_nil, Nat.reduceBEq, implies_true, evS_move, zz21, gr_v, zz26, evS_assign, zz6, Nat.reduceEqDiff, ↓reduceIte]
            refine ⟨post.length, _, by simp, le_SK id [] rfl (l' := [(1, .ptr 1 0 0), (10, .d (iv (pre ++ [x]).length))]) (m' := [(1, (⟨True, 25, 3, true, false, 1, [[.d (iv nx), .d (.sl 7 ((pre ++ x :: post).map tradeC)), .d (.sl 4 (ps.map posC))]]⟩ : ARow))]) ?_ ?_ ?_ ?_, pre ++ [x], post, by simp, by rw [hck, chkR_step, hs]; simp, rfl, rfl⟩
            · simp only [leV, look_cons, Nat.reduceBEq, cond_true, cond_false, len_map, wrap_len pre x (by simp at ht; omega)]; exact ⟨VLe.refl _, VLe.refl _, trivial⟩
            · exact ⟨fun _ => ⟨_, rfl, ⟨id, rfl, rfl, fun _ => rfl, id, .inl, VLess.refl _⟩⟩, fun h => by simp at h, trivial⟩
            · simp [wfV, AV.ids, AV.idsL, lookR]
            · simp [wfR, AV.idsL, AV.ids]
        · intro hb
          obtain rfl := none_of hb; clear hb
          simp only [List.append_nil] at hck ht hd ⊢
          have hk1 := hck; clear hck
          obtain ⟨ts, ets⟩ : ∃ x, x = pre := ⟨_, rfl⟩
          subst ets
          refine awp_exit ?_
          simp only [zz6, Nat.reduceEqDiff, ↓reduceIte]
          refine hK0 _ ?_; try clear hK0 K0
          refine awp_keepL [] ?_
          simp only [zz20, zzI, look_nil, Nat.reduceBEq]
          refine awp_seq fun K0 hK0 => ?_
          refine awp_plain F_mixed [some 2] rfl ?_
          simp only [List.nil_append, List.cons_append, true_and, and_true, zz0, true_implies, Nat.reduceLT, Nat.reduceLeDiff, zzI, look_nil, Nat.reduceBEq, implies_true, evS_assign, zz6, Nat.reduceEqDiff, ↓reduceIte]
          refine hK0 _ ?_; try clear hK0 K0
          refine awp_keepL [2] ?_
          simp only [zz20, zzI, look_nil, Nat.reduceBEq]
          refine awp_ret ?_
          simp only [zz6, Nat.reduceEqDiff, ↓reduceIte]
          try simp only [List.append_nil]
          refine done0 (by simp only [resCs, resC]; trivial) ?_ (by simp [flatA, flatAs, flatD]) (by simp [AV.ids, AV.idsL])
          simp only [List.map_cons, List.map_nil, resA, S_getD, Nat.reduceLT, Nat.reduceLeDiff, look_cons, Nat.reduceBEq, cond_true, cond_false, resAll]
          have e : bookOk ⟨nx, ts, ps⟩ = true := by simp only [bookOk]; rw [hk0, hk1, rb_tail hd hlv]; rfl
          rw [e]
end Go.Proofs.Ytepphpbjgnapfaa
