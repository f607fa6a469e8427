import Derived.Test.YtdgkiemehmmobaaSpecN
import Derived.Test.YtdgkiemehmmobaaBun
import Derived.Laws.Externs
import Derived.Laws.StructEq
import Derived.Laws.Tables
import Derived.KernelRfl
namespace Go.Proofs.Ytdgkiemehmmobaa
open Go.RowKit
set_option linter.unusedVariables false
set_option linter.unusedSimpArgs false
theorem F_mixed : Try.prog.follows .mixedOrders = true := by kernel_rfl
theorem F_sl103 : sliceT Try.prog 103 = some 3 := by kernel_rfl
theorem F_sz3 : szT Try.prog 3 = 1 := by kernel_rfl
theorem F_ok3 : tyOk Try.prog 3 = true := by kernel_rfl
theorem F_ag3 : aggT Try.prog 3 = false := by kernel_rfl
theorem F_ag65 : aggT Try.prog 65 = true := by kernel_rfl
theorem F_sz65 : szT Try.prog 65 = 2 := by kernel_rfl
theorem F_ok65 : tyOk Try.prog 65 = true := by kernel_rfl
theorem F_zero65 : zeroT Try.prog 65 = some [(.int .i64 0), (.int .u64 0)] := by kernel_rfl
theorem F_cv3_63 : ∀ (k : IntKind) (x : Int), pureCv Try.prog 3 63 (.int k x) = True := fun _ _ => pure_cv (by kernel_rfl) (by kernel_rfl)
theorem F_cvV63 : ∀ (k : IntKind) (x : Int), cvV Try.prog 63 (.int k x) = .int .u64 (IntKind.wrap .u64 x) := fun _ _ => by rw [show cvV Try.prog 63 = fun a => (match a with | .int _ n => .int (Try.prog.intKind 63) ((Try.prog.intKind 63).wrap n) | _ => undef) from rfl, show Try.prog.intKind 63 = .u64 from by kernel_rfl]
theorem F_bld65 : bldT Try.prog 65 = true := by kernel_rfl
theorem F_fld65_0 : fldT Try.prog 65 0 = some (0, 1) := by kernel_rfl
theorem F_fld65_1 : fldT Try.prog 65 1 = some (1, 1) := by kernel_rfl
theorem F_go51 : goFn Try.prog 51 := ⟨_, Try.func51, rfl, rfl⟩
theorem F_cv63_3 : ∀ (k : IntKind) (x : Int), pureCv Try.prog 63 3 (.int k x) = True := fun _ _ => pure_cv (by kernel_rfl) (by kernel_rfl)
theorem F_cvV3 : ∀ (k : IntKind) (x : Int), cvV Try.prog 3 (.int k x) = .int .i64 (IntKind.wrap .i64 x) := fun _ _ => by rw [show cvV Try.prog 3 = fun a => (match a with | .int _ n => .int (Try.prog.intKind 3) ((Try.prog.intKind 3).wrap n) | _ => undef) from rfl, show Try.prog.intKind 3 = .i64 from by kernel_rfl]
theorem F_off65_1 : offT Try.prog 65 1 = some 1 := by kernel_rfl
theorem F_ok63 : tyOk Try.prog 63 = true := by kernel_rfl
theorem F_ag63 : aggT Try.prog 63 = false := by kernel_rfl
theorem F_sz63 : szT Try.prog 63 = 1 := by kernel_rfl
theorem F_eqi65 (a0 b0 : Int) (a1 b1 : Int) (w : World) : (Op.equalIn 10000 65 (.agg #[.int .i64 a0, .int .u64 a1]) (.agg #[.int .i64 b0, .int .u64 b1])).run Try.prog w = .ok (veqL [.int .i64 a0, .int .u64 a1] [.int .i64 b0, .int .u64 b1]) w := by
  have u3 := Try.underlying3
  have g3 := Try.isAgg3
  have z3 := Try.sizeOf3
  have u63 := Try.underlying63
  have g63 := Try.isAgg63
  have z63 := Try.sizeOf63
  have hS : Try.prog.underlying 65 = some (.struct (Try.prog.fieldsOf 65)) := by kernel_rfl
  have hp : Try.prog.stoodInHeld 65 = false := by kernel_rfl
  rw [show (10000 : Nat) = 9999 + 1 from rfl, run_equalIn_agg w 9999 65 _ _ hS hp]
  simp only [Program.fieldsOf, Try.underlying65]
  go_simp
  by_cases h0 : a0 = b0 <;> by_cases h1 : a1 = b1 <;> simp [veqL, veq, h0, h1]
theorem F_neq65 (a0 b0 : Int) (a1 b1 : Int) (x y : Operand) : pureBin Try.prog .neq 65 x y (.agg #[.int .i64 a0, .int .u64 a1]) (.agg #[.int .i64 b0, .int .u64 b1]) = True := by
  have hm : Try.prog.eqGuardType Try.prog.depth 65 = false := by kernel_rfl
  simp only [pureBin, Pure, eq_iff_iff, iff_true]
  intro w
  simp only [Sem.run_bind, run_eqGuard_agg w .neq 65 x y _ _ hm, Result.andThen_ok, run_neq_struct, F_eqi65, binV]
theorem F_zero3 : zeroT Try.prog 3 = some [(.int .i64 0)] := by kernel_rfl
theorem F_go55 : goFn Try.prog 55 := ⟨_, Try.func55, rfl, rfl⟩
theorem F_go29 : goFn Try.prog 29 := ⟨_, Try.func29, rfl, rfl⟩
theorem F_sl62 : sliceT Try.prog 62 = some 65 := by kernel_rfl
theorem F_off65_0 : offT Try.prog 65 0 = some 0 := by kernel_rfl
theorem F_off25_1 : offT Try.prog 25 1 = some 2 := by kernel_rfl
theorem F_off25_2 : offT Try.prog 25 2 = some 3 := by kernel_rfl
theorem F_go31 : goFn Try.prog 31 := ⟨_, Try.func31, rfl, rfl⟩
theorem F_go30 : goFn Try.prog 30 := ⟨_, Try.func30, rfl, rfl⟩
theorem F_go32 : goFn Try.prog 32 := ⟨_, Try.func32, rfl, rfl⟩
theorem F_zero23 : zeroT Try.prog 23 = some [(.int .i64 0), (.int .i64 0)] := by kernel_rfl
theorem F_bld23 : bldT Try.prog 23 = true := by kernel_rfl
theorem F_fld23_0 : fldT Try.prog 23 0 = some (0, 1) := by kernel_rfl
theorem F_fld23_1 : fldT Try.prog 23 1 = some (1, 1) := by kernel_rfl
theorem F_zero25 : zeroT Try.prog 25 = some [(.int .i64 0), (.int .i64 0), (.int .i64 0), (.int .i64 0)] := by kernel_rfl
theorem F_bld25 : bldT Try.prog 25 = true := by kernel_rfl
theorem F_fld25_0 : fldT Try.prog 25 0 = some (0, 2) := by kernel_rfl
theorem F_fld25_1 : fldT Try.prog 25 1 = some (2, 1) := by kernel_rfl
theorem F_fld25_2 : fldT Try.prog 25 2 = some (3, 1) := by kernel_rfl
theorem F_go8 : goFn Try.prog 8 := ⟨_, Try.func8, rfl, rfl⟩
theorem F_off33_4 : offT Try.prog 33 4 = some 4 := by kernel_rfl
theorem F_off33_5 : offT Try.prog 33 5 = some 5 := by kernel_rfl
theorem add64 (x y c : Int) (hx : 0 ≤ x) (hy : 0 ≤ y) (hc0 : 0 ≤ c) (hc : c ≤ 1) : extOk Try.prog 54 [.int .u64 x, .int .u64 y, .int .u64 c] (.tuple #[.int .u64 ((x + y + c) % 18446744073709551616), .int .u64 ((x + y + c) / 18446744073709551616)]) := fun w => by
  rw [run_callFunc_extern Try.func54 (by kernel_rfl) (by kernel_rfl) (by kernel_rfl) (e := add64Entry) (by kernel_rfl), run_add64 x y c hx hy hc0 hc]
  rfl
theorem Right_ (l : List Int) (hl : l.length < 4611686018427387904) : ACalls Try.prog 29 [ints l] [] (bv (l.all rightN)) := by
  refine acalls_S (rs := [.tmp 2]) Try.func29 rfl rfl 18 [(0, .d (ints l))] rfl (by simp) rfl ?_
  refine awp_seq fun K0 hK0 => ?_
  refine awp_plain F_mixed [some 2] rfl ?_
  simp only [zzK, Nat.reduceLT, Nat.reduceLeDiff, Nat.reduceBEq, evS_assign, zz6, Nat.reduceEqDiff, ↓reduceIte]
  refine hK0 _ ?_; try clear hK0 K0
  refine awp_keepL [0] ?_
  simp only [zzJ, Nat.reduceBEq]
  refine awp_seq fun K0 hK0 => ?_
  refine awp_seq fun K1 hK1 => ?_
  refine awp_plain F_mixed [some 5, some 6, some 7] rfl ?_
  simp only [zzK, Nat.reduceLT, Nat.reduceLeDiff, Nat.reduceBEq, evS_move, evS_call, zz12, F_sl103, Option.isSome_some, ints, len_map, zz6, Nat.reduceEqDiff, ↓reduceIte]
  refine hK1 _ ?_; try clear hK1 K1
  refine awp_keepL [5, 6, 7] ?_
  simp only [zzJ, Nat.reduceBEq]
  refine awp_block ?_
  refine awp_loop (fun m s => ∃ pre post : List Int, l = pre ++ post ∧ pre.all rightN = true ∧ m = post.length ∧ s = S 18 [(5, .d (ints l)), (6, .d (iv l.length)), (7, .d (iv pre.length))] []) l.length _ (le_S0 (l' := [(5, .d (ints l)), (6, .d (iv l.length)), (7, .d (iv 0))]) ?_ ?_) ⟨[], l, rfl, rfl, rfl, rfl⟩ ?_
  · simp only [leL, look_cons, Nat.reduceBEq, cond_true, cond_false, ints, len_map]; trivial
  · simp [wfV, AV.ids]
  rintro m s ⟨pre, post, rfl, hp, rfl, rfl⟩
  refine awp_seq fun K2 hK2 => ?_
  refine awp_plain F_mixed [some 8] rfl ?_
  simp only [zzK, Nat.reduceLT, Nat.reduceLeDiff, Nat.reduceBEq, zz21, gr_v, zz22, zz6, Nat.reduceEqDiff, ↓reduceIte]
  refine hK2 _ ?_; try clear hK2 K2
  refine awp_keepL [5, 6, 7, 8] ?_
  simp only [zzJ, Nat.reduceBEq]
  refine awp_seq fun K2 hK2 => ?_
  refine awp_condS _ (by decide) (by simp only [look_cons, Nat.reduceBEq, cond_true, cond_false]; rfl) ?_ ?_
  · intro hb
    obtain ⟨x, post, rfl⟩ := more_of hb; clear hb
    refine awp_skip ?_
    simp only [zz6, Nat.reduceEqDiff, ↓reduceIte]
    refine hK2 _ ?_; try clear hK2 K2
    refine awp_keepL [5, 6, 7] ?_
    simp only [zzJ, Nat.reduceBEq]
    refine awp_seq fun K2 hK2 => ?_
    refine awp_block ?_
    refine awp_seq fun K3 hK3 => ?_
    refine awp_plain F_mixed [some 9, some 10, some 4] rfl ?_
    simp only [zzK, Nat.reduceLT, Nat.reduceLeDiff, Nat.reduceBEq, evS_indexAddr, zz23, zz24, F_sl103, F_sz3, Option.map_some, zzC, yyE, reduceCtorEq, F_ok3, F_ag3, zz8, zzD, Nat.reduceAdd, Nat.zero_add, zzH, evS_assign, ints, getD_mid, len_map, lt_mid, ge_mid, zz6, Nat.reduceEqDiff, ↓reduceIte]
    refine hK3 _ ?_; try clear hK3 K3
    refine awp_keepL [4, 5, 6, 7] ?_
    simp only [zzJ, Nat.reduceBEq]
    refine awp_seq fun K3 hK3 => ?_
    refine awp_plain F_mixed [some 11, some 12, some 13, some 14, some 15, some 16] rfl ?_
    simp only [zzK, Nat.reduceLT, Nat.reduceLeDiff, Nat.reduceBEq, Nat.reduceSub, S_getD, zz5, and_imp, imp_and, imp_self, and_self, evS_move, zz21, gr_v, zz22, zz25, zz13, pickK_l, pickK_r, zz6, Nat.reduceEqDiff, ↓reduceIte]
    refine hK3 _ ?_; try clear hK3 K3
    refine awp_keepL [5, 6, 7, 16] ?_
    simp only [zzJ, Nat.reduceBEq]
    refine awp_condS _ (by decide) (by simp only [look_cons, Nat.reduceBEq, cond_true, cond_false]; rfl) ?_ ?_
    · intro hb
      refine awp_seq fun K4 hK4 => ?_
      refine awp_plain F_mixed [some 2] rfl ?_
      simp only [zzK, Nat.reduceLT, Nat.reduceLeDiff, Nat.reduceBEq, evS_assign, zz6, Nat.reduceEqDiff, ↓reduceIte]
      refine hK4 _ ?_; try clear hK4 K4
      refine awp_keepL [2] ?_
      simp only [zzJ, Nat.reduceBEq]
      refine awp_ret ?_
      simp only [zz6, Nat.reduceEqDiff, ↓reduceIte]
      refine done0 (by simp only [resCs, resC]; trivial) ?_ (by simp [flatA, flatAs, flatD]) (by simp [AV.ids, AV.idsL])
      simp only [List.map_cons, List.map_nil, resA, S_getD, Nat.reduceLT, Nat.reduceLeDiff, look_cons, Nat.reduceBEq, cond_true, cond_false, resAll]
      simp only [List.all_append, List.all_cons, rightN, hb]; simp
    · intro hb
      refine awp_skip ?_
      simp only [zz6, Nat.reduceEqDiff, ↓reduceIte]
      refine hK2 _ ?_; try clear hK2 K2
      refine awp_keepL [5, 6, 7] ?_
      simp only [zzJ, Nat.reduceBEq]
      refine awp_plain F_mixed [some 17, some 7] rfl ?_
      simp only [zzK, Nat.reduceLT, Nat.reduceLeDiff, Nat.reduceBEq, zz21, gr_v, zz26, evS_move, zz6, Nat.reduceEqDiff, ↓reduceIte]
      refine ⟨post.length, _, by simp, le_S0 (l' := [(5, .d (ints (pre ++ x :: post))), (6, .d (iv (pre ++ x :: post).length)), (7, .d (iv (pre ++ [x]).length))]) ?_ ?_, pre ++ [x], post, by simp, by simp [hp, rightN, hb], rfl, rfl⟩
      · simp only [leL, look_cons, Nat.reduceBEq, cond_true, cond_false, wrap_len pre x (by simp at hl; omega), ints]; trivial
      · simp [wfV, AV.ids]
  · intro hb
    obtain rfl := none_of hb; clear hb
    refine awp_exit ?_
    simp only [zz6, Nat.reduceEqDiff, ↓reduceIte]
    refine hK0 _ ?_; try clear hK0 K0
    refine awp_keepL [] ?_
    simp only [zzJ, Nat.reduceBEq]
    refine awp_seq fun K0 hK0 => ?_
    refine awp_plain F_mixed [some 2] rfl ?_
    simp only [zzK, Nat.reduceLT, Nat.reduceLeDiff, Nat.reduceBEq, evS_assign, zz6, Nat.reduceEqDiff, ↓reduceIte]
    refine hK0 _ ?_; try clear hK0 K0
    refine awp_keepL [2] ?_
    simp only [zzJ, Nat.reduceBEq]
    refine awp_ret ?_
    simp only [zz6, Nat.reduceEqDiff, ↓reduceIte]
    refine done0 (by simp only [resCs, resC]; trivial) ?_ (by simp [flatA, flatAs, flatD]) (by simp [AV.ids, AV.idsL])
    simp only [List.map_cons, List.map_nil, resA, S_getD, Nat.reduceLT, Nat.reduceLeDiff, look_cons, Nat.reduceBEq, cond_true, cond_false, resAll]
    simp only [List.append_nil, hp]
theorem Mul64_ (x y : Int) (h0 : 0 ≤ x) (h1 : x < 18446744073709551616) (k0 : 0 ≤ y) (k1 : y < 18446744073709551616) : ACalls Try.prog 51 [.v (.int .u64 x), .v (.int .u64 y)] [] (.tp [.d (.v (.int .u64 (x * y / 18446744073709551616))), .d (.v (.int .u64 (x * y % 18446744073709551616)))]) := by
  refine acalls_S (rs := [.tmp 4, .tmp 5]) Try.func51 rfl rfl 51 [(0, .d (.v (.int .u64 x))), (1, .d (.v (.int .u64 y)))] rfl (by simp) rfl ?_
  refine awp_seq fun K0 hK0 => ?_
  refine awp_plain F_mixed [some 4, some 5] rfl ?_
  simp only [zzK, Nat.reduceLT, Nat.reduceLeDiff, Nat.reduceBEq, evS_assign, zz6, Nat.reduceEqDiff, ↓reduceIte]
  refine hK0 _ ?_; try clear hK0 K0
  refine awp_keepL [0, 1] ?_
  simp only [zzJ, Nat.reduceBEq]
  refine awp_seq fun K0 hK0 => ?_
  refine awp_plain F_mixed [some 14, some 15, some 6] rfl ?_
  simp only [zzK, Nat.reduceLT, Nat.reduceLeDiff, Nat.reduceBEq, evS_move, zz21, gr_v, b_and, pure_and, evS_assign, mask32 h0 h1, zz6, Nat.reduceEqDiff, ↓reduceIte]
  refine hK0 _ ?_; try clear hK0 K0
  refine awp_keepL [0, 1, 6] ?_
  simp only [zzJ, Nat.reduceBEq]
  refine awp_seq fun K0 hK0 => ?_
  refine awp_plain F_mixed [some 16, some 17, some 7] rfl ?_
  simp only [zzK, Nat.reduceLT, Nat.reduceLeDiff, Nat.reduceBEq, evS_move, zz21, gr_v, b_shr, pure_shr, Int.reduceLT, not_false_eq_true, evS_assign, shr32 h0, zz6, Nat.reduceEqDiff, ↓reduceIte]
  refine hK0 _ ?_; try clear hK0 K0
  refine awp_keepL [0, 1, 6, 7] ?_
  simp only [zzJ, Nat.reduceBEq]
  refine awp_seq fun K0 hK0 => ?_
  refine awp_plain F_mixed [some 18, some 19, some 8] rfl ?_
  simp only [zzK, Nat.reduceLT, Nat.reduceLeDiff, Nat.reduceBEq, evS_move, zz21, gr_v, b_and, pure_and, evS_assign, mask32 k0 k1, zz6, Nat.reduceEqDiff, ↓reduceIte]
  refine hK0 _ ?_; try clear hK0 K0
  refine awp_keepL [0, 1, 6, 7, 8] ?_
  simp only [zzJ, Nat.reduceBEq]
  refine awp_seq fun K0 hK0 => ?_
  refine awp_plain F_mixed [some 20, some 21, some 9] rfl ?_
  simp only [zzK, Nat.reduceLT, Nat.reduceLeDiff, Nat.reduceBEq, evS_move, zz21, gr_v, b_shr, pure_shr, Int.reduceLT, not_false_eq_true, evS_assign, shr32 k0, zz6, Nat.reduceEqDiff, ↓reduceIte]
  refine hK0 _ ?_; try clear hK0 K0
  refine awp_keepL [0, 1, 6, 7, 8, 9] ?_
  simp only [zzJ, Nat.reduceBEq]
  refine awp_seq fun K0 hK0 => ?_
  refine awp_plain F_mixed [some 22, some 23, some 24, some 10] rfl ?_
  simp only [zzK, Nat.reduceLT, Nat.reduceLeDiff, Nat.reduceBEq, evS_move, zz21, gr_v, zz36, evS_assign, zz6, Nat.reduceEqDiff, ↓reduceIte]
  refine hK0 _ ?_; try clear hK0 K0
  refine awp_keepL [0, 1, 6, 7, 8, 9, 10] ?_
  simp only [zzJ, Nat.reduceBEq]
  refine awp_seq fun K0 hK0 => ?_
  refine awp_plain F_mixed [some 25, some 26, some 27, some 28, some 29, some 30, some 11] rfl ?_
  simp only [zzK, Nat.reduceLT, Nat.reduceLeDiff, Nat.reduceBEq, evS_move, zz21, gr_v, zz36, b_shr, pure_shr, Int.reduceLT, not_false_eq_true, zz26, evS_assign, shr32 (wu_nn _), zz6, Nat.reduceEqDiff, ↓reduceIte]
  refine hK0 _ ?_; try clear hK0 K0
  refine awp_keepL [0, 1, 6, 7, 9, 11] ?_
  simp only [zzJ, Nat.reduceBEq]
  refine awp_seq fun K0 hK0 => ?_
  refine awp_plain F_mixed [some 31, some 32, some 12] rfl ?_
  simp only [zzK, Nat.reduceLT, Nat.reduceLeDiff, Nat.reduceBEq, evS_move, zz21, gr_v, b_and, pure_and, evS_assign, mask32 (wu_nn _) (wu_lt _), zz6, Nat.reduceEqDiff, ↓reduceIte]
  refine hK0 _ ?_; try clear hK0 K0
  refine awp_keepL [0, 1, 6, 7, 9, 11, 12] ?_
  simp only [zzJ, Nat.reduceBEq]
  refine awp_seq fun K0 hK0 => ?_
  refine awp_plain F_mixed [some 33, some 34, some 13] rfl ?_
  simp only [zzK, Nat.reduceLT, Nat.reduceLeDiff, Nat.reduceBEq, evS_move, zz21, gr_v, b_shr, pure_shr, Int.reduceLT, not_false_eq_true, evS_assign, shr32 (wu_nn _), zz6, Nat.reduceEqDiff, ↓reduceIte]
  refine hK0 _ ?_; try clear hK0 K0
  refine awp_keepL [0, 1, 6, 7, 9, 12, 13] ?_
  simp only [zzJ, Nat.reduceBEq]
  refine awp_seq fun K0 hK0 => ?_
  refine awp_plain F_mixed [some 35, some 36, some 37, some 38, some 39, some 12] rfl ?_
  simp only [zzK, Nat.reduceLT, Nat.reduceLeDiff, Nat.reduceBEq, evS_move, zz21, gr_v, zz36, zz26, evS_assign, zz6, Nat.reduceEqDiff, ↓reduceIte]
  refine hK0 _ ?_; try clear hK0 K0
  refine awp_keepL [0, 1, 7, 9, 12, 13] ?_
  simp only [zzJ, Nat.reduceBEq]
  refine awp_seq fun K0 hK0 => ?_
  refine awp_plain F_mixed [some 40, some 41, some 42, some 43, some 44, some 45, some 46, some 47, some 4] rfl ?_
  simp only [zzK, Nat.reduceLT, Nat.reduceLeDiff, Nat.reduceBEq, evS_move, zz21, gr_v, zz36, zz26, b_shr, pure_shr, Int.reduceLT, not_false_eq_true, evS_assign, shr32 (wu_nn _), zz6, Nat.reduceEqDiff, ↓reduceIte]
  refine hK0 _ ?_; try clear hK0 K0
  refine awp_keepL [0, 1, 4] ?_
  simp only [zzJ, Nat.reduceBEq]
  refine awp_seq fun K0 hK0 => ?_
  refine awp_plain F_mixed [some 48, some 49, some 50, some 5] rfl ?_
  simp only [zzK, Nat.reduceLT, Nat.reduceLeDiff, Nat.reduceBEq, evS_move, zz21, gr_v, zz36, evS_assign, zz6, Nat.reduceEqDiff, ↓reduceIte]
  refine hK0 _ ?_; try clear hK0 K0
  refine awp_keepL [4, 5] ?_
  simp only [zzJ, Nat.reduceBEq]
  refine awp_ret ?_
  simp only [zz6, Nat.reduceEqDiff, ↓reduceIte]
  refine done0 (by simp only [resCs, resC]; trivial) ?_ (by simp [flatA, flatAs, flatD]) (by simp [AV.ids, AV.idsL])
  simp only [List.map_cons, List.map_nil, resA, S_getD, Nat.reduceLT, Nat.reduceLeDiff, look_cons, Nat.reduceBEq, cond_true, cond_false, resAll]
  rw [show x * y / 18446744073709551616 = hi64 x y from (hi64_eq h0 h1 k0 k1).symm, show x * y % 18446744073709551616 = IntKind.wrap .u64 (x * y) from (wrapU_ _).symm]; rfl
theorem wOf_ (n : Int) (h0 : -9223372036854775808 ≤ n) (h1 : n < 9223372036854775808) : ACalls Try.prog 55 [iv n] [] (wideA n) := by
  refine acalls_S (rs := [.cell 2 65]) Try.func55 rfl rfl 8 [(0, .d (iv n))] rfl (by simp) rfl ?_
  refine awp_seq fun K0 hK0 => ?_
  refine awp_plain F_mixed [some 2] rfl ?_
  simp only [zzK, Nat.reduceLT, Nat.reduceLeDiff, Nat.reduceBEq, zz32, newRow1, F_zero65, zzC, Option.map_some, yyE, reduceCtorEq, zzD, Nat.reduceAdd, Nat.zero_add, zzH, zz10, zz6, Nat.reduceEqDiff, ↓reduceIte]
  refine hK0 _ ?_; try clear hK0 K0
  refine awp_keepL [0, 2] ?_
  simp only [zzJ, Nat.reduceBEq]
  refine awp_seq fun K0 hK0 => ?_
  refine awp_plain F_mixed [some 3, some 4, some 5, some 6, some 7, none] rfl ?_
  simp only [zzK, Nat.reduceLT, Nat.reduceLeDiff, Nat.reduceBEq, evS_move, zz21, gr_v, b_shr, pure_shr, Int.reduceLT, not_false_eq_true, zz27, F_cv3_63, F_cvV63, F_zero65, F_bld65, zz7, splice, Option.getD_some, List.append_nil, zz1, zzG, zzD, zzC, Option.map_some, yyE, reduceCtorEq, Nat.reduceAdd, Nat.zero_add, zzH, zz10, F_fld65_0, F_fld65_1, zz18, F_ok65, F_sz65, zz6, Nat.reduceEqDiff, ↓reduceIte]
  refine hK0 _ ?_; try clear hK0 K0
  refine awp_keepL [2] ?_
  simp only [zzJ, Nat.reduceBEq]
  refine awp_ret ?_
  simp only [zz6, Nat.reduceEqDiff, ↓reduceIte]
  refine done0 (by simp [resCs, resC, S, List.getD, look_cons, lookR, F_ag65, F_sz65, F_ok65]) ?_ (by simp [flatA, flatAs, flatD, wideA]) (by simp [AV.ids, AV.idsL, wideA])
  simp only [List.map_cons, List.map_nil, resA, S_getD, S_mem, lookR_cons, lookR_nil, Nat.reduceLT, Nat.reduceLeDiff, look_cons, Nat.reduceBEq, cond_true, cond_false, resAll, List.getD_cons_zero, List.getD_cons_succ, List.drop_zero, List.drop_succ_cons, List.take_succ_cons, List.take_zero, F_ag65, F_sz65, F_ok65]
  rw [wideA_shr h0 h1]
theorem Times_ (a b : Int) (h0 : -9223372036854775808 ≤ a) (h1 : a < 9223372036854775808) (k0 : -9223372036854775808 ≤ b) (k1 : b < 9223372036854775808) : ACalls Try.prog 31 [iv a, iv b] [] (wideA (a * b)) := by
  refine acalls_S (rs := [.cell 4 65]) Try.func31 rfl rfl 31 [(0, .d (iv a)), (1, .d (iv b))] rfl (by simp) rfl ?_
  have he := times_eq h0 h1 k0 k1
  have h2 : wideA (a * b) = .ag [.d (iv (IntKind.wrap .i64 (timesHi a b))), .d (.v (.int .u64 (IntKind.wrap .u64 a * IntKind.wrap .u64 b % 18446744073709551616)))] := by
    rw [he.1, he.2]; rfl
  unfold timesHi at h2
  refine awp_seq fun K0 hK0 => ?_
  refine awp_plain F_mixed [some 4] rfl ?_
  simp only [zzK, Nat.reduceLT, Nat.reduceLeDiff, Nat.reduceBEq, zz32, newRow1, F_zero65, zzC, Option.map_some, yyE, reduceCtorEq, zzD, Nat.reduceAdd, Nat.zero_add, zzH, zz10, zz6, Nat.reduceEqDiff, ↓reduceIte]
  refine hK0 _ ?_; try clear hK0 K0
  refine awp_keepL [0, 1, 4] ?_
  simp only [zzJ, Nat.reduceBEq]
  refine awp_seq fun K0 hK0 => ?_
  refine awp_plain F_mixed [some 8, some 9, some 10, some 11, some 12, some 7, some 13, some 14, some 5, some 6] rfl ?_
  simp only [zzK, Nat.reduceLT, Nat.reduceLeDiff, Nat.reduceBEq, evS_move, zz27, gr_v, F_cv3_63, F_cvV63, evS_call, evC_value, zz14, zzD, Nat.reduceAdd, Nat.zero_add, zzF, evS_assign, zz6, Nat.reduceEqDiff, ↓reduceIte]
  refine call_go F_go51 (fun hG => Mul64_ (IntKind.wrap .u64 a) (IntKind.wrap .u64 b) (wu_nn _) (wu_lt _) (wu_nn _) (wu_lt _)) (by simp [AV.ids, AV.idsL]) (by simp) ?_
  simp only [zzK, Nat.reduceLT, Nat.reduceLeDiff, Nat.reduceBEq, evS_move, zz27, gr_v, F_cv3_63, F_cvV63, evS_call, evC_value, zz14, zzD, Nat.reduceAdd, Nat.zero_add, zzF, evS_assign, zz6, Nat.reduceEqDiff, ↓reduceIte, atsL, oksG, freeN, AV.ren, AV.renL, addRows, ORow.row, Nat.reduceMul, Nat.reduceAdd, zz9, Option.bind_some, Option.map_some, zzC, yyF, List.length_cons, zz2]
  refine hK0 _ ?_; try clear hK0 K0
  refine awp_keepL [0, 1, 4, 5, 6] ?_
  simp only [zzJ, Nat.reduceBEq]
  refine awp_seq fun K0 hK0 => ?_
  refine awp_seq fun K1 hK1 => ?_
  refine awp_plain F_mixed [some 15, some 16] rfl ?_
  simp only [zzK, Nat.reduceLT, Nat.reduceLeDiff, Nat.reduceBEq, evS_move, zz21, gr_v, zz22, zz6, Nat.reduceEqDiff, ↓reduceIte]
  refine hK1 _ ?_; try clear hK1 K1
  refine awp_keepL [0, 1, 4, 5, 6, 16] ?_
  simp only [zzJ, Nat.reduceBEq]
  refine awp_condS _ (by decide) (by simp only [look_cons, Nat.reduceBEq, cond_true, cond_false]; rfl) ?_ ?_
  · intro hb
    simp only [decide_eq_true_eq] at hb
    simp only [hb, if_true] at h2
    refine awp_plain F_mixed [some 17, some 18, some 19, some 20, some 5] rfl ?_
    simp only [zzK, Nat.reduceLT, Nat.reduceLeDiff, Nat.reduceBEq, evS_move, zz27, gr_v, F_cv3_63, F_cvV63, zz21, zz33, evS_assign, zz6, Nat.reduceEqDiff, ↓reduceIte]
    refine hK0 _ ?_; try clear hK0 K0
    refine awp_keepL [0, 1, 4, 5, 6] ?_
    simp only [zzJ, Nat.reduceBEq]
    refine awp_seq fun K0 hK0 => ?_
    refine awp_seq fun K1 hK1 => ?_
    refine awp_plain F_mixed [some 21, some 22] rfl ?_
    simp only [zzK, Nat.reduceLT, Nat.reduceLeDiff, Nat.reduceBEq, evS_move, zz21, gr_v, zz22, zz6, Nat.reduceEqDiff, ↓reduceIte]
    refine hK1 _ ?_; try clear hK1 K1
    refine awp_keepL [0, 4, 5, 6, 22] ?_
    simp only [zzJ, Nat.reduceBEq]
    refine awp_condS _ (by decide) (by simp only [look_cons, Nat.reduceBEq, cond_true, cond_false]; rfl) ?_ ?_
    · intro hb
      simp only [decide_eq_true_eq] at hb
      simp only [hb, if_true] at h2
      refine awp_plain F_mixed [some 23, some 24, some 25, some 26, some 5] rfl ?_
      simp only [zzK, Nat.reduceLT, Nat.reduceLeDiff, Nat.reduceBEq, evS_move, zz27, gr_v, F_cv3_63, F_cvV63, zz21, zz33, evS_assign, zz6, Nat.reduceEqDiff, ↓reduceIte]
      refine hK0 _ ?_; try clear hK0 K0
      refine awp_keepL [4, 5, 6] ?_
      simp only [zzJ, Nat.reduceBEq]
      refine awp_seq fun K0 hK0 => ?_
      refine awp_plain F_mixed [some 27, some 28, some 29, some 30, none] rfl ?_
      simp only [zzK, Nat.reduceLT, Nat.reduceLeDiff, Nat.reduceBEq, evS_move, zz27, gr_v, F_cv63_3, F_cvV3, F_zero65, F_bld65, zz7, splice, Option.getD_some, List.append_nil, zz1, zzG, zzD, zzC, Option.map_some, yyE, reduceCtorEq, Nat.reduceAdd, Nat.zero_add, zzH, zz10, F_fld65_0, F_fld65_1, zz18, F_ok65, F_sz65, zz6, Nat.reduceEqDiff, ↓reduceIte]
      refine hK0 _ ?_; try clear hK0 K0
      refine awp_keepL [4] ?_
      simp only [zzJ, Nat.reduceBEq]
      refine awp_ret ?_
      simp only [zz6, Nat.reduceEqDiff, ↓reduceIte]
      refine done0 (by simp [resCs, resC, S, List.getD, look_cons, lookR, F_ag65, F_sz65, F_ok65]) ?_ (by simp [flatA, flatAs, flatD, wideA]) (by simp [AV.ids, AV.idsL, wideA])
      simp only [List.map_cons, List.map_nil, resA, S_getD, S_mem, lookR_cons, lookR_nil, Nat.reduceLT, Nat.reduceLeDiff, look_cons, Nat.reduceBEq, cond_true, cond_false, resAll, List.getD_cons_zero, List.getD_cons_succ, List.drop_zero, List.drop_succ_cons, List.take_succ_cons, List.take_zero, F_ag65, F_sz65, F_ok65]
      rw [h2]
    · intro hb
      simp only [decide_eq_false_iff_not] at hb
      simp only [hb, if_false] at h2
      refine awp_skip ?_
      simp only [zz6, Nat.reduceEqDiff, ↓reduceIte]
      refine hK0 _ ?_; try clear hK0 K0
      refine awp_keepL [4, 5, 6] ?_
      simp only [zzJ, Nat.reduceBEq]
      refine awp_seq fun K0 hK0 => ?_
      refine awp_plain F_mixed [some 27, some 28, some 29, some 30, none] rfl ?_
      simp only [zzK, Nat.reduceLT, Nat.reduceLeDiff, Nat.reduceBEq, evS_move, zz27, gr_v, F_cv63_3, F_cvV3, F_zero65, F_bld65, zz7, splice, Option.getD_some, List.append_nil, zz1, zzG, zzD, zzC, Option.map_some, yyE, reduceCtorEq, Nat.reduceAdd, Nat.zero_add, zzH, zz10, F_fld65_0, F_fld65_1, zz18, F_ok65, F_sz65, zz6, Nat.reduceEqDiff, ↓reduceIte]
      refine hK0 _ ?_; try clear hK0 K0
      refine awp_keepL [4] ?_
      simp only [zzJ, Nat.reduceBEq]
      refine awp_ret ?_
      simp only [zz6, Nat.reduceEqDiff, ↓reduceIte]
      refine done0 (by simp [resCs, resC, S, List.getD, look_cons, lookR, F_ag65, F_sz65, F_ok65]) ?_ (by simp [flatA, flatAs, flatD, wideA]) (by simp [AV.ids, AV.idsL, wideA])
      simp only [List.map_cons, List.map_nil, resA, S_getD, S_mem, lookR_cons, lookR_nil, Nat.reduceLT, Nat.reduceLeDiff, look_cons, Nat.reduceBEq, cond_true, cond_false, resAll, List.getD_cons_zero, List.getD_cons_succ, List.drop_zero, List.drop_succ_cons, List.take_succ_cons, List.take_zero, F_ag65, F_sz65, F_ok65]
      rw [h2]
  · intro hb
    simp only [decide_eq_false_iff_not] at hb
    simp only [hb, if_false] at h2
    refine awp_skip ?_
    simp only [zz6, Nat.reduceEqDiff, ↓reduceIte]
    refine hK0 _ ?_; try clear hK0 K0
    refine awp_keepL [0, 1, 4, 5, 6] ?_
    simp only [zzJ, Nat.reduceBEq]
    refine awp_seq fun K0 hK0 => ?_
    refine awp_seq fun K1 hK1 => ?_
    refine awp_plain F_mixed [some 21, some 22] rfl ?_
    simp only [zzK, Nat.reduceLT, Nat.reduceLeDiff, Nat.reduceBEq, evS_move, zz21, gr_v, zz22, zz6, Nat.reduceEqDiff, ↓reduceIte]
    refine hK1 _ ?_; try clear hK1 K1
    refine awp_keepL [0, 4, 5, 6, 22] ?_
    simp only [zzJ, Nat.reduceBEq]
    refine awp_condS _ (by decide) (by simp only [look_cons, Nat.reduceBEq, cond_true, cond_false]; rfl) ?_ ?_
    · intro hb
      simp only [decide_eq_true_eq] at hb
      simp only [hb, if_true] at h2
      refine awp_plain F_mixed [some 23, some 24, some 25, some 26, some 5] rfl ?_
      simp only [zzK, Nat.reduceLT, Nat.reduceLeDiff, Nat.reduceBEq, evS_move, zz27, gr_v, F_cv3_63, F_cvV63, zz21, zz33, evS_assign, zz6, Nat.reduceEqDiff, ↓reduceIte]
      refine hK0 _ ?_; try clear hK0 K0
      refine awp_keepL [4, 5, 6] ?_
      simp only [zzJ, Nat.reduceBEq]
      refine awp_seq fun K0 hK0 => ?_
      refine awp_plain F_mixed [some 27, some 28, some 29, some 30, none] rfl ?_
      simp only [zzK, Nat.reduceLT, Nat.reduceLeDiff, Nat.reduceBEq, evS_move, zz27, gr_v, F_cv63_3, F_cvV3, F_zero65, F_bld65, zz7, splice, Option.getD_some, List.append_nil, zz1, zzG, zzD, zzC, Option.map_some, yyE, reduceCtorEq, Nat.reduceAdd, Nat.zero_add, zzH, zz10, F_fld65_0, F_fld65_1, zz18, F_ok65, F_sz65, zz6, Nat.reduceEqDiff, ↓reduceIte]
      refine hK0 _ ?_; try clear hK0 K0
      refine awp_keepL [4] ?_
      simp only [zzJ, Nat.reduceBEq]
      refine awp_ret ?_
      simp only [zz6, Nat.reduceEqDiff, ↓reduceIte]
      refine done0 (by simp [resCs, resC, S, List.getD, look_cons, lookR, F_ag65, F_sz65, F_ok65]) ?_ (by simp [flatA, flatAs, flatD, wideA]) (by simp [AV.ids, AV.idsL, wideA])
      simp only [List.map_cons, List.map_nil, resA, S_getD, S_mem, lookR_cons, lookR_nil, Nat.reduceLT, Nat.reduceLeDiff, look_cons, Nat.reduceBEq, cond_true, cond_false, resAll, List.getD_cons_zero, List.getD_cons_succ, List.drop_zero, List.drop_succ_cons, List.take_succ_cons, List.take_zero, F_ag65, F_sz65, F_ok65]
      rw [h2]
    · intro hb
      simp only [decide_eq_false_iff_not] at hb
      simp only [hb, if_false] at h2
      refine awp_skip ?_
      simp only [zz6, Nat.reduceEqDiff, ↓reduceIte]
      refine hK0 _ ?_; try clear hK0 K0
      refine awp_keepL [4, 5, 6] ?_
      simp only [zzJ, Nat.reduceBEq]
      refine awp_seq fun K0 hK0 => ?_
      refine awp_plain F_mixed [some 27, some 28, some 29, some 30, none] rfl ?_
      simp only [zzK, Nat.reduceLT, Nat.reduceLeDiff, Nat.reduceBEq, evS_move, zz27, gr_v, F_cv63_3, F_cvV3, F_zero65, F_bld65, zz7, splice, Option.getD_some, List.append_nil, zz1, zzG, zzD, zzC, Option.map_some, yyE, reduceCtorEq, Nat.reduceAdd, Nat.zero_add, zzH, zz10, F_fld65_0, F_fld65_1, zz18, F_ok65, F_sz65, zz6, Nat.reduceEqDiff, ↓reduceIte]
      refine hK0 _ ?_; try clear hK0 K0
      refine awp_keepL [4] ?_
      simp only [zzJ, Nat.reduceBEq]
      refine awp_ret ?_
      simp only [zz6, Nat.reduceEqDiff, ↓reduceIte]
      refine done0 (by simp [resCs, resC, S, List.getD, look_cons, lookR, F_ag65, F_sz65, F_ok65]) ?_ (by simp [flatA, flatAs, flatD, wideA]) (by simp [AV.ids, AV.idsL, wideA])
      simp only [List.map_cons, List.map_nil, resA, S_getD, S_mem, lookR_cons, lookR_nil, Nat.reduceLT, Nat.reduceLeDiff, look_cons, Nat.reduceBEq, cond_true, cond_false, resAll, List.getD_cons_zero, List.getD_cons_succ, List.drop_zero, List.drop_succ_cons, List.take_succ_cons, List.take_zero, F_ag65, F_sz65, F_ok65]
      rw [h2]
theorem wInt_ (t : Int) : ACalls Try.prog 32 [.agg (wideC t)] [] (.tp [.d (iv (bif rightN t then t else 0)), .d (iv (bif rightN t then 0 else 1))]) := by
  refine acalls_S (rs := [.tmp 2, .tmp 3]) Try.func32 rfl rfl 19 [(0, .d (.agg (wideC t)))] rfl (by simp) rfl ?_
  refine awp_seq fun K0 hK0 => ?_
  refine awp_plain F_mixed [some 1, some 2, some 3] rfl ?_
  simp only [zzK, Nat.reduceLT, Nat.reduceLeDiff, Nat.reduceBEq, zz35, newRow1, zz1, zzG, zzD, zzC, Option.map_some, yyE, reduceCtorEq, Nat.reduceAdd, Nat.zero_add, zzH, evS_assign, wideC, zz6, Nat.reduceEqDiff, ↓reduceIte]
  refine hK0 _ ?_; try clear hK0 K0
  refine awp_keepL [1] ?_
  simp only [zzJ, Nat.reduceBEq]
  refine awp_seq fun K0 hK0 => ?_
  refine awp_plain F_mixed [some 5, some 6, some 7, some 4] rfl ?_
  simp only [zzK, Nat.reduceLT, Nat.reduceLeDiff, Nat.reduceBEq, zz19, zz23, F_off65_1, zzH, Nat.zero_add, Nat.reduceAdd, F_ok63, F_ag63, F_sz63, zz8, zzD, zzC, Option.map_some, yyE, reduceCtorEq, zz27, gr_v, F_cv63_3, F_cvV3, evS_assign, zz6, Nat.reduceEqDiff, ↓reduceIte]
  refine hK0 _ ?_; try clear hK0 K0
  refine awp_keepL [1, 4] ?_
  simp only [zzJ, Nat.reduceBEq]
  refine awp_seq fun K0 hK0 => ?_
  refine awp_seq fun K1 hK1 => ?_
  refine awp_draw F_mixed [some 8, some 9, some 10, some 11, some 12, some 13, some 14, some 15, some 16, some 17] rfl (by kernel_rfl) ?_
  simp only [zzK, Nat.reduceLT, Nat.reduceLeDiff, Nat.reduceBEq, Nat.reduceSub, S_getD, zz5, and_imp, imp_and, imp_self, F_ok65, F_ag65, F_sz65, zz8, zz23, zzD, Nat.reduceAdd, Nat.zero_add, zzH, zzC, Option.map_some, yyE, reduceCtorEq, evS_move, evS_call, evC_value, zz21, gr_v, gr_ag, gr_agg, grL_cons, grL_nil, grD_cons, grD_nil, b_eqla, b_neqa, F_neq65, F_sl103, F_zero3, F_sz3, zz3, newRow1, zz1, zzG, maxLen_le, Nat.reduceMul, zz29, zz30, zz13, pickK_l, pickK_r, wideA, wideC, ints, List.map_cons, zz6, Nat.reduceEqDiff, ↓reduceIte]
  refine call_go F_go55 (fun hG => wOf_ (IntKind.wrap .i64 (t % 18446744073709551616)) (wI0 _) (wI1 _)) (by simp [AV.ids, AV.idsL, wideA, wideC]) (by simp) ?_
  simp only [zzK, Nat.reduceLT, Nat.reduceLeDiff, Nat.reduceBEq, Nat.reduceSub, S_getD, zz5, and_imp, imp_and, imp_self, F_ok65, F_ag65, F_sz65, zz8, zz23, zzD, Nat.reduceAdd, Nat.zero_add, zzH, zzC, Option.map_some, yyE, reduceCtorEq, evS_move, evS_call, evC_value, zz21, gr_v, gr_ag, gr_agg, grL_cons, grL_nil, grD_cons, grD_nil, b_eqla, b_neqa, F_neq65, F_sl103, F_zero3, F_sz3, zz3, newRow1, zz1, zzG, maxLen_le, Nat.reduceMul, zz29, zz30, zz13, pickK_l, pickK_r, wideA, wideC, ints, List.map_cons, zz6, Nat.reduceEqDiff, ↓reduceIte, atsL, oksG, freeN, AV.ren, AV.renL, addRows, ORow.row, Nat.reduceMul, Nat.reduceAdd, zz9, Option.bind_some, Option.map_some, S_mem, yyF, List.length_cons, zz2]
  refine call_go F_go29 (fun hG => Right_ [IntKind.wrap .i64 (t % 18446744073709551616)] (by simp)) (by simp [AV.ids, AV.idsL, wideA, wideC]) (by simp) ?_
  simp only [zzK, Nat.reduceLT, Nat.reduceLeDiff, Nat.reduceBEq, Nat.reduceSub, S_getD, zz5, and_imp, imp_and, imp_self, F_ok65, F_ag65, F_sz65, zz8, zz23, zzD, Nat.reduceAdd, Nat.zero_add, zzH, zzC, Option.map_some, yyE, reduceCtorEq, evS_move, evS_call, evC_value, zz21, gr_v, gr_ag, gr_agg, grL_cons, grL_nil, grD_cons, grD_nil, b_eqla, b_neqa, F_neq65, F_sl103, F_zero3, F_sz3, zz3, newRow1, zz1, zzG, maxLen_le, Nat.reduceMul, zz29, zz30, zz13, pickK_l, pickK_r, wideA, wideC, ints, List.map_cons, zz6, Nat.reduceEqDiff, ↓reduceIte, atsL, oksG, freeN, AV.ren, AV.renL, addRows, ORow.row, Nat.reduceMul, Nat.reduceAdd, zz9, Option.bind_some, Option.map_some, S_mem, yyF, List.length_cons, zz2]
  refine hK1 _ ?_; try clear hK1 K1
  refine awp_keepL [4, 17] ?_
  simp only [zzJ, Nat.reduceBEq]
  refine awp_condS _ (by decide) (by simp only [look_cons, Nat.reduceBEq, cond_true, cond_false]; rfl) ?_ ?_
  · intro hb
    rw [int_law2] at hb
    simp only [Bool.not_eq_true'] at hb
    refine awp_seq fun K2 hK2 => ?_
    refine awp_plain F_mixed [some 2, some 3] rfl ?_
    simp only [zzK, Nat.reduceLT, Nat.reduceLeDiff, Nat.reduceBEq, evS_assign, zz6, Nat.reduceEqDiff, ↓reduceIte]
    refine hK2 _ ?_; try clear hK2 K2
    refine awp_keepL [2, 3] ?_
    simp only [zzJ, Nat.reduceBEq]
    refine awp_ret ?_
    simp only [zz6, Nat.reduceEqDiff, ↓reduceIte]
    refine done0 (by simp only [resCs, resC]; trivial) ?_ (by simp [flatA, flatAs, flatD]) (by simp [AV.ids, AV.idsL])
    simp only [List.map_cons, List.map_nil, resA, S_getD, Nat.reduceLT, Nat.reduceLeDiff, look_cons, Nat.reduceBEq, cond_true, cond_false, resAll]
    simp only [hb, cond_false]
  · intro hb
    rw [int_law2] at hb
    simp only [Bool.not_eq_false'] at hb
    refine awp_skip ?_
    simp only [zz6, Nat.reduceEqDiff, ↓reduceIte]
    refine hK0 _ ?_; try clear hK0 K0
    refine awp_keepL [4] ?_
    simp only [zzJ, Nat.reduceBEq]
    refine awp_seq fun K0 hK0 => ?_
    refine awp_plain F_mixed [some 18, some 2, some 3] rfl ?_
    simp only [zzK, Nat.reduceLT, Nat.reduceLeDiff, Nat.reduceBEq, evS_move, evS_assign, zz6, Nat.reduceEqDiff, ↓reduceIte]
    refine hK0 _ ?_; try clear hK0 K0
    refine awp_keepL [2, 3] ?_
    simp only [zzJ, Nat.reduceBEq]
    refine awp_ret ?_
    simp only [zz6, Nat.reduceEqDiff, ↓reduceIte]
    refine done0 (by simp only [resCs, resC]; trivial) ?_ (by simp [flatA, flatAs, flatD]) (by simp [AV.ids, AV.idsL])
    simp only [List.map_cons, List.map_nil, resA, S_getD, Nat.reduceLT, Nat.reduceLeDiff, look_cons, Nat.reduceBEq, cond_true, cond_false, resAll]
    simp only [hb, cond_true, int_val hb]
theorem wSum_ (l : List Int) (hl : l.length ≤ 1000000) (hall : ∀ x ∈ l, -170141183460469231731687303715884105728 ≤ x ∧ x < 170141183460469231731687303715884105728) : ACalls Try.prog 30 [wides l] [] (.tp [wideA (bif fitsW l.sum then l.sum else 0), .d (iv (bif fitsW l.sum then 0 else 1))]) := by
  refine acalls_S (rs := [.cell 2 65, .tmp 3]) Try.func30 rfl rfl 54 [(0, .d (wides l))] rfl (by simp) rfl ?_
  refine awp_seq fun K0 hK0 => ?_
  refine awp_plain F_mixed [some 2, some 3] rfl ?_
  simp only [zzK, Nat.reduceLT, Nat.reduceLeDiff, Nat.reduceBEq, zz32, newRow1, F_zero65, zzC, Option.map_some, yyE, reduceCtorEq, zzD, Nat.reduceAdd, Nat.zero_add, zzH, zz10, evS_assign, zz6, Nat.reduceEqDiff, ↓reduceIte]
  refine hK0 _ ?_; try clear hK0 K0
  refine awp_keepL [0, 2] ?_
  simp only [zzJ, Nat.reduceBEq]
  refine awp_seq fun K0 hK0 => ?_
  refine awp_plain F_mixed [some 4, some 5, some 6] rfl ?_
  simp only [zzK, Nat.reduceLT, Nat.reduceLeDiff, Nat.reduceBEq, evS_assign, zz6, Nat.reduceEqDiff, ↓reduceIte]
  refine hK0 _ ?_; try clear hK0 K0
  refine awp_keepL [0, 2, 4, 5, 6] ?_
  simp only [zzJ, Nat.reduceBEq]
  refine awp_seq fun K0 hK0 => ?_
  refine awp_seq fun K1 hK1 => ?_
  refine awp_plain F_mixed [some 10, some 11, some 12] rfl ?_
  simp only [zzK, Nat.reduceLT, Nat.reduceLeDiff, Nat.reduceBEq, evS_move, evS_call, zz12, F_sl62, Option.isSome_some, wides, len_map, zz6, Nat.reduceEqDiff, ↓reduceIte]
  refine hK1 _ ?_; try clear hK1 K1
  refine awp_keepL [2, 4, 5, 6, 10, 11, 12] ?_
  simp only [zzJ, Nat.reduceBEq]
  refine awp_block ?_
  refine awp_loop (fun m s => ∃ pre post : List Int, l = pre ++ post ∧ m = post.length ∧ s = S 54 [(2, .ptr 2 0 0), (4, .d (.v (.int .u64 (loN pre.sum)))), (5, .d (.v (.int .u64 (hiN pre.sum)))), (6, .d (.v (.int .u64 (top3 pre.sum)))), (10, .d (wides l)), (11, .d (iv l.length)), (12, .d (iv pre.length))] [(2, (⟨True, 65, 2, true, false, 2, [[.d (.v (.int .i64 0)), .d (.v (.int .u64 0))]]⟩ : ARow))]) l.length _ (le_SK id [] rfl (l' := [(2, .ptr 2 0 0), (4, .d (.v (.int .u64 (loN ([] : List Int).sum)))), (5, .d (.v (.int .u64 (hiN ([] : List Int).sum)))), (6, .d (.v (.int .u64 (top3 ([] : List Int).sum)))), (10, .d (wides l)), (11, .d (iv l.length)), (12, .d (iv ([] : List Int).length))]) (m' := [(2, (⟨True, 65, 2, true, false, 2, [[.d (.v (.int .i64 0)), .d (.v (.int .u64 0))]]⟩ : ARow))]) ?_ ?_ ?_ ?_) ⟨[], l, rfl, rfl, rfl⟩ ?_
  · simp only [leV, look_cons, Nat.reduceBEq, cond_true, cond_false, List.sum_nil, wides, len_map]; exact ⟨VLe.refl _, VLe.refl _, VLe.refl _, VLe.refl _, VLe.refl _, VLe.refl _, VLe.refl _, trivial⟩
  · exact ⟨fun _ => ⟨_, rfl, ⟨id, rfl, rfl, fun _ => rfl, id, .inl, VLess.refl _⟩⟩, fun h => by simp at h, trivial⟩
  · simp [wfV, AV.ids, lookR]
  · simp [wfR, AV.idsL, AV.ids]
  rintro m s ⟨pre, post, rfl, rfl, rfl⟩
  refine awp_seq fun K2 hK2 => ?_
  refine awp_plain F_mixed [some 13] rfl ?_
  simp only [zzK, Nat.reduceLT, Nat.reduceLeDiff, Nat.reduceBEq, zz21, gr_v, zz22, zz6, Nat.reduceEqDiff, ↓reduceIte]
  refine hK2 _ ?_; try clear hK2 K2
  refine awp_keepL [2, 4, 5, 6, 10, 11, 12, 13] ?_
  simp only [zzJ, Nat.reduceBEq]
  refine awp_seq fun K2 hK2 => ?_
  refine awp_condS _ (by decide) (by simp only [look_cons, Nat.reduceBEq, cond_true, cond_false]; rfl) ?_ ?_
  · intro hb
    obtain ⟨x, post, rfl⟩ := more_of hb; clear hb
    have hx := hall x (by simp)
    have hd := wsum_dbound pre.sum x hx.1 hx.2
    refine awp_skip ?_
    simp only [zz6, Nat.reduceEqDiff, ↓reduceIte]
    refine hK2 _ ?_; try clear hK2 K2
    refine awp_keepL [2, 4, 5, 6, 10, 11, 12] ?_
    simp only [zzJ, Nat.reduceBEq]
    refine awp_seq fun K2 hK2 => ?_
    refine awp_block ?_
    refine awp_seq fun K3 hK3 => ?_
    refine awp_plain F_mixed [some 14, some 15, some 8, none] rfl ?_
    simp only [zzK, Nat.reduceLT, Nat.reduceLeDiff, Nat.reduceBEq, evS_indexAddr, zz23, zz24, F_sl62, F_sz65, Option.map_some, zzC, yyE, reduceCtorEq, F_ok65, F_ag65, zz8, zzD, Nat.reduceAdd, Nat.zero_add, zzH, zz32, newRow1, F_zero65, zz10, zz18, splice, List.append_nil, zz1, zzG, wides, wideC, getD_mid, len_map, lt_mid, ge_mid, zz6, Nat.reduceEqDiff, ↓reduceIte]
    refine hK3 _ ?_; try clear hK3 K3
    refine awp_keepL [2, 4, 5, 6, 8, 10, 11, 12] ?_
    simp only [zzJ, Nat.reduceBEq]
    refine awp_seq fun K3 hK3 => ?_
    refine awp_plain F_mixed [some 9] rfl ?_
    simp only [zzK, Nat.reduceLT, Nat.reduceLeDiff, Nat.reduceBEq, evS_assign, zz6, Nat.reduceEqDiff, ↓reduceIte]
    refine hK3 _ ?_; try clear hK3 K3
    refine awp_keepL [2, 4, 5, 6, 8, 10, 11, 12] ?_
    simp only [zzJ, Nat.reduceBEq]
    refine awp_seq fun K3 hK3 => ?_
    refine awp_plain F_mixed [some 17, some 18, some 19, some 20, some 16, some 21, some 22, some 4, some 9] rfl ?_
    simp only [zzK, Nat.reduceLT, Nat.reduceLeDiff, Nat.reduceBEq, evS_move, zz19, zz23, F_off65_1, zzH, Nat.zero_add, Nat.reduceAdd, F_ok63, F_ag63, F_sz63, zz8, zzD, zzC, Option.map_some, yyE, reduceCtorEq, evS_call, evC_value, zz14, evS_assign, zz6, Nat.reduceEqDiff, ↓reduceIte]
    refine call_ext _ _ (add64 (loN pre.sum) (x % 18446744073709551616) 0 (lo_nn _) (by omega) (by decide) (by decide)) ?_
    simp only [zzK, Nat.reduceLT, Nat.reduceLeDiff, Nat.reduceBEq, evS_move, zz19, zz23, F_off65_1, zzH, Nat.zero_add, Nat.reduceAdd, F_ok63, F_ag63, F_sz63, zz8, zzD, zzC, Option.map_some, yyE, reduceCtorEq, evS_call, evC_value, zz14, evS_assign, zz6, Nat.reduceEqDiff, ↓reduceIte, grsL, gr_v, Option.bind_some, Option.map_some, oksL, ofV_pair, ofV_int, ofV_bool]
    refine hK3 _ ?_; try clear hK3 K3
    refine awp_keepL [2, 4, 5, 6, 8, 9, 10, 11, 12] ?_
    simp only [zzJ, Nat.reduceBEq]
    refine awp_seq fun K3 hK3 => ?_
    refine awp_plain F_mixed [some 24, some 25, some 26, some 27, some 28, some 29, some 23, some 30, some 31, some 5, some 9] rfl ?_
    simp only [zzK, Nat.reduceLT, Nat.reduceLeDiff, Nat.reduceBEq, evS_move, zz19, zz23, F_off65_0, zzH, Nat.zero_add, Nat.reduceAdd, F_ok3, F_ag3, F_sz3, zz8, zzD, zzC, Option.map_some, yyE, reduceCtorEq, zz27, gr_v, F_cv3_63, F_cvV63, evS_call, evC_value, zz14, evS_assign, zz6, Nat.reduceEqDiff, ↓reduceIte]
    refine call_ext _ _ (add64 (hiN pre.sum) (IntKind.wrap .u64 (x / 18446744073709551616)) ((loN pre.sum + x % 18446744073709551616 + 0) / 18446744073709551616) (hi_nn _) (wu_nn _) (wcarry0 _ _) (wcarry1 _ _)) ?_
    simp only [zzK, Nat.reduceLT, Nat.reduceLeDiff, Nat.reduceBEq, evS_move, zz19, zz23, F_off65_0, zzH, Nat.zero_add, Nat.reduceAdd, F_ok3, F_ag3, F_sz3, zz8, zzD, zzC, Option.map_some, yyE, reduceCtorEq, zz27, gr_v, F_cv3_63, F_cvV63, evS_call, evC_value, zz14, evS_assign, zz6, Nat.reduceEqDiff, ↓reduceIte, grsL, gr_v, Option.bind_some, Option.map_some, oksL, ofV_pair, ofV_int, ofV_bool]
    refine hK3 _ ?_; try clear hK3 K3
    refine awp_keepL [2, 4, 5, 6, 8, 9, 10, 11, 12] ?_
    simp only [zzJ, Nat.reduceBEq]
    refine awp_plain F_mixed [some 33, some 34, some 35, some 36, some 37, some 38, some 39, some 32, some 40, some 41, some 6] rfl ?_
    simp only [zzK, Nat.reduceLT, Nat.reduceLeDiff, Nat.reduceBEq, evS_move, zz19, zz23, F_off65_0, zzH, Nat.zero_add, Nat.reduceAdd, F_ok3, F_ag3, F_sz3, zz8, zzD, zzC, Option.map_some, yyE, reduceCtorEq, zz21, gr_v, b_shr, pure_shr, Int.reduceLT, not_false_eq_true, zz27, F_cv3_63, F_cvV63, evS_call, evC_value, zz14, evS_assign, zz6, Nat.reduceEqDiff, ↓reduceIte]
    refine call_ext _ _ (add64 (top3 pre.sum) (IntKind.wrap .u64 ((x / 18446744073709551616).fdiv (2 ^ (min (Int.toNat 63) (IntKind.bits .i64))))) ((hiN pre.sum + IntKind.wrap .u64 (x / 18446744073709551616) + (loN pre.sum + x % 18446744073709551616 + 0) / 18446744073709551616) / 18446744073709551616) (top3_nn _) (wu_nn _) hd.1 hd.2) ?_
    simp only [zzK, Nat.reduceLT, Nat.reduceLeDiff, Nat.reduceBEq, evS_move, zz19, zz23, F_off65_0, zzH, Nat.zero_add, Nat.reduceAdd, F_ok3, F_ag3, F_sz3, zz8, zzD, zzC, Option.map_some, yyE, reduceCtorEq, zz21, gr_v, b_shr, pure_shr, Int.reduceLT, not_false_eq_true, zz27, F_cv3_63, F_cvV63, evS_call, evC_value, zz14, evS_assign, zz6, Nat.reduceEqDiff, ↓reduceIte, grsL, gr_v, Option.bind_some, Option.map_some, oksL, ofV_pair, ofV_int, ofV_bool]
    refine hK2 _ ?_; try clear hK2 K2
    refine awp_keepL [2, 4, 5, 6, 10, 11, 12] ?_
    simp only [zzJ, Nat.reduceBEq]
    refine awp_plain F_mixed [some 42, some 12] rfl ?_
    simp only [zzK, Nat.reduceLT, Nat.reduceLeDiff, Nat.reduceBEq, zz21, gr_v, zz26, evS_move, zz6, Nat.reduceEqDiff, ↓reduceIte]
    refine ⟨post.length, _, by simp, le_SK id [] rfl (l' := [(2, .ptr 2 0 0), (4, .d (.v (.int .u64 (loN (pre ++ [x]).sum)))), (5, .d (.v (.int .u64 (hiN (pre ++ [x]).sum)))), (6, .d (.v (.int .u64 (top3 (pre ++ [x]).sum)))), (10, .d (wides (pre ++ x :: post))), (11, .d (iv (pre ++ x :: post).length)), (12, .d (iv (pre ++ [x]).length))]) (m' := [(2, (⟨True, 65, 2, true, false, 2, [[.d (.v (.int .i64 0)), .d (.v (.int .u64 0))]]⟩ : ARow))]) ?_ ?_ ?_ ?_, pre ++ [x], post, by simp, rfl, rfl⟩
    · simp only [leV, look_cons, Nat.reduceBEq, cond_true, cond_false, wides, len_map, wrap_len pre x (by simp at hl; omega), sum_snoc]
      refine ⟨VLe.refl _, ?_, ?_, ?_, VLe.refl _, VLe.refl _, VLe.refl _, trivial⟩
      · rw [wsum_lo]; exact VLe.refl _
      · rw [wsum_hi]; exact VLe.refl _
      · rw [top3_step hx.1 hx.2]; exact VLe.refl _
    · exact ⟨fun _ => ⟨_, rfl, ⟨id, rfl, rfl, fun _ => rfl, id, .inl, VLess.refl _⟩⟩, fun h => by simp at h, trivial⟩
    · simp [wfV, AV.ids, lookR]
    · simp [wfR, AV.idsL, AV.ids]
  · intro hb
    obtain rfl := none_of hb; clear hb
    simp only [List.append_nil] at hl hall ⊢
    have hs := wsum_bound hall hl
    refine awp_exit ?_
    simp only [zz6, Nat.reduceEqDiff, ↓reduceIte]
    refine hK0 _ ?_; try clear hK0 K0
    refine awp_keepL [2, 4, 5, 6] ?_
    simp only [zzJ, Nat.reduceBEq]
    refine awp_seq fun K0 hK0 => ?_
    refine awp_seq fun K1 hK1 => ?_
    refine awp_plain F_mixed [some 43, some 44, some 45, some 46, some 47, some 48] rfl ?_
    simp only [zzK, Nat.reduceLT, Nat.reduceLeDiff, Nat.reduceBEq, evS_move, zz27, gr_v, F_cv63_3, F_cvV3, zz21, b_shr, pure_shr, Int.reduceLT, not_false_eq_true, F_cv3_63, F_cvV63, zz28, zz6, Nat.reduceEqDiff, ↓reduceIte]
    refine hK1 _ ?_; try clear hK1 K1
    refine awp_keepL [2, 4, 5, 48] ?_
    simp only [zzJ, Nat.reduceBEq]
    refine awp_condS _ (by decide) (by simp only [look_cons, Nat.reduceBEq, cond_true, cond_false]; rfl) ?_ ?_
    · intro hb
      rw [fits_law2 hs.1 hs.2] at hb
      simp only [Bool.not_eq_true'] at hb
      refine awp_seq fun K2 hK2 => ?_
      refine awp_plain F_mixed [some 49, none, some 3] rfl ?_
      simp only [zzK, Nat.reduceLT, Nat.reduceLeDiff, Nat.reduceBEq, F_zero65, F_bld65, zz7, splice, Option.getD_some, List.append_nil, zz1, zzG, zzD, zzC, Option.map_some, yyE, reduceCtorEq, Nat.reduceAdd, Nat.zero_add, zzH, zz10, zz18, F_ok65, F_sz65, evS_assign, zz6, Nat.reduceEqDiff, ↓reduceIte]
      refine hK2 _ ?_; try clear hK2 K2
      refine awp_keepL [2, 3] ?_
      simp only [zzJ, Nat.reduceBEq]
      refine awp_ret ?_
      simp only [zz6, Nat.reduceEqDiff, ↓reduceIte]
      refine done0 (by simp [resCs, resC, S, List.getD, look_cons, lookR, F_ag65, F_sz65, F_ok65]) ?_ (by simp [flatA, flatAs, flatD, wideA]) (by simp [AV.ids, AV.idsL, wideA])
      simp only [List.map_cons, List.map_nil, resA, S_getD, S_mem, lookR_cons, lookR_nil, Nat.reduceLT, Nat.reduceLeDiff, look_cons, Nat.reduceBEq, cond_true, cond_false, resAll, List.getD_cons_zero, List.getD_cons_succ, List.drop_zero, List.drop_succ_cons, List.take_succ_cons, List.take_zero, F_ag65, F_sz65, F_ok65]
      simp only [List.append_nil, hb, cond_false]; rfl
    · intro hb
      rw [fits_law2 hs.1 hs.2] at hb
      simp only [Bool.not_eq_false'] at hb
      refine awp_skip ?_
      simp only [zz6, Nat.reduceEqDiff, ↓reduceIte]
      refine hK0 _ ?_; try clear hK0 K0
      refine awp_keepL [2, 4, 5] ?_
      simp only [zzJ, Nat.reduceBEq]
      refine awp_seq fun K0 hK0 => ?_
      refine awp_plain F_mixed [some 50, some 51, some 52, some 53, none, some 3] rfl ?_
      simp only [zzK, Nat.reduceLT, Nat.reduceLeDiff, Nat.reduceBEq, evS_move, zz27, gr_v, F_cv63_3, F_cvV3, F_zero65, F_bld65, zz7, splice, Option.getD_some, List.append_nil, zz1, zzG, zzD, zzC, Option.map_some, yyE, reduceCtorEq, Nat.reduceAdd, Nat.zero_add, zzH, zz10, F_fld65_0, F_fld65_1, zz18, F_ok65, F_sz65, evS_assign, zz6, Nat.reduceEqDiff, ↓reduceIte]
      refine hK0 _ ?_; try clear hK0 K0
      refine awp_keepL [2, 3] ?_
      simp only [zzJ, Nat.reduceBEq]
      refine awp_ret ?_
      simp only [zz6, Nat.reduceEqDiff, ↓reduceIte]
      refine done0 (by simp [resCs, resC, S, List.getD, look_cons, lookR, F_ag65, F_sz65, F_ok65]) ?_ (by simp [flatA, flatAs, flatD, wideA]) (by simp [AV.ids, AV.idsL, wideA])
      simp only [List.map_cons, List.map_nil, resA, S_getD, S_mem, lookR_cons, lookR_nil, Nat.reduceLT, Nat.reduceLeDiff, look_cons, Nat.reduceBEq, cond_true, cond_false, resAll, List.getD_cons_zero, List.getD_cons_succ, List.drop_zero, List.drop_succ_cons, List.take_succ_cons, List.take_zero, F_ag65, F_sz65, F_ok65]
      simp only [List.append_nil, hb, wide_fit hb, cond_true]
set_option maxRecDepth 100000 in
set_option maxHeartbeats 4000000 in
theorem Worth_ (p : PosV) (m k : Int) : ACalls Try.prog 8 [.agg (posC p), iv m, iv k] [] (.tp [.d (iv (worthV p m k)), .d (iv (worthE p m k))]) := by
  refine acalls_S (rs := [.tmp 6, .tmp 7]) Try.func8 rfl rfl 64 [(0, .d (.agg (posC p))), (1, .d (iv m)), (2, .d (iv k))] rfl (by simp) rfl ?_
  refine awp_seq fun K0 hK0 => ?_
  refine awp_plain F_mixed [some 3, some 6, some 7] rfl ?_
  simp only [zzK, Nat.reduceLT, Nat.reduceLeDiff, Nat.reduceBEq, zz35, newRow1, zz1, zzG, zzD, zzC, Option.map_some, yyE, reduceCtorEq, Nat.reduceAdd, Nat.zero_add, zzH, evS_assign, posC, zz6, Nat.reduceEqDiff, ↓reduceIte]
  refine hK0 _ ?_; try clear hK0 K0
  refine awp_keepL [1, 2, 3] ?_
  simp only [zzJ, Nat.reduceBEq]
  refine awp_seq fun K0 hK0 => ?_
  refine awp_seq fun K1 hK1 => ?_
  refine awp_plain F_mixed [some 10, some 11, some 12, some 13, some 14, some 15, some 16, some 17, some 18, some 19, some 20, some 21, some 22, some 23, some 24, some 25, some 26, some 27, some 28, some 29, some 30, some 31, some 32, some 33, some 34, some 35, some 36, some 37, some 38, some 39, some 40] rfl ?_
  simp only [zzK, Nat.reduceLT, Nat.reduceLeDiff, Nat.reduceBEq, Nat.reduceSub, S_getD, zz5, and_imp, imp_and, imp_self, zz19, zz23, F_off25_1, zzH, Nat.zero_add, Nat.reduceAdd, F_ok3, F_ag3, F_sz3, zz8, zzD, zzC, Option.map_some, yyE, reduceCtorEq, zz21, gr_v, zz22, evS_move, zz25, zz13, pickK_l, pickK_r, F_off25_2, F_sl103, F_zero3, zz3, newRow1, zz1, zzG, maxLen_le, Nat.reduceMul, evS_call, evC_value, zz29, zz30, posC, ints, List.map_cons, zz6, Nat.reduceEqDiff, ↓reduceIte]
  refine call_go F_go29 (fun hG => Right_ [p.cost] (by simp)) (by simp [AV.ids, AV.idsL]) (by simp) ?_
  simp only [zzK, Nat.reduceLT, Nat.reduceLeDiff, Nat.reduceBEq, Nat.reduceSub, S_getD, zz5, and_imp, imp_and, imp_self, zz19, zz23, F_off25_1, zzH, Nat.zero_add, Nat.reduceAdd, F_ok3, F_ag3, F_sz3, zz8, zzD, zzC, Option.map_some, yyE, reduceCtorEq, zz21, gr_v, zz22, evS_move, zz25, zz13, pickK_l, pickK_r, F_off25_2, F_sl103, F_zero3, zz3, newRow1, zz1, zzG, maxLen_le, Nat.reduceMul, evS_call, evC_value, zz29, zz30, posC, ints, List.map_cons, zz6, Nat.reduceEqDiff, ↓reduceIte, atsL, oksG, freeN, AV.ren, AV.renL, addRows, ORow.row, Nat.reduceMul, Nat.reduceAdd, zz9, Option.bind_some, Option.map_some, S_mem, yyF, List.length_cons, zz2]
  refine hK1 _ ?_; try clear hK1 K1
  refine awp_keepL [1, 2, 3, 40] ?_
  simp only [zzJ, Nat.reduceBEq]
  refine awp_condS _ (by decide) (by simp only [look_cons, Nat.reduceBEq, cond_true, cond_false]; rfl) ?_ ?_
  · intro hb
    have hb1 : worthBad p m k = true := hb
    clear hb
    refine awp_seq fun K2 hK2 => ?_
    refine awp_plain F_mixed [some 6, some 7] rfl ?_
    simp only [zzK, Nat.reduceLT, Nat.reduceLeDiff, Nat.reduceBEq, evS_assign, zz6, Nat.reduceEqDiff, ↓reduceIte]
    refine hK2 _ ?_; try clear hK2 K2
    refine awp_keepL [6, 7] ?_
    simp only [zzJ, Nat.reduceBEq]
    refine awp_ret ?_
    simp only [zz6, Nat.reduceEqDiff, ↓reduceIte]
    refine done0 (by simp only [resCs, resC]; trivial) ?_ (by simp [flatA, flatAs, flatD]) (by simp [AV.ids, AV.idsL])
    simp only [List.map_cons, List.map_nil, resA, S_getD, Nat.reduceLT, Nat.reduceLeDiff, look_cons, Nat.reduceBEq, cond_true, cond_false, resAll]
    simp only [worthV, worthE, hb1, cond_true]
  · intro hb
    have hb1 : worthBad p m k = false := hb
    clear hb
    obtain ⟨hk, hm, e1, e2, b1, b2⟩ := worth_bounds hb1
    have hS : [IntKind.wrap .i64 (m * p.qty) * k, IntKind.wrap .i64 (0 - p.cost) * m].sum = worthT p m k := by simp only [List.sum_cons, List.sum_nil, e1, e2, worthT]; omega
    have hfit : fitsW [IntKind.wrap .i64 (m * p.qty) * k, IntKind.wrap .i64 (0 - p.cost) * m].sum = true := by rw [hS]; exact worth_fits b1 b2
    refine awp_skip ?_
    simp only [zz6, Nat.reduceEqDiff, ↓reduceIte]
    refine hK0 _ ?_; try clear hK0 K0
    refine awp_keepL [1, 2, 3] ?_
    simp only [zzJ, Nat.reduceBEq]
    refine awp_seq fun K0 hK0 => ?_
    refine awp_draw F_mixed [some 42, some 43, some 44, some 45, some 46, some 47, some 48, some 49, some 50, some 51, some 52, some 53, some 54, some 41, some 55, some 56, some 8, none, some 9] rfl (by kernel_rfl) ?_
    simp only [zzK, Nat.reduceLT, Nat.reduceLeDiff, Nat.reduceBEq, evS_move, zz19, zz23, F_off25_1, zzH, Nat.zero_add, Nat.reduceAdd, F_ok3, F_ag3, F_sz3, zz8, zzD, zzC, Option.map_some, yyE, reduceCtorEq, zz21, gr_v, zz36, evS_call, evC_value, F_off25_2, zz29, zz37, F_sl62, F_zero65, F_sz65, zz3, newRow1, zz1, zzG, maxLen_le, Nat.reduceMul, zz14, zz32, zz10, zz18, F_ok65, splice, List.append_nil, evS_assign, posC, wideA, wideC, wides, List.map_cons, hfit, zz6, Nat.reduceEqDiff, ↓reduceIte]
    refine call_go F_go31 (fun hG => Times_ (IntKind.wrap .i64 (m * p.qty)) k (wI0 _) (wI1 _) (by omega) (by omega)) (by simp [AV.ids, AV.idsL, wideA, wideC]) (by simp) ?_
    simp only [zzK, Nat.reduceLT, Nat.reduceLeDiff, Nat.reduceBEq, evS_move, zz19, zz23, F_off25_1, zzH, Nat.zero_add, Nat.reduceAdd, F_ok3, F_ag3, F_sz3, zz8, zzD, zzC, Option.map_some, yyE, reduceCtorEq, zz21, gr_v, zz36, evS_call, evC_value, F_off25_2, zz29, zz37, F_sl62, F_zero65, F_sz65, zz3, newRow1, zz1, zzG, maxLen_le, Nat.reduceMul, zz14, zz32, zz10, zz18, F_ok65, splice, List.append_nil, evS_assign, posC, wideA, wideC, wides, List.map_cons, hfit, zz6, Nat.reduceEqDiff, ↓reduceIte, atsL, oksG, freeN, AV.ren, AV.renL, addRows, ORow.row, Nat.reduceMul, Nat.reduceAdd, zz9, Option.bind_some, Option.map_some, S_mem, yyF, List.length_cons, zz2]
    refine call_go F_go31 (fun hG => Times_ (IntKind.wrap .i64 (0 - p.cost)) m (wI0 _) (wI1 _) (by omega) (by omega)) (by simp [AV.ids, AV.idsL, wideA, wideC]) (by simp) ?_
    simp only [zzK, Nat.reduceLT, Nat.reduceLeDiff, Nat.reduceBEq, evS_move, zz19, zz23, F_off25_1, zzH, Nat.zero_add, Nat.reduceAdd, F_ok3, F_ag3, F_sz3, zz8, zzD, zzC, Option.map_some, yyE, reduceCtorEq, zz21, gr_v, zz36, evS_call, evC_value, F_off25_2, zz29, zz37, F_sl62, F_zero65, F_sz65, zz3, newRow1, zz1, zzG, maxLen_le, Nat.reduceMul, zz14, zz32, zz10, zz18, F_ok65, splice, List.append_nil, evS_assign, posC, wideA, wideC, wides, List.map_cons, hfit, zz6, Nat.reduceEqDiff, ↓reduceIte, atsL, oksG, freeN, AV.ren, AV.renL, addRows, ORow.row, Nat.reduceMul, Nat.reduceAdd, zz9, Option.bind_some, Option.map_some, S_mem, yyF, List.length_cons, zz2]
    refine call_go F_go30 (fun hG => wSum_ [IntKind.wrap .i64 (m * p.qty) * k, IntKind.wrap .i64 (0 - p.cost) * m] (by simp) (by intro x hx; simp only [List.mem_cons, List.not_mem_nil, or_false, e1, e2] at hx; rcases hx with rfl | rfl <;> omega)) (by simp [AV.ids, AV.idsL, wideA, wideC]) (by simp) ?_
    simp only [zzK, Nat.reduceLT, Nat.reduceLeDiff, Nat.reduceBEq, evS_move, zz19, zz23, F_off25_1, zzH, Nat.zero_add, Nat.reduceAdd, F_ok3, F_ag3, F_sz3, zz8, zzD, zzC, Option.map_some, yyE, reduceCtorEq, zz21, gr_v, zz36, evS_call, evC_value, F_off25_2, zz29, zz37, F_sl62, F_zero65, F_sz65, zz3, newRow1, zz1, zzG, maxLen_le, Nat.reduceMul, zz14, zz32, zz10, zz18, F_ok65, splice, List.append_nil, evS_assign, posC, wideA, wideC, wides, List.map_cons, hfit, zz6, Nat.reduceEqDiff, ↓reduceIte, atsL, oksG, freeN, AV.ren, AV.renL, addRows, ORow.row, Nat.reduceMul, Nat.reduceAdd, zz9, Option.bind_some, Option.map_some, S_mem, yyF, List.length_cons, zz2]
    refine hK0 _ ?_; try clear hK0 K0
    refine awp_keepL [8, 9] ?_
    simp only [zzJ, Nat.reduceBEq]
    refine awp_seq fun K0 hK0 => ?_
    refine awp_seq fun K1 hK1 => ?_
    refine awp_plain F_mixed [some 57, some 58] rfl ?_
    simp only [zzK, Nat.reduceLT, Nat.reduceLeDiff, Nat.reduceBEq, evS_move, zz21, gr_v, zz28, zz6, Nat.reduceEqDiff, ↓reduceIte]
    refine hK1 _ ?_; try clear hK1 K1
    refine awp_keepL [8, 9, 58] ?_
    simp only [zzJ, Nat.reduceBEq]
    refine awp_condS _ (by decide) (by simp only [look_cons, Nat.reduceBEq, cond_true, cond_false]; rfl) ?_ ?_
    · intro hb
      simp at hb
    · intro hb
      clear hb
      refine awp_skip ?_
      simp only [zz6, Nat.reduceEqDiff, ↓reduceIte]
      refine hK0 _ ?_; try clear hK0 K0
      refine awp_keepL [8] ?_
      simp only [zzJ, Nat.reduceBEq]
      refine awp_seq fun K0 hK0 => ?_
      refine awp_plain F_mixed [some 60, some 61, some 62, some 63, some 6, some 7] rfl ?_
      simp only [zzK, Nat.reduceLT, Nat.reduceLeDiff, Nat.reduceBEq, F_ok65, F_ag65, F_sz65, zz8, zz23, zzD, Nat.reduceAdd, Nat.zero_add, zzH, zzC, Option.map_some, yyE, reduceCtorEq, evS_call, evC_value, zz14, evS_assign, wideC, wideA, D.agg.injEq, zz6, Nat.reduceEqDiff, ↓reduceIte]
      refine call_go F_go32 (fun hG => wInt_ [IntKind.wrap .i64 (m * p.qty) * k, IntKind.wrap .i64 (0 - p.cost) * m].sum) (by simp [AV.ids, AV.idsL, wideC, wideA]) (by simp) ?_
      simp only [zzK, Nat.reduceLT, Nat.reduceLeDiff, Nat.reduceBEq, F_ok65, F_ag65, F_sz65, zz8, zz23, zzD, Nat.reduceAdd, Nat.zero_add, zzH, zzC, Option.map_some, yyE, reduceCtorEq, evS_call, evC_value, zz14, evS_assign, wideC, wideA, D.agg.injEq, zz6, Nat.reduceEqDiff, ↓reduceIte, atsL, oksG, freeN, AV.ren, AV.renL, addRows, ORow.row, Nat.reduceMul, Nat.reduceAdd, zz9, Option.bind_some, Option.map_some, S_mem, yyF, List.length_cons, zz2]
      refine hK0 _ ?_; try clear hK0 K0
      refine awp_keepL [6, 7] ?_
      simp only [zzJ, Nat.reduceBEq]
      refine awp_ret ?_
      simp only [zz6, Nat.reduceEqDiff, ↓reduceIte]
      refine done0 (by simp only [resCs, resC]; trivial) ?_ (by simp [flatA, flatAs, flatD]) (by simp [AV.ids, AV.idsL])
      simp only [List.map_cons, List.map_nil, resA, S_getD, Nat.reduceLT, Nat.reduceLeDiff, look_cons, Nat.reduceBEq, cond_true, cond_false, resAll]
      rw [hS]; simp only [worthV, worthE, hb1, cond_false]
theorem wakes14_ : ACalls Try.prog 9 [] [] (bv true) := by
  refine acalls_S (rs := [.tmp 0]) Try.func9 rfl rfl 15 [] rfl (by simp) rfl ?_
  have w1 : worthV ⟨1, 3, 5, 50⟩ 10 12 = 100 := by decide
  have w2 : worthE ⟨1, 3, 5, 50⟩ 10 12 = 0 := by decide
  refine awp_seq fun K0 hK0 => ?_
  refine awp_plain F_mixed [some 0] rfl ?_
  simp only [zzK, Nat.reduceLT, Nat.reduceLeDiff, Nat.reduceBEq, evS_assign, zz6, Nat.reduceEqDiff, ↓reduceIte]
  refine hK0 _ ?_; try clear hK0 K0
  refine awp_keepL [] ?_
  simp only [zzJ, Nat.reduceBEq]
  refine awp_seq fun K0 hK0 => ?_
  refine awp_plain F_mixed [some 4, some 5, some 6, some 3, some 7, some 8, some 1, some 2] rfl ?_
  simp only [zzK, Nat.reduceLT, Nat.reduceLeDiff, Nat.reduceBEq, F_zero23, F_bld23, zz7, splice, Option.getD_some, List.append_nil, zz1, zzG, zzD, zzC, Option.map_some, yyE, reduceCtorEq, Nat.reduceAdd, Nat.zero_add, zzH, zz10, F_fld23_0, F_fld23_1, F_zero25, F_bld25, F_fld25_0, F_fld25_1, F_fld25_2, evS_call, evC_value, evS_move, zz14, evS_assign, posC, D.agg.injEq, w1, w2, zz6, Nat.reduceEqDiff, ↓reduceIte]
  refine call_go F_go8 (fun hG => Worth_ ⟨1, 3, 5, 50⟩ 10 12) (by simp [AV.ids, AV.idsL]) (by simp) ?_
  simp only [zzK, Nat.reduceLT, Nat.reduceLeDiff, Nat.reduceBEq, F_zero23, F_bld23, zz7, splice, Option.getD_some, List.append_nil, zz1, zzG, zzD, zzC, Option.map_some, yyE, reduceCtorEq, Nat.reduceAdd, Nat.zero_add, zzH, zz10, F_fld23_0, F_fld23_1, F_zero25, F_bld25, F_fld25_0, F_fld25_1, F_fld25_2, evS_call, evC_value, evS_move, zz14, evS_assign, posC, D.agg.injEq, w1, w2, zz6, Nat.reduceEqDiff, ↓reduceIte, atsL, oksG, freeN, AV.ren, AV.renL, addRows, ORow.row, Nat.reduceMul, Nat.reduceAdd, zz9, Option.bind_some, Option.map_some, S_mem, yyF, List.length_cons, zz2]
  refine hK0 _ ?_; try clear hK0 K0
  refine awp_keepL [1, 2] ?_
  simp only [zzJ, Nat.reduceBEq]
  refine awp_seq fun K0 hK0 => ?_
  refine awp_plain F_mixed [some 9, some 10, some 11, some 12, some 13, some 14, some 0] rfl ?_
  simp only [zzK, Nat.reduceLT, Nat.reduceLeDiff, Nat.reduceBEq, Nat.reduceSub, S_getD, zz5, and_imp, imp_and, imp_self, evS_move, zz21, gr_v, zz34, zz13, pickK_l, pickK_r, evS_assign, Bool.or_false, Bool.false_or, Bool.or_true, Bool.true_or, Bool.and_true, Bool.true_and, Bool.and_false, Bool.false_and, bne_self_eq_false, beq_self_eq_true, Bool.not_true, Bool.not_false, Int.reduceBEq, Int.reduceBNe, Int.reduceLT, Int.reduceLE, Int.reduceToNat, yyE, reduceCtorEq, Bool.true_eq_false, Bool.false_eq_true, decide_true, decide_false, false_implies, zz6, Nat.reduceEqDiff, ↓reduceIte]
  refine hK0 _ ?_; try clear hK0 K0
  refine awp_keepL [0] ?_
  simp only [zzJ, Nat.reduceBEq]
  refine awp_ret ?_
  simp only [zz6, Nat.reduceEqDiff, ↓reduceIte]
  refine done0 (by simp only [resCs, resC]; trivial) ?_ (by simp [flatA, flatAs, flatD]) (by simp [AV.ids, AV.idsL])
  simp only [List.map_cons, List.map_nil, resA, S_getD, Nat.reduceLT, Nat.reduceLeDiff, look_cons, Nat.reduceBEq, cond_true, cond_false, resAll]
  
theorem Price_ (i : InstV) : ACalls Try.prog 10 [.agg (instC i)] [] (.tp [.d (iv (priceV i)), .d (iv (priceE i))]) := by
  refine acalls_S (rs := [.tmp 2, .tmp 3]) Try.func10 rfl rfl 16 [(0, .d (.agg (instC i)))] rfl (by simp) rfl ?_
  refine awp_seq fun K0 hK0 => ?_
  refine awp_plain F_mixed [some 1, some 2, some 3] rfl ?_
  simp only [zzK, Nat.reduceLT, Nat.reduceLeDiff, Nat.reduceBEq, zz35, newRow1, zz1, zzG, zzD, zzC, Option.map_some, yyE, reduceCtorEq, Nat.reduceAdd, Nat.zero_add, zzH, evS_assign, instC, zz6, Nat.reduceEqDiff, ↓reduceIte]
  refine hK0 _ ?_; try clear hK0 K0
  refine awp_keepL [1] ?_
  simp only [zzJ, Nat.reduceBEq]
  refine awp_seq fun K0 hK0 => ?_
  refine awp_block ?_
  refine awp_seq fun K1 hK1 => ?_
  refine awp_plain F_mixed [some 5, some 6, some 7, some 4] rfl ?_
  simp only [zzK, Nat.reduceLT, Nat.reduceLeDiff, Nat.reduceBEq, zz19, zz23, F_off33_4, zzH, Nat.zero_add, Nat.reduceAdd, F_ok3, F_ag3, F_sz3, zz8, zzD, zzC, Option.map_some, yyE, reduceCtorEq, zz21, gr_v, zz28, evS_assign, zz6, Nat.reduceEqDiff, ↓reduceIte]
  refine hK1 _ ?_; try clear hK1 K1
  refine awp_keepL [1, 4] ?_
  simp only [zzJ, Nat.reduceBEq]
  refine awp_condS _ (by decide) (by simp only [look_cons, Nat.reduceBEq, cond_true, cond_false]; rfl) ?_ ?_
  · intro hb
    have e1 : priceV i = i.set ∧ priceE i = 0 := by simp only [priceV, priceE, hb, cond_true]; exact ⟨trivial, trivial⟩
    refine awp_seq fun K2 hK2 => ?_
    refine awp_plain F_mixed [some 8, some 9, some 2, some 3] rfl ?_
    simp only [zzK, Nat.reduceLT, Nat.reduceLeDiff, Nat.reduceBEq, zz19, zz23, F_off33_4, zzH, Nat.zero_add, Nat.reduceAdd, F_ok3, F_ag3, F_sz3, zz8, zzD, zzC, Option.map_some, yyE, reduceCtorEq, evS_assign, zz6, Nat.reduceEqDiff, ↓reduceIte]
    refine hK2 _ ?_; try clear hK2 K2
    refine awp_keepL [2, 3] ?_
    simp only [zzJ, Nat.reduceBEq]
    refine awp_ret ?_
    simp only [zz6, Nat.reduceEqDiff, ↓reduceIte]
    refine done0 (by simp only [resCs, resC]; trivial) ?_ (by simp [flatA, flatAs, flatD]) (by simp [AV.ids, AV.idsL])
    simp only [List.map_cons, List.map_nil, resA, S_getD, Nat.reduceLT, Nat.reduceLeDiff, look_cons, Nat.reduceBEq, cond_true, cond_false, resAll]
    rw [e1.1, e1.2]
  · intro hb
    have hb0 := hb; clear hb
    refine awp_seq fun K2 hK2 => ?_
    refine awp_plain F_mixed [some 11, some 12, some 13, some 10] rfl ?_
    simp only [zzK, Nat.reduceLT, Nat.reduceLeDiff, Nat.reduceBEq, zz19, zz23, F_off33_5, zzH, Nat.zero_add, Nat.reduceAdd, F_ok3, F_ag3, F_sz3, zz8, zzD, zzC, Option.map_some, yyE, reduceCtorEq, zz21, gr_v, zz28, evS_assign, zz6, Nat.reduceEqDiff, ↓reduceIte]
    refine hK2 _ ?_; try clear hK2 K2
    refine awp_keepL [1, 10] ?_
    simp only [zzJ, Nat.reduceBEq]
    refine awp_condS _ (by decide) (by simp only [look_cons, Nat.reduceBEq, cond_true, cond_false]; rfl) ?_ ?_
    · intro hb
      have e1 : priceV i = i.price ∧ priceE i = 0 := by simp only [priceV, priceE, hb, hb0, cond_true, cond_false]; exact ⟨trivial, trivial⟩
      refine awp_seq fun K3 hK3 => ?_
      refine awp_plain F_mixed [some 14, some 15, some 2, some 3] rfl ?_
      simp only [zzK, Nat.reduceLT, Nat.reduceLeDiff, Nat.reduceBEq, zz19, zz23, F_off33_5, zzH, Nat.zero_add, Nat.reduceAdd, F_ok3, F_ag3, F_sz3, zz8, zzD, zzC, Option.map_some, yyE, reduceCtorEq, evS_assign, zz6, Nat.reduceEqDiff, ↓reduceIte]
      refine hK3 _ ?_; try clear hK3 K3
      refine awp_keepL [2, 3] ?_
      simp only [zzJ, Nat.reduceBEq]
      refine awp_ret ?_
      simp only [zz6, Nat.reduceEqDiff, ↓reduceIte]
      refine done0 (by simp only [resCs, resC]; trivial) ?_ (by simp [flatA, flatAs, flatD]) (by simp [AV.ids, AV.idsL])
      simp only [List.map_cons, List.map_nil, resA, S_getD, Nat.reduceLT, Nat.reduceLeDiff, look_cons, Nat.reduceBEq, cond_true, cond_false, resAll]
      rw [e1.1, e1.2]
    · intro hb
      have e1 : priceV i = 0 ∧ priceE i = 20 := by simp only [priceV, priceE, hb, hb0, cond_false]; exact ⟨trivial, trivial⟩
      refine awp_skip ?_
      simp only [zz6, Nat.reduceEqDiff, ↓reduceIte]
      refine hK0 _ ?_; try clear hK0 K0
      refine awp_keepL [] ?_
      simp only [zzJ, Nat.reduceBEq]
      refine awp_seq fun K0 hK0 => ?_
      refine awp_plain F_mixed [some 2, some 3] rfl ?_
      simp only [zzK, Nat.reduceLT, Nat.reduceLeDiff, Nat.reduceBEq, evS_assign, zz6, Nat.reduceEqDiff, ↓reduceIte]
      refine hK0 _ ?_; try clear hK0 K0
      refine awp_keepL [2, 3] ?_
      simp only [zzJ, Nat.reduceBEq]
      refine awp_ret ?_
      simp only [zz6, Nat.reduceEqDiff, ↓reduceIte]
      refine done0 (by simp only [resCs, resC]; trivial) ?_ (by simp [flatA, flatAs, flatD]) (by simp [AV.ids, AV.idsL])
      simp only [List.map_cons, List.map_nil, resA, S_getD, Nat.reduceLT, Nat.reduceLeDiff, look_cons, Nat.reduceBEq, cond_true, cond_false, resAll]
      rw [e1.1, e1.2]
end Go.Proofs.Ytdgkiemehmmobaa
