import Derived.Test.YtepphpbjgnapfaaSpecKC
import Derived.Test.YtepphpbjgnapfaaSort
import Derived.Test.YtepphpbjgnapfaaClone
import Derived.Test.YtepphpbjgnapfaaAbsS
import Derived.Laws.Externs
import Derived.Laws.StructEq
import Derived.Laws.Tables
import Derived.KernelRfl
namespace Go.Proofs.Ytepphpbjgnapfaa
open Go.RowKit
set_option linter.unusedVariables false
set_option linter.unusedSimpArgs false
theorem F_mixed : Try.prog.follows .mixedOrders = true := by kernel_rfl
theorem F_sl68 : sliceT Try.prog 68 = some 3 := by kernel_rfl
theorem F_sz3 : szT Try.prog 3 = 1 := by kernel_rfl
theorem F_ok3 : tyOk Try.prog 3 = true := by kernel_rfl
theorem F_ag3 : aggT Try.prog 3 = false := by kernel_rfl
theorem F_cv86_3 : ∀ (k : IntKind) (x : Int), pureCv Try.prog 86 3 (.int k x) = True := fun _ _ => pure_cv (by kernel_rfl) (by kernel_rfl)
theorem F_cvV3 : ∀ (k : IntKind) (x : Int), cvV Try.prog 3 (.int k x) = .int .i64 (IntKind.wrap .i64 x) := fun _ _ => by rw [show cvV Try.prog 3 = fun a => (match a with | .int _ n => .int (Try.prog.intKind 3) ((Try.prog.intKind 3).wrap n) | _ => undef) from rfl, show Try.prog.intKind 3 = .i64 from by kernel_rfl]
theorem F_cv3_86 : ∀ (k : IntKind) (x : Int), pureCv Try.prog 3 86 (.int k x) = True := fun _ _ => pure_cv (by kernel_rfl) (by kernel_rfl)
theorem F_cvV86 : ∀ (k : IntKind) (x : Int), cvV Try.prog 86 (.int k x) = .int .u64 (IntKind.wrap .u64 x) := fun _ _ => by rw [show cvV Try.prog 86 = fun a => (match a with | .int _ n => .int (Try.prog.intKind 86) ((Try.prog.intKind 86).wrap n) | _ => undef) from rfl, show Try.prog.intKind 86 = .u64 from by kernel_rfl]
theorem F_zero3 : zeroT Try.prog 3 = some [(.int .i64 0)] := by kernel_rfl
theorem F_go41 : goFn Try.prog 41 := ⟨_, Try.func41, rfl, rfl⟩
theorem F_go62 : goFn Try.prog 62 := ⟨_, Try.func62, rfl, rfl⟩
theorem add64 (x y c : Int) (hx : 0 ≤ x) (hy : 0 ≤ y) (hc0 : 0 ≤ c) (hc : c ≤ 1) : extOk Try.prog 61 [.int .u64 x, .int .u64 y, .int .u64 c] (.tuple #[.int .u64 ((x + y + c) % 18446744073709551616), .int .u64 ((x + y + c) / 18446744073709551616)]) := fun w => by
  rw [run_callFunc_extern Try.func61 (by kernel_rfl) (by kernel_rfl) (by kernel_rfl) (e := add64Entry) (by kernel_rfl), run_add64 x y c hx hy hc0 hc]
  rfl
theorem Right_ (l : List Int) (hl : l.length < 4611686018427387904) : ACalls Try.prog 41 [ints l] [] (bv (l.all rightN)) := by
  refine acalls_S (rs := [.tmp 2]) Try.func41 rfl rfl 18 [(0, .d (ints l))] rfl (by simp) rfl ?_
  refine awp_seq fun K0 hK0 => ?_
  refine awp_plain F_mixed [some 2] rfl ?_
  simp only [List.nil_append, List.cons_append, true_and, and_true, zz0, true_implies, Nat.reduceLT, Nat.reduceLeDiff, zzI, look_nil, Nat.reduceBEq, implies_true, evS_assign, zz6, Nat.reduceEqDiff, ↓reduceIte]
  refine hK0 _ ?_; try clear hK0 K0
  refine awp_keepL [0] ?_
  simp only [zz20, zzI, look_nil, Nat.reduceBEq]
  refine awp_seq fun K0 hK0 => ?_
  refine awp_seq fun K1 hK1 => ?_
  refine awp_plain F_mixed [some 5, some 6, some 7] rfl ?_
  simp only [List.nil_append, List.cons_append, true_and, and_true, zz0, true_implies, Nat.reduceLT, Nat.reduceLeDiff, zzI, look_nil, Nat.reduceBEq, implies_true, evS_move, evS_call, zz12, F_sl68, Option.isSome_some, ints, len_map, zz6, Nat.reduceEqDiff, ↓reduceIte]
  refine hK1 _ ?_; try clear hK1 K1
  refine awp_keepL [5, 6, 7] ?_
  simp only [zz20, zzI, look_nil, Nat.reduceBEq]
  refine awp_block ?_
  refine awp_loop (fun m s => ∃ pre post : List Int, l = pre ++ post ∧ pre.all rightN = true ∧ m = post.length ∧ s = S 18 [(5, .d (ints l)), (6, .d (iv l.length)), (7, .d (iv pre.length))] []) l.length _ (le_S0 (l' := [(5, .d (ints l)), (6, .d (iv l.length)), (7, .d (iv 0))]) ?_ ?_) ⟨[], l, rfl, rfl, rfl, rfl⟩ ?_
  · simp only [leL, look_cons, Nat.reduceBEq, cond_true, cond_false, ints, len_map]; trivial
  · simp [wfV, AV.ids]
  rintro m s ⟨pre, post, rfl, hp, rfl, rfl⟩
  refine awp_seq fun K2 hK2 => ?_
  refine awp_plain F_mixed [some 8] rfl ?_
  simp only [List.nil_append, List.cons_append, true_and, and_true, zz0, true_implies, Nat.reduceLT, Nat.reduceLeDiff, zzI, look_nil, Nat.reduceBEq, implies_true, zz21, gr_v, zz22, zz6, Nat.reduceEqDiff, ↓reduceIte]
  refine hK2 _ ?_; try clear hK2 K2
  refine awp_keepL [5, 6, 7, 8] ?_
  simp only [zz20, zzI, look_nil, Nat.reduceBEq]
  refine awp_seq fun K2 hK2 => ?_
  refine awp_condS _ (by decide) (by simp only [look_cons, Nat.reduceBEq, cond_true, cond_false]; rfl) ?_ ?_
  · intro hb
    obtain ⟨x, post, rfl⟩ := more_of hb; clear hb
    refine awp_skip ?_
    simp only [zz6, Nat.reduceEqDiff, ↓reduceIte]
    refine hK2 _ ?_; try clear hK2 K2
    refine awp_keepL [5, 6, 7] ?_
    simp only [zz20, zzI, look_nil, Nat.reduceBEq]
    refine awp_seq fun K2 hK2 => ?_
    refine awp_block ?_
    refine awp_seq fun K3 hK3 => ?_
    refine awp_plain F_mixed [some 9, some 10, some 4] rfl ?_
    simp only [List.nil_append, List.cons_append, true_and, and_true, zz0, true_implies, Nat.reduceLT, Nat.reduceLeDiff, zzI, look_nil, Nat.reduceBEq, implies_true, evS_indexAddr, zz23, zz24, F_sl68, F_sz3, Option.map_some, zz16, Option.some.injEq, exists_eq_left', exists_eq_left, eq_self, reduceCtorEq, and_self, F_ok3, F_ag3, zz8, zzD, Nat.reduceAdd, Nat.zero_add, zzF, zzB, zzE, evS_assign, ints, getD_mid, len_map, lt_mid, ge_mid, zz6, Nat.reduceEqDiff, ↓reduceIte]
    refine hK3 _ ?_; try clear hK3 K3
    refine awp_keepL [4, 5, 6, 7] ?_
    simp only [zz20, zzI, look_nil, Nat.reduceBEq]
    refine awp_seq fun K3 hK3 => ?_
    refine awp_plain F_mixed [some 11, some 12, some 13, some 14, some 15, some 16] rfl ?_
    simp only [List.nil_append, List.cons_append, true_and, and_true, zz0, true_implies, Nat.reduceLT, Nat.reduceLeDiff, zzI, look_nil, Nat.reduceBEq, implies_true, Nat.reduceSub, S_getD, zz5, and_imp, imp_and, imp_self, and_self, evS_move, zz21, gr_v, zz22, zz25, zz13, pickK_l, pickK_r, zz6, Nat.reduceEqDiff, ↓reduceIte]
    refine hK3 _ ?_; try clear hK3 K3
    refine awp_keepL [5, 6, 7, 16] ?_
    simp only [zz20, zzI, look_nil, Nat.reduceBEq]
    refine awp_condS _ (by decide) (by simp only [look_cons, Nat.reduceBEq, cond_true, cond_false]; rfl) ?_ ?_
    · intro hb
      refine awp_seq fun K4 hK4 => ?_
      refine awp_plain F_mixed [some 2] rfl ?_
      simp only [List.nil_append, List.cons_append, true_and, and_true, zz0, true_implies, Nat.reduceLT, Nat.reduceLeDiff, zzI, look_nil, Nat.reduceBEq, implies_true, evS_assign, zz6, Nat.reduceEqDiff, ↓reduceIte]
      refine hK4 _ ?_; try clear hK4 K4
      refine awp_keepL [2] ?_
      simp only [zz20, zzI, look_nil, Nat.reduceBEq]
      refine awp_ret ?_
      simp only [zz6, Nat.reduceEqDiff, ↓reduceIte]
      refine done0 (by simp only [resCs, resC]; trivial) ?_ (by simp [flatA, flatAs, flatD]) (by simp [AV.ids, AV.idsL])
      simp only [List.map_cons, List.map_nil, resA, S_getD, Nat.reduceLT, Nat.reduceLeDiff, look_cons, Nat.reduceBEq, cond_true, cond_false, resAll]
      simp only [List.all_append, List.all_cons, rightN, hb]; simp
    · intro hb
      refine awp_skip ?_
      simp only [zz6, Nat.reduceEqDiff, ↓reduceIte]
      refine hK2 _ ?_; try clear hK2 K2
      refine awp_keepL [5, 6, 7] ?_
      simp only [zz20, zzI, look_nil, Nat.reduceBEq]
      refine awp_plain F_mixed [some 17, some 7] rfl ?_
      simp only [List.nil_append, List.cons_append, true_and, and_true, zz0, true_implies, Nat.reduceLT, Nat.reduceLeDiff, zzI, look_nil, Nat.reduceBEq, implies_true, zz21, gr_v, zz26, evS_move, zz6, Nat.reduceEqDiff, ↓reduceIte]
      refine ⟨post.length, _, by simp, le_S0 (l' := [(5, .d (ints (pre ++ x :: post))), (6, .d (iv (pre ++ x :: post).length)), (7, .d (iv (pre ++ [x]).length))]) ?_ ?_, pre ++ [x], post, by simp, by simp [hp, rightN, hb], rfl, rfl⟩
      · simp only [leL, look_cons, Nat.reduceBEq, cond_true, cond_false, wrap_len pre x (by simp at hl; omega), ints]; trivial
      · simp [wfV, AV.ids]
  · intro hb
    obtain rfl := none_of hb; clear hb
    refine awp_exit ?_
    simp only [zz6, Nat.reduceEqDiff, ↓reduceIte]
    refine hK0 _ ?_; try clear hK0 K0
    refine awp_keepL [] ?_
    simp only [zz20, zzI, look_nil, Nat.reduceBEq]
    refine awp_seq fun K0 hK0 => ?_
    refine awp_plain F_mixed [some 2] rfl ?_
    simp only [List.nil_append, List.cons_append, true_and, and_true, zz0, true_implies, Nat.reduceLT, Nat.reduceLeDiff, zzI, look_nil, Nat.reduceBEq, implies_true, evS_assign, zz6, Nat.reduceEqDiff, ↓reduceIte]
    refine hK0 _ ?_; try clear hK0 K0
    refine awp_keepL [2] ?_
    simp only [zz20, zzI, look_nil, Nat.reduceBEq]
    refine awp_ret ?_
    simp only [zz6, Nat.reduceEqDiff, ↓reduceIte]
    refine done0 (by simp only [resCs, resC]; trivial) ?_ (by simp [flatA, flatAs, flatD]) (by simp [AV.ids, AV.idsL])
    simp only [List.map_cons, List.map_nil, resA, S_getD, Nat.reduceLT, Nat.reduceLeDiff, look_cons, Nat.reduceBEq, cond_true, cond_false, resAll]
    simp only [List.append_nil, hp]
theorem within_ (t : Int) (h0 : -85070591730234615865843651857942052864 ≤ t) (h1 : t < 85070591730234615865843651857942052864) : ACalls Try.prog 62 [.v (.int .u64 (hiN t)), .v (.int .u64 (loN t))] [] (.tp [.d (iv (bif rightN t then t else 0)), .d (iv (bif rightN t then 0 else 1))]) := by
  refine acalls_S (rs := [.tmp 4, .tmp 5]) Try.func62 rfl rfl 21 [(0, .d (.v (.int .u64 (hiN t)))), (1, .d (.v (.int .u64 (loN t))))] rfl (by simp) rfl ?_
  refine awp_seq fun K0 hK0 => ?_
  refine awp_plain F_mixed [some 4, some 5] rfl ?_
  simp only [List.nil_append, List.cons_append, true_and, and_true, zz0, true_implies, Nat.reduceLT, Nat.reduceLeDiff, zzI, look_nil, Nat.reduceBEq, implies_true, evS_assign, zz6, Nat.reduceEqDiff, ↓reduceIte]
  refine hK0 _ ?_; try clear hK0 K0
  refine awp_keepL [0, 1] ?_
  simp only [zz20, zzI, look_nil, Nat.reduceBEq]
  refine awp_seq fun K0 hK0 => ?_
  refine awp_plain F_mixed [some 7, some 8, some 6] rfl ?_
  simp only [List.nil_append, List.cons_append, true_and, and_true, zz0, true_implies, Nat.reduceLT, Nat.reduceLeDiff, zzI, look_nil, Nat.reduceBEq, implies_true, evS_move, zz27, gr_v, F_cv86_3, F_cvV3, evS_assign, zz6, Nat.reduceEqDiff, ↓reduceIte]
  refine hK0 _ ?_; try clear hK0 K0
  refine awp_keepL [0, 6] ?_
  simp only [zz20, zzI, look_nil, Nat.reduceBEq]
  refine awp_seq fun K0 hK0 => ?_
  refine awp_seq fun K1 hK1 => ?_
  refine awp_plain F_mixed [some 9, some 10, some 11, some 12, some 13, some 14, some 15, some 16, some 17, some 18, some 19] rfl ?_
  simp only [List.nil_append, List.cons_append, true_and, and_true, zz0, true_implies, Nat.reduceLT, Nat.reduceLeDiff, zzI, look_nil, Nat.reduceBEq, implies_true, Nat.reduceSub, S_getD, zz5, and_imp, imp_and, imp_self, and_self, evS_move, zz21, gr_v, b_shr, pure_shr, Int.reduceLT, not_false_eq_true, zz27, F_cv3_86, F_cvV86, zz28, F_sl68, F_zero3, F_sz3, zz3, newRow1, zz1, zzG, zzD, zz16, Option.some.injEq, exists_eq_left', exists_eq_left, Option.map_some, eq_self, reduceCtorEq, Nat.reduceAdd, Nat.zero_add, zzF, zzB, zzE, maxLen_le, Nat.reduceMul, evS_call, evC_value, zz29, zz30, zz13, pickK_l, pickK_r, ints, List.map_cons, zz6, Nat.reduceEqDiff, ↓reduceIte]
  refine call_go F_go41 (fun hG => Right_ [IntKind.wrap .i64 (loN t)] (by simp)) (by simp [AV.ids, AV.idsL]) (by simp) ?_
  simp only [List.nil_append, List.cons_append, true_and, and_true, zz0, true_implies, Nat.reduceLT, Nat.reduceLeDiff, zzI, look_nil, Nat.reduceBEq, implies_true, Nat.reduceSub, S_getD, zz5, and_imp, imp_and, imp_self, and_self, evS_move, zz21, gr_v, b_shr, pure_shr, Int.reduceLT, not_false_eq_true, zz27, F_cv3_86, F_cvV86, zz28, F_sl68, F_zero3, F_sz3, zz3, newRow1, zz1, zzG, zzD, zz16, Option.some.injEq, exists_eq_left', exists_eq_left, Option.map_some, eq_self, reduceCtorEq, Nat.reduceAdd, Nat.zero_add, zzF, zzB, zzE, maxLen_le, Nat.reduceMul, evS_call, evC_value, zz29, zz30, zz13, pickK_l, pickK_r, ints, List.map_cons, zz6, Nat.reduceEqDiff, ↓reduceIte, atsL, oksG, freeN, AV.ren, AV.renL, addRows, ORow.row, Nat.reduceMul, Nat.reduceAdd, zz9, Option.bind_some, Option.map_some, forall_eq', D.sl.injEq, S_mem, Option.some.injEq, exists_eq_left', exists_eq_left, exists_eq', exists_eq, List.length_cons, zz2]
  refine hK1 _ ?_; try clear hK1 K1
  refine awp_keepL [6, 19] ?_
  simp only [zz20, zzI, look_nil, Nat.reduceBEq]
  refine awp_condS _ (by decide) (by simp only [look_cons, Nat.reduceBEq, cond_true, cond_false]; rfl) ?_ ?_
  · intro hb
    rw [within_law h0 h1] at hb
    refine awp_seq fun K2 hK2 => ?_
    refine awp_plain F_mixed [some 4, some 5] rfl ?_
    simp only [List.nil_append, List.cons_append, true_and, and_true, zz0, true_implies, Nat.reduceLT, Nat.reduceLeDiff, zzI, look_nil, Nat.reduceBEq, implies_true, evS_assign, zz6, Nat.reduceEqDiff, ↓reduceIte]
    refine hK2 _ ?_; try clear hK2 K2
    refine awp_keepL [4, 5] ?_
    simp only [zz20, zzI, look_nil, Nat.reduceBEq]
    refine awp_ret ?_
    simp only [zz6, Nat.reduceEqDiff, ↓reduceIte]
    refine done0 (by simp only [resCs, resC]; trivial) ?_ (by simp [flatA, flatAs, flatD]) (by simp [AV.ids, AV.idsL])
    simp only [List.map_cons, List.map_nil, resA, S_getD, Nat.reduceLT, Nat.reduceLeDiff, look_cons, Nat.reduceBEq, cond_true, cond_false, resAll]
    simp only [Bool.not_eq_true'] at hb; simp only [hb]; rfl
  · intro hb
    rw [within_law h0 h1] at hb
    refine awp_skip ?_
    simp only [zz6, Nat.reduceEqDiff, ↓reduceIte]
    refine hK0 _ ?_; try clear hK0 K0
    refine awp_keepL [6] ?_
    simp only [zz20, zzI, look_nil, Nat.reduceBEq]
    refine awp_seq fun K0 hK0 => ?_
    refine awp_plain F_mixed [some 20, some 4, some 5] rfl ?_
    simp only [List.nil_append, List.cons_append, true_and, and_true, zz0, true_implies, Nat.reduceLT, Nat.reduceLeDiff, zzI, look_nil, Nat.reduceBEq, implies_true, evS_move, evS_assign, zz6, Nat.reduceEqDiff, ↓reduceIte]
    refine hK0 _ ?_; try clear hK0 K0
    refine awp_keepL [4, 5] ?_
    simp only [zz20, zzI, look_nil, Nat.reduceBEq]
    refine awp_ret ?_
    simp only [zz6, Nat.reduceEqDiff, ↓reduceIte]
    refine done0 (by simp only [resCs, resC]; trivial) ?_ (by simp [flatA, flatAs, flatD]) (by simp [AV.ids, AV.idsL])
    simp only [List.map_cons, List.map_nil, resA, S_getD, Nat.reduceLT, Nat.reduceLeDiff, look_cons, Nat.reduceBEq, cond_true, cond_false, resAll]
    simp only [Bool.not_eq_false'] at hb; simp only [hb, within_val h0 h1 hb]; rfl
theorem Sum_ (l : List Int) (hl : l.length < 4611686018427387904) : ACalls Try.prog 55 [ints l] [] (.tp [.d (iv (sumV l)), .d (iv (sumE l))]) := by
  refine acalls_S (rs := [.tmp 2, .tmp 3]) Try.func55 rfl rfl 40 [(0, .d (ints l))] rfl (by simp) rfl ?_
  refine awp_seq fun K0 hK0 => ?_
  refine awp_plain F_mixed [some 2, some 3] rfl ?_
  simp only [List.nil_append, List.cons_append, true_and, and_true, zz0, true_implies, Nat.reduceLT, Nat.reduceLeDiff, zzI, look_nil, Nat.reduceBEq, implies_true, evS_assign, zz6, Nat.reduceEqDiff, ↓reduceIte]
  refine hK0 _ ?_; try clear hK0 K0
  refine awp_keepL [0] ?_
  simp only [zz20, zzI, look_nil, Nat.reduceBEq]
  refine awp_seq fun K0 hK0 => ?_
  refine awp_seq fun K1 hK1 => ?_
  refine awp_plain F_mixed [some 9, some 10, some 11] rfl ?_
  simp only [List.nil_append, List.cons_append, true_and, and_true, zz0, true_implies, Nat.reduceLT, Nat.reduceLeDiff, zzI, look_nil, Nat.reduceBEq, implies_true, evS_move, evS_call, evC_value, zz29, gr_v, zz30, zz6, Nat.reduceEqDiff, ↓reduceIte]
  refine call_go F_go41 (fun hG => Right_ l hl) (by simp [AV.ids, AV.idsL]) (by simp) ?_
  simp only [List.nil_append, List.cons_append, true_and, and_true, zz0, true_implies, Nat.reduceLT, Nat.reduceLeDiff, zzI, look_nil, Nat.reduceBEq, implies_true, evS_move, evS_call, evC_value, zz29, gr_v, zz30, zz6, Nat.reduceEqDiff, ↓reduceIte, atsL, oksG, freeN, AV.ren, AV.renL, addRows, ORow.row, Nat.reduceMul, Nat.reduceAdd, zz9, Option.bind_some, Option.map_some, forall_eq', D.sl.injEq, zz16, Option.some.injEq, exists_eq_left', exists_eq_left, exists_eq', exists_eq, zzD, zz2]
  refine hK1 _ ?_; try clear hK1 K1
  refine awp_keepL [0, 11] ?_
  simp only [zz20, zzI, look_nil, Nat.reduceBEq]
  refine awp_condS _ (by decide) (by simp only [look_cons, Nat.reduceBEq, cond_true, cond_false]; rfl) ?_ ?_
  · intro hb
    simp only [Bool.not_eq_true'] at hb
    refine awp_seq fun K2 hK2 => ?_
    refine awp_plain F_mixed [some 2, some 3] rfl ?_
    simp only [List.nil_append, List.cons_append, true_and, and_true, zz0, true_implies, Nat.reduceLT, Nat.reduceLeDiff, zzI, look_nil, Nat.reduceBEq, implies_true, evS_assign, zz6, Nat.reduceEqDiff, ↓reduceIte]
    refine hK2 _ ?_; try clear hK2 K2
    refine awp_keepL [2, 3] ?_
    simp only [zz20, zzI, look_nil, Nat.reduceBEq]
    refine awp_ret ?_
    simp only [zz6, Nat.reduceEqDiff, ↓reduceIte]
    refine done0 (by simp only [resCs, resC]; trivial) ?_ (by simp [flatA, flatAs, flatD]) (by simp [AV.ids, AV.idsL])
    simp only [List.map_cons, List.map_nil, resA, S_getD, Nat.reduceLT, Nat.reduceLeDiff, look_cons, Nat.reduceBEq, cond_true, cond_false, resAll]
    simp only [sumV, sumE, hb]; rfl
  · intro hb
    simp only [Bool.not_eq_false'] at hb
    have hall := hb; clear hb
    refine awp_skip ?_
    simp only [zz6, Nat.reduceEqDiff, ↓reduceIte]
    refine hK0 _ ?_; try clear hK0 K0
    refine awp_keepL [0] ?_
    simp only [zz20, zzI, look_nil, Nat.reduceBEq]
    refine awp_seq fun K0 hK0 => ?_
    refine awp_plain F_mixed [some 4, some 5] rfl ?_
    simp only [List.nil_append, List.cons_append, true_and, and_true, zz0, true_implies, Nat.reduceLT, Nat.reduceLeDiff, zzI, look_nil, Nat.reduceBEq, implies_true, evS_assign, zz6, Nat.reduceEqDiff, ↓reduceIte]
    refine hK0 _ ?_; try clear hK0 K0
    refine awp_keepL [0, 4, 5] ?_
    simp only [zz20, zzI, look_nil, Nat.reduceBEq]
    refine awp_seq fun K0 hK0 => ?_
    refine awp_seq fun K1 hK1 => ?_
    refine awp_plain F_mixed [some 12, some 13, some 14] rfl ?_
    simp only [List.nil_append, List.cons_append, true_and, and_true, zz0, true_implies, Nat.reduceLT, Nat.reduceLeDiff, zzI, look_nil, Nat.reduceBEq, implies_true, evS_move, evS_call, zz12, F_sl68, Option.isSome_some, ints, len_map, zz6, Nat.reduceEqDiff, ↓reduceIte]
    refine hK1 _ ?_; try clear hK1 K1
    refine awp_keepL [4, 5, 12, 13, 14] ?_
    simp only [zz20, zzI, look_nil, Nat.reduceBEq]
    refine awp_block ?_
    refine awp_loop (fun m s => ∃ pre post : List Int, l = pre ++ post ∧ m = post.length ∧ s = S 40 [(4, .d (.v (.int .u64 (hiN pre.sum)))), (5, .d (.v (.int .u64 (loN pre.sum)))), (12, .d (ints l)), (13, .d (iv l.length)), (14, .d (iv pre.length))] []) l.length _ (le_S0 (l' := [(4, .d (.v (.int .u64 (hiN ([] : List Int).sum)))), (5, .d (.v (.int .u64 (loN ([] : List Int).sum)))), (12, .d (ints l)), (13, .d (iv l.length)), (14, .d (iv 0))]) ?_ ?_) ⟨[], l, rfl, rfl, rfl⟩ ?_
    · simp only [leL, look_cons, Nat.reduceBEq, cond_true, cond_false, ints, len_map, List.sum_nil]; simp [loN, hiN]
    · simp [wfV, AV.ids]
    rintro m s ⟨pre, post, rfl, rfl, rfl⟩
    refine awp_seq fun K2 hK2 => ?_
    refine awp_plain F_mixed [some 15] rfl ?_
    simp only [List.nil_append, List.cons_append, true_and, and_true, zz0, true_implies, Nat.reduceLT, Nat.reduceLeDiff, zzI, look_nil, Nat.reduceBEq, implies_true, zz21, gr_v, zz22, zz6, Nat.reduceEqDiff, ↓reduceIte]
    refine hK2 _ ?_; try clear hK2 K2
    refine awp_keepL [4, 5, 12, 13, 14, 15] ?_
    simp only [zz20, zzI, look_nil, Nat.reduceBEq]
    refine awp_seq fun K2 hK2 => ?_
    refine awp_condS _ (by decide) (by simp only [look_cons, Nat.reduceBEq, cond_true, cond_false]; rfl) ?_ ?_
    · intro hb
      obtain ⟨x, post, rfl⟩ := more_of hb; clear hb
      have hr : rightN x = true := by simp at hall; exact hall.2.1
      refine awp_skip ?_
      simp only [zz6, Nat.reduceEqDiff, ↓reduceIte]
      refine hK2 _ ?_; try clear hK2 K2
      refine awp_keepL [4, 5, 12, 13, 14] ?_
      simp only [zz20, zzI, look_nil, Nat.reduceBEq]
      refine awp_seq fun K2 hK2 => ?_
      refine awp_block ?_
      refine awp_seq fun K3 hK3 => ?_
      refine awp_plain F_mixed [some 16, some 17, some 7] rfl ?_
      simp only [List.nil_append, List.cons_append, true_and, and_true, zz0, true_implies, Nat.reduceLT, Nat.reduceLeDiff, zzI, look_nil, Nat.reduceBEq, implies_true, evS_indexAddr, zz23, zz24, F_sl68, F_sz3, Option.map_some, zz16, Option.some.injEq, exists_eq_left', exists_eq_left, eq_self, reduceCtorEq, and_self, F_ok3, F_ag3, zz8, zzD, Nat.reduceAdd, Nat.zero_add, zzF, zzB, zzE, evS_assign, ints, getD_mid, len_map, lt_mid, ge_mid, zz6, Nat.reduceEqDiff, ↓reduceIte]
      refine hK3 _ ?_; try clear hK3 K3
      refine awp_keepL [4, 5, 7, 12, 13, 14] ?_
      simp only [zz20, zzI, look_nil, Nat.reduceBEq]
      refine awp_seq fun K3 hK3 => ?_
      refine awp_plain F_mixed [some 8] rfl ?_
      simp only [List.nil_append, List.cons_append, true_and, and_true, zz0, true_implies, Nat.reduceLT, Nat.reduceLeDiff, zzI, look_nil, Nat.reduceBEq, implies_true, evS_assign, zz6, Nat.reduceEqDiff, ↓reduceIte]
      refine hK3 _ ?_; try clear hK3 K3
      refine awp_keepL [4, 5, 7, 12, 13, 14] ?_
      simp only [zz20, zzI, look_nil, Nat.reduceBEq]
      refine awp_seq fun K3 hK3 => ?_
      refine awp_plain F_mixed [some 19, some 20, some 21, some 22, some 18, some 23, some 24, some 5, some 8] rfl ?_
      simp only [List.nil_append, List.cons_append, true_and, and_true, zz0, true_implies, Nat.reduceLT, Nat.reduceLeDiff, zzI, look_nil, Nat.reduceBEq, implies_true, evS_move, zz27, gr_v, F_cv3_86, F_cvV86, evS_call, evC_value, zz14, zzD, Nat.reduceAdd, Nat.zero_add, zzF, evS_assign, zz6, Nat.reduceEqDiff, ↓reduceIte]
      refine call_ext _ _ (add64 (loN pre.sum) (IntKind.wrap .u64 x) 0 (lo_nn _) (wu_nn _) (by decide) (by decide)) ?_
      simp only [List.nil_append, List.cons_append, true_and, and_true, zz0, true_implies, Nat.reduceLT, Nat.reduceLeDiff, zzI, look_nil, Nat.reduceBEq, implies_true, evS_move, zz27, gr_v, F_cv3_86, F_cvV86, evS_call, evC_value, zz14, zzD, Nat.reduceAdd, Nat.zero_add, zzF, evS_assign, zz6, Nat.reduceEqDiff, ↓reduceIte, grsL, gr_v, Option.bind_some, Option.map_some, Option.some.injEq, oksL, ofV_pair, ofV_int, ofV_bool]
      refine hK3 _ ?_; try clear hK3 K3
      refine awp_keepL [4, 5, 7, 8, 12, 13, 14] ?_
      simp only [zz20, zzI, look_nil, Nat.reduceBEq]
      refine awp_plain F_mixed [some 26, some 27, some 28, some 29, some 30, some 31, some 25, some 32, some 33, some 4] rfl ?_
      simp only [List.nil_append, List.cons_append, true_and, and_true, zz0, true_implies, Nat.reduceLT, Nat.reduceLeDiff, zzI, look_nil, Nat.reduceBEq, implies_true, evS_move, zz21, gr_v, b_shr, pure_shr, Int.reduceLT, not_false_eq_true, zz27, F_cv3_86, F_cvV86, evS_call, evC_value, zz14, zzD, Nat.reduceAdd, Nat.zero_add, zzF, evS_assign, zz6, Nat.reduceEqDiff, ↓reduceIte]
      refine call_ext _ _ (add64 (hiN pre.sum) (IntKind.wrap .u64 (x.fdiv (2 ^ (min (Int.toNat 63) (IntKind.bits .i64))))) ((loN pre.sum + IntKind.wrap .u64 x + 0) / 18446744073709551616) (hi_nn _) (wu_nn _) (carry0 _ _) (carry1 _ _)) ?_
      simp only [List.nil_append, List.cons_append, true_and, and_true, zz0, true_implies, Nat.reduceLT, Nat.reduceLeDiff, zzI, look_nil, Nat.reduceBEq, implies_true, evS_move, zz21, gr_v, b_shr, pure_shr, Int.reduceLT, not_false_eq_true, zz27, F_cv3_86, F_cvV86, evS_call, evC_value, zz14, zzD, Nat.reduceAdd, Nat.zero_add, zzF, evS_assign, zz6, Nat.reduceEqDiff, ↓reduceIte, grsL, gr_v, Option.bind_some, Option.map_some, Option.some.injEq, oksL, ofV_pair, ofV_int, ofV_bool]
      refine hK2 _ ?_; try clear hK2 K2
      refine awp_keepL [4, 5, 12, 13, 14] ?_
      simp only [zz20, zzI, look_nil, Nat.reduceBEq]
      refine awp_plain F_mixed [some 34, some 14] rfl ?_
      simp only [List.nil_append, List.cons_append, true_and, and_true, zz0, true_implies, Nat.reduceLT, Nat.reduceLeDiff, zzI, look_nil, Nat.reduceBEq, implies_true, zz21, gr_v, zz26, evS_move, zz6, Nat.reduceEqDiff, ↓reduceIte]
      have hx : -9223372036854775808 ≤ x ∧ x < 9223372036854775808 := by
        simp [rightN] at hr; omega
      refine ⟨post.length, _, by simp, le_S0 (l' := [(4, .d (.v (.int .u64 (hiN (pre ++ [x]).sum)))), (5, .d (.v (.int .u64 (loN (pre ++ [x]).sum)))), (12, .d (ints (pre ++ x :: post))), (13, .d (iv (pre ++ x :: post).length)), (14, .d (iv (pre ++ [x]).length))]) ?_ ?_, pre ++ [x], post, by simp, rfl, rfl⟩
      · simp only [leL, look_cons, Nat.reduceBEq, cond_true, cond_false, wrap_len pre x (by simp at hl; omega), ints, List.sum_append, List.sum_cons, List.sum_nil, Int.add_zero]
        rw [← add_lo, ← add_hi _ hx.1 hx.2]
        simp only [Int.add_zero]; trivial
      · simp [wfV, AV.ids]
    · intro hb
      obtain rfl := none_of hb; clear hb
      simp only [List.append_nil] at hl hall ⊢
      refine awp_exit ?_
      simp only [zz6, Nat.reduceEqDiff, ↓reduceIte]
      refine hK0 _ ?_; try clear hK0 K0
      refine awp_keepL [4, 5] ?_
      simp only [zz20, zzI, look_nil, Nat.reduceBEq]
      refine awp_seq fun K0 hK0 => ?_
      refine awp_plain F_mixed [some 35, some 36, some 37, some 38, some 39, some 2, some 3] rfl ?_
      simp only [List.nil_append, List.cons_append, true_and, and_true, zz0, true_implies, Nat.reduceLT, Nat.reduceLeDiff, zzI, look_nil, Nat.reduceBEq, implies_true, evS_move, evS_call, evC_value, zz14, zzD, Nat.reduceAdd, Nat.zero_add, zzF, evS_assign, zz6, Nat.reduceEqDiff, ↓reduceIte]
      refine call_go F_go62 (fun hG => within_ pre.sum (sum_bound hall hl).1 (sum_bound hall hl).2) (by simp [AV.ids, AV.idsL]) (by simp) ?_
      simp only [List.nil_append, List.cons_append, true_and, and_true, zz0, true_implies, Nat.reduceLT, Nat.reduceLeDiff, zzI, look_nil, Nat.reduceBEq, implies_true, evS_move, evS_call, evC_value, zz14, zzD, Nat.reduceAdd, Nat.zero_add, zzF, evS_assign, zz6, Nat.reduceEqDiff, ↓reduceIte, atsL, oksG, freeN, AV.ren, AV.renL, addRows, ORow.row, Nat.reduceMul, Nat.reduceAdd, zz9, Option.bind_some, Option.map_some, forall_eq', D.sl.injEq, zz16, Option.some.injEq, exists_eq_left', exists_eq_left, exists_eq', exists_eq, List.length_cons, zz2]
      refine hK0 _ ?_; try clear hK0 K0
      refine awp_keepL [2, 3] ?_
      simp only [zz20, zzI, look_nil, Nat.reduceBEq]
      refine awp_ret ?_
      simp only [zz6, Nat.reduceEqDiff, ↓reduceIte]
      refine done0 (by simp only [resCs, resC]; trivial) ?_ (by simp [flatA, flatAs, flatD]) (by simp [AV.ids, AV.idsL])
      simp only [List.map_cons, List.map_nil, resA, S_getD, Nat.reduceLT, Nat.reduceLeDiff, look_cons, Nat.reduceBEq, cond_true, cond_false, resAll]
      simp only [List.append_nil, sumV, sumE, hall, Bool.true_and, cond_true]
end Go.Proofs.Ytepphpbjgnapfaa
