import Derived.Test.YtcpiojfhbebfiaaWpC
namespace Go.Proofs.Ytcpiojfhbebfiaa
open Go.RowKit
set_option linter.unusedVariables false
set_option linter.unusedSimpArgs false
theorem F_sl27 : sliceT Try.prog 27 = some 46 := by kernel_rfl
theorem F_zero46 : zeroT Try.prog 46 = some [(.int .i64 0), (.int .i64 0), (.int .i64 0), (.int .i64 0)] := by kernel_rfl
theorem F_sz46 : szT Try.prog 46 = 4 := by kernel_rfl
theorem F_by46 : byT Try.prog 46 = 32 := by kernel_rfl
theorem twinPoss_ (l : List PosV) (hl : l.length ≤ 1000000) : ACalls Try.prog 10 [poss l] [⟨46, 4, l.map posC⟩] (.ref 0 l.length) := by
  refine acalls_S (rs := [.tmp 2]) Try.func10 rfl rfl 7 [(0, .d (poss l))] rfl (by simp) rfl ?_
  refine awp_seq fun K0 hK0 => ?_
  refine awp_plain F_mixed [some 2] rfl ?_
  simp only [List.nil_append, List.cons_append, true_and, and_true, zz0, true_implies, Nat.reduceLT, Nat.reduceLeDiff, zzI, look_nil, Nat.reduceBEq, implies_true, evS_assign, zz6, Nat.reduceEqDiff, ↓reduceIte]
  refine hK0 _ ?_; try clear hK0 K0
  refine awp_keepL [0] ?_
  simp only [zz20, zzI, look_nil, Nat.reduceBEq]
  refine awp_seq fun K0 hK0 => ?_
  refine awp_plain F_mixed [some 3] rfl ?_
  simp only [List.nil_append, List.cons_append, true_and, and_true, zz0, true_implies, Nat.reduceLT, Nat.reduceLeDiff, zzI, look_nil, Nat.reduceBEq, implies_true, evS_assign, zz6, Nat.reduceEqDiff, ↓reduceIte]
  refine hK0 _ ?_; try clear hK0 K0
  refine awp_keepL [0, 3] ?_
  simp only [zz20, zzI, look_nil, Nat.reduceBEq]
  refine awp_seq fun K0 hK0 => ?_
  refine awp_plain F_mixed [some 4, some 5, some 6, some 2] rfl ?_
  simp only [List.nil_append, List.cons_append, true_and, and_true, zz0, true_implies, Nat.reduceLT, Nat.reduceLeDiff, zzI, look_nil, Nat.reduceBEq, implies_true, evS_move, evS_call, F_sl27, F_zero46, F_sz46, F_by46, zz4, maxLen_le, Nat.reduceMul, newRow1, zz9, Option.bind_some, Option.map_some, zz16, Option.some.injEq, exists_eq_left', exists_eq_left, eq_self, reduceCtorEq, and_self, zzD, Nat.reduceAdd, Nat.zero_add, zzF, zzB, zzE, evS_assign, poss, len_map, zz6, Nat.reduceEqDiff, ↓reduceIte]
  refine ⟨le_maxLen hl, by omega, ?_⟩
  refine hK0 _ ?_; try clear hK0 K0
  refine awp_keepL [2] ?_
  simp only [zz20, zzI, look_nil, Nat.reduceBEq]
  refine awp_ret ?_
  simp only [zz6, Nat.reduceEqDiff, ↓reduceIte]
  refine done1 6 (by simp only [resCs, resC]; trivial) ?_ (by simp [flatA, flatAs, flatD, posC]) (by simp [AV.ids, AV.idsL, posC]) (by rfl) trivial rfl rfl ?_ (by simp [flatDs, flatD, posC])
  · simp only [List.map_cons, List.map_nil, resA, S_getD, Nat.reduceLT, Nat.reduceLeDiff, look_cons, Nat.reduceBEq, cond_true, cond_false, resAll]; rfl
  · simp
theorem twinPossF (l : List PosV) (hl : l.length ≤ 1000000) : ACalls Try.prog 10 [poss l] [] (.d (poss l)) :=
  (twinPoss_ l hl).freeze (by simp [frzOk])
end Go.Proofs.Ytcpiojfhbebfiaa
