import Derived.Test.YtcpiojfhbebfiaaSpecH
import Derived.Test.YtcpiojfhbebfiaaWpJ
namespace Go.Proofs.Ytcpiojfhbebfiaa
open Go.RowKit
set_option linter.unusedVariables false
set_option linter.unusedSimpArgs false
theorem F_fld31_0 : fldT Try.prog 31 0 = some (0, 1) := by kernel_rfl
theorem F_fld31_1 : fldT Try.prog 31 1 = some (1, 1) := by kernel_rfl
theorem F_bld49 : bldT Try.prog 49 = true := by kernel_rfl
theorem F_fld49_0 : fldT Try.prog 49 0 = some (0, 1) := by kernel_rfl
theorem F_fld49_2 : fldT Try.prog 49 2 = some (2, 1) := by kernel_rfl
theorem F_fld49_6 : fldT Try.prog 49 6 = some (6, 6) := by kernel_rfl
theorem F_zero26 : zeroT Try.prog 26 = some [(.slice none 0 0), (.slice none 0 0), (.slice none 0 0)] := by kernel_rfl
theorem F_bld26 : bldT Try.prog 26 = true := by kernel_rfl
theorem F_fld26_1 : fldT Try.prog 26 1 = some (1, 1) := by kernel_rfl
theorem F_zero44 : zeroT Try.prog 44 = some [(.int .i64 0), (.int .i64 0)] := by kernel_rfl
theorem F_bld44 : bldT Try.prog 44 = true := by kernel_rfl
theorem F_fld44_0 : fldT Try.prog 44 0 = some (0, 1) := by kernel_rfl
theorem F_fld44_1 : fldT Try.prog 44 1 = some (1, 1) := by kernel_rfl
theorem F_bld46 : bldT Try.prog 46 = true := by kernel_rfl
theorem F_fld46_0 : fldT Try.prog 46 0 = some (0, 2) := by kernel_rfl
theorem F_fld46_1 : fldT Try.prog 46 1 = some (2, 1) := by kernel_rfl
theorem F_go13 : goFn Try.prog 13 := ⟨_, Try.func13, rfl, rfl⟩
theorem wakes15_ : ACalls Try.prog 17 [] [] (bv true) := by
  refine acalls_S (rs := [.tmp 0]) Try.func17 rfl rfl 22 [] rfl (by simp) rfl ?_
  have e1 : margV ⟨[], [⟨3, 0, 10, 0, 0, 0, 3, -2, 0, 0, 0, 0⟩], []⟩ 1 0 [⟨1, 3, 5, 0⟩] = 100 := by decide
  have e2 : margE ⟨[], [⟨3, 0, 10, 0, 0, 0, 3, -2, 0, 0, 0, 0⟩], []⟩ 1 0 [⟨1, 3, 5, 0⟩] = 0 := by decide
  refine awp_seq fun K0 hK0 => ?_
  refine awp_plain F_mixed [some 0] rfl ?_
  simp only [List.nil_append, List.cons_append, true_and, and_true, zz0, true_implies, Nat.reduceLT, Nat.reduceLeDiff, zzI, look_nil, Nat.reduceBEq, implies_true, evS_assign, zz6, Nat.reduceEqDiff, ↓reduceIte]
  refine hK0 _ ?_; try clear hK0 K0
  refine awp_keepL [] ?_
  simp only [zz20, zzI, look_nil, Nat.reduceBEq]
  refine awp_seq fun K0 hK0 => ?_
  refine awp_plain F_mixed [some 4, some 5, some 6, some 7, some 1, none] rfl ?_
  simp only [List.nil_append, List.cons_append, true_and, and_true, zz0, true_implies, Nat.reduceLT, Nat.reduceLeDiff, zzI, look_nil, Nat.reduceBEq, implies_true, F_zero31, F_bld31, zz7, splice, Option.getD_some, List.append_nil, zz1, zzG, zzD, zz16, Option.some.injEq, exists_eq_left', exists_eq_left, Option.map_some, eq_self, reduceCtorEq, and_self, Nat.reduceAdd, Nat.zero_add, zzF, zzB, zzE, zz10, F_fld31_0, F_fld31_1, F_zero49, F_bld49, F_fld49_0, F_fld49_2, F_fld49_6, F_sl23, F_sz49, zz3, newRow1, maxLen_le, Nat.reduceMul, F_zero26, F_bld26, F_fld26_1, zz32, zz18, F_ok26, F_sz26, zz6, Nat.reduceEqDiff, ↓reduceIte]
  refine hK0 _ ?_; try clear hK0 K0
  refine awp_keepL [1] ?_
  simp only [zz20, zzI, look_nil, Nat.reduceBEq]
  refine awp_seq fun K0 hK0 => ?_
  refine awp_plain F_mixed [some 9, some 10, some 11, some 12, some 13, some 8, some 14, some 15, some 2, some 3] rfl ?_
  simp only [List.nil_append, List.cons_append, true_and, and_true, zz0, true_implies, Nat.reduceLT, Nat.reduceLeDiff, zzI, look_nil, Nat.reduceBEq, implies_true, F_ok26, F_ag26, F_sz26, zz8, zz23, zzD, Nat.reduceAdd, Nat.zero_add, zzF, zzB, zzE, zz16, Option.some.injEq, exists_eq_left', exists_eq_left, Option.map_some, eq_self, reduceCtorEq, and_self, F_zero44, F_bld44, zz7, splice, Option.getD_some, List.append_nil, zz1, zzG, zz10, F_fld44_0, F_fld44_1, F_zero46, F_bld46, F_fld46_0, F_fld46_1, F_sl27, F_sz46, zz3, newRow1, maxLen_le, Nat.reduceMul, evS_call, evC_value, evS_move, zz14, evS_assign, rollC, memsD, instsD, assetsD, instC, poss, posC, List.map_cons, D.sl.injEq, zz6, Nat.reduceEqDiff, ↓reduceIte]
  refine call_goE F_go13 (fun hG => Margin_ ⟨[], [⟨3, 0, 10, 0, 0, 0, 3, -2, 0, 0, 0, 0⟩], []⟩ 1 0 [⟨1, 3, 5, 0⟩] ⟨by decide, by decide, by decide⟩ (by decide)) (by simp [AV.ids, AV.idsL]) (by simp) ?_
  simp only [List.nil_append, List.cons_append, true_and, and_true, zz0, true_implies, Nat.reduceLT, Nat.reduceLeDiff, zzI, look_nil, Nat.reduceBEq, implies_true, F_ok26, F_ag26, F_sz26, zz8, zz23, zzD, Nat.reduceAdd, Nat.zero_add, zzF, zzB, zzE, zz16, Option.some.injEq, exists_eq_left', exists_eq_left, Option.map_some, eq_self, reduceCtorEq, and_self, F_zero44, F_bld44, zz7, splice, Option.getD_some, List.append_nil, zz1, zzG, zz10, F_fld44_0, F_fld44_1, F_zero46, F_bld46, F_fld46_0, F_fld46_1, F_sl27, F_sz46, zz3, newRow1, maxLen_le, Nat.reduceMul, evS_call, evC_value, evS_move, zz14, evS_assign, rollC, memsD, instsD, assetsD, instC, poss, posC, List.map_cons, D.sl.injEq, zz6, Nat.reduceEqDiff, ↓reduceIte, asEs_cons, asEs_nil, asE_ag, asE_d, asE_ref, asEc_cons, asEc_nil, asF_d, asF_ref, asF_ag, asGs, oksF, atsL, oksG, freeN, AV.ren, AV.renL, addRows, ORow.row, Nat.reduceMul, Nat.reduceAdd, zz9, Option.bind_some, Option.map_some, forall_eq', D.sl.injEq, S_mem, Option.some.injEq, exists_eq_left', exists_eq_left, exists_eq', exists_eq, List.length_cons, zz2]
  refine hK0 _ ?_; try clear hK0 K0
  refine awp_keepL [2, 3] ?_
  simp only [zz20, zzI, look_nil, Nat.reduceBEq]
  refine awp_seq fun K0 hK0 => ?_
  refine awp_plain F_mixed [some 16, some 17, some 18, some 19, some 20, some 21, some 0] rfl ?_
  simp only [List.nil_append, List.cons_append, true_and, and_true, zz0, true_implies, Nat.reduceLT, Nat.reduceLeDiff, zzI, look_nil, Nat.reduceBEq, implies_true, Nat.reduceSub, S_getD, zz5, and_imp, imp_and, imp_self, and_self, evS_move, zz21, gr_v, zz34, zz13, evS_assign, e1, e2, zz6, Nat.reduceEqDiff, ↓reduceIte]
  refine hK0 _ ?_; try clear hK0 K0
  refine awp_keepL [0] ?_
  simp only [zz20, zzI, look_nil, Nat.reduceBEq]
  refine awp_ret ?_
  simp only [zz6, Nat.reduceEqDiff, ↓reduceIte]
  refine done0 (by simp only [resCs, resC]; trivial) ?_ (by simp [flatA, flatAs, flatD]) (by simp [AV.ids, AV.idsL])
  simp only [List.map_cons, List.map_nil, resA, S_getD, Nat.reduceLT, Nat.reduceLeDiff, look_cons, Nat.reduceBEq, cond_true, cond_false, resAll]
  rfl
end Go.Proofs.Ytcpiojfhbebfiaa
