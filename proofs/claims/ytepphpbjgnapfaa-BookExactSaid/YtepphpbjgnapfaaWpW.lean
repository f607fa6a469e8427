import Derived.Test.YtepphpbjgnapfaaWpF
namespace Go.Proofs.Ytepphpbjgnapfaa
open Go.RowKit
set_option linter.unusedVariables false
set_option linter.unusedSimpArgs false
theorem F_bld27 : bldT Try.prog 27 = true := by kernel_rfl
theorem F_fld27_1 : fldT Try.prog 27 1 = some (1, 1) := by kernel_rfl
theorem F_fld27_2 : fldT Try.prog 27 2 = some (2, 1) := by kernel_rfl
theorem F_fld27_3 : fldT Try.prog 27 3 = some (3, 1) := by kernel_rfl
theorem F_fld27_4 : fldT Try.prog 27 4 = some (4, 1) := by kernel_rfl
theorem F_fld27_5 : fldT Try.prog 27 5 = some (5, 1) := by kernel_rfl
theorem wakes13_ : ACalls Try.prog 11 [] [] (bv true) := by
  refine acalls_S (rs := [.tmp 0]) Try.func11 rfl rfl 41 [] rfl (by simp) rfl ?_
  obtain ⟨w1, w2, w3, w4, w5⟩ := wk13
  have wl := enter_len ⟨0, [], []⟩ ⟨0, 1, 2, 3, 5, 10, false⟩
  simp only [List.length_nil] at wl
  refine awp_seq fun K0 hK0 => ?_
  refine awp_plain F_mixed [some 0] rfl ?_
  simp only [List.nil_append, List.cons_append, true_and, and_true, zz0, true_implies, Nat.reduceLT, Nat.reduceLeDiff, zzI, look_nil, Nat.reduceBEq, implies_true, evS_assign, zz6, Nat.reduceEqDiff, ↓reduceIte]
  refine hK0 _ ?_; try clear hK0 K0
  refine awp_keepL [] ?_
  simp only [zz20, zzI, look_nil, Nat.reduceBEq]
  refine awp_seq fun K0 hK0 => ?_
  refine awp_plain F_mixed [some 7, some 8, some 9, some 6, some 10, some 11, some 12, some 1, none, some 2, some 3] rfl ?_
  simp only [List.nil_append, List.cons_append, true_and, and_true, zz0, true_implies, Nat.reduceLT, Nat.reduceLeDiff, zzI, look_nil, Nat.reduceBEq, implies_true, F_zero25, F_bld25, zz7, splice, Option.getD_some, List.append_nil, zz1, zzG, zzD, zz16, Option.some.injEq, exists_eq_left', exists_eq_left, Option.map_some, eq_self, reduceCtorEq, and_self, Nat.reduceAdd, Nat.zero_add, zzF, zzB, zzE, zz10, F_zero27, F_bld27, F_fld27_1, F_fld27_2, F_fld27_3, F_fld27_4, F_fld27_5, evS_call, evC_value, evS_move, zz14, zz32, newRow1, zz18, F_ok25, F_sz25, evS_assign, bookC, tradesB, poss, tradeC, D.agg.injEq, zz6, Nat.reduceEqDiff, ↓reduceIte]
  refine call_goE F_go9 (fun hG => enterF ⟨0, [], []⟩ ⟨0, 1, 2, 3, 5, 10, false⟩ (by simp) (by simp)) (by simp [AV.ids, AV.idsL]) (by simp) ?_
  simp only [List.nil_append, List.cons_append, true_and, and_true, zz0, true_implies, Nat.reduceLT, Nat.reduceLeDiff, zzI, look_nil, Nat.reduceBEq, implies_true, F_zero25, F_bld25, zz7, splice, Option.getD_some, List.append_nil, zz1, zzG, zzD, zz16, Option.some.injEq, exists_eq_left', exists_eq_left, Option.map_some, eq_self, reduceCtorEq, and_self, Nat.reduceAdd, Nat.zero_add, zzF, zzB, zzE, zz10, F_zero27, F_bld27, F_fld27_1, F_fld27_2, F_fld27_3, F_fld27_4, F_fld27_5, evS_call, evC_value, evS_move, zz14, zz32, newRow1, zz18, F_ok25, F_sz25, evS_assign, bookC, tradesB, poss, tradeC, D.agg.injEq, zz6, Nat.reduceEqDiff, ↓reduceIte, asEs_cons, asEs_nil, asE_ag, asE_d, asE_ref, asEc_cons, asEc_nil, asF_d, asF_ref, asF_ag, asGs, oksF, atsL, oksG, freeN, AV.ren, AV.renL, addRows, ORow.row, Nat.reduceMul, Nat.reduceAdd, zz9, Option.bind_some, Option.map_some, forall_eq', D.sl.injEq, S_mem, Option.some.injEq, exists_eq_left', exists_eq_left, exists_eq', exists_eq, List.length_cons, zz2]
  refine hK0 _ ?_; try clear hK0 K0
  refine awp_keepL [1, 2, 3] ?_
  simp only [zz20, zzI, look_nil, Nat.reduceBEq]
  refine awp_seq fun K0 hK0 => ?_
  refine awp_plain F_mixed [some 14, some 15, some 16, some 13, some 17, some 18, some 4, none, some 5] rfl ?_
  simp only [List.nil_append, List.cons_append, true_and, and_true, zz0, true_implies, Nat.reduceLT, Nat.reduceLeDiff, zzI, look_nil, Nat.reduceBEq, implies_true, F_ok25, F_ag25, F_sz25, zz8, zz23, zzD, Nat.reduceAdd, Nat.zero_add, zzF, zzB, zzE, zz16, Option.some.injEq, exists_eq_left', exists_eq_left, Option.map_some, eq_self, reduceCtorEq, and_self, evS_move, evS_call, evC_value, zz14, zz32, newRow1, F_zero25, zz10, zz18, splice, List.append_nil, zz1, zzG, evS_assign, bookC, tradesB, poss, D.agg.injEq, w2, zz6, Nat.reduceEqDiff, ↓reduceIte]
  refine call_go F_go13 (fun hG => cancelF (enterV ⟨0, [], []⟩ ⟨0, 1, 2, 3, 5, 10, false⟩) 1 (by omega) (by omega)) (by simp [AV.ids, AV.idsL]) (by simp) ?_
  simp only [List.nil_append, List.cons_append, true_and, and_true, zz0, true_implies, Nat.reduceLT, Nat.reduceLeDiff, zzI, look_nil, Nat.reduceBEq, implies_true, F_ok25, F_ag25, F_sz25, zz8, zz23, zzD, Nat.reduceAdd, Nat.zero_add, zzF, zzB, zzE, zz16, Option.some.injEq, exists_eq_left', exists_eq_left, Option.map_some, eq_self, reduceCtorEq, and_self, evS_move, evS_call, evC_value, zz14, zz32, newRow1, F_zero25, zz10, zz18, splice, List.append_nil, zz1, zzG, evS_assign, bookC, tradesB, poss, D.agg.injEq, w2, zz6, Nat.reduceEqDiff, ↓reduceIte, atsL, oksG, freeN, AV.ren, AV.renL, addRows, ORow.row, Nat.reduceMul, Nat.reduceAdd, zz9, Option.bind_some, Option.map_some, forall_eq', D.sl.injEq, S_mem, Option.some.injEq, exists_eq_left', exists_eq_left, exists_eq', exists_eq, List.length_cons, zz2]
  refine hK0 _ ?_; try clear hK0 K0
  refine awp_keepL [1, 2, 3, 4, 5] ?_
  simp only [zz20, zzI, look_nil, Nat.reduceBEq]
  refine awp_seq fun K0 hK0 => ?_
  refine awp_plain F_mixed [some 19, some 20, some 21, some 22, some 23, some 24, some 25, some 26, some 27, some 28, some 29, some 30, some 31, some 32, some 33, some 34, some 35, some 36, some 37, some 38, some 39, some 40, some 0] rfl ?_
  simp only [List.nil_append, List.cons_append, true_and, and_true, zz0, true_implies, Nat.reduceLT, Nat.reduceLeDiff, zzI, look_nil, Nat.reduceBEq, implies_true, Nat.reduceSub, S_getD, zz5, and_imp, imp_and, imp_self, and_self, evS_move, zz21, gr_v, zz34, zz13, pickK_l, pickK_r, zz19, zz23, F_off25_2, zzB, Nat.zero_add, Nat.reduceAdd, F_ok23, F_ag23, F_sz23, zz8, zzD, zzF, zzE, zz16, Option.some.injEq, exists_eq_left', exists_eq_left, Option.map_some, eq_self, reduceCtorEq, evS_call, zz12, F_sl23, Option.isSome_some, evS_assign, bookC, tradesB, poss, len_map, w1, w2, w3, w4, w5, zz6, Nat.reduceEqDiff, ↓reduceIte]
  refine hK0 _ ?_; try clear hK0 K0
  refine awp_keepL [0] ?_
  simp only [zz20, zzI, look_nil, Nat.reduceBEq]
  refine awp_ret ?_
  simp only [zz6, Nat.reduceEqDiff, ↓reduceIte]
  refine done0 (by simp only [resCs, resC]; trivial) ?_ (by simp [flatA, flatAs, flatD]) (by simp [AV.ids, AV.idsL])
  simp only [List.map_cons, List.map_nil, resA, S_getD, Nat.reduceLT, Nat.reduceLeDiff, look_cons, Nat.reduceBEq, cond_true, cond_false, resAll]
  rfl
end Go.Proofs.Ytepphpbjgnapfaa
