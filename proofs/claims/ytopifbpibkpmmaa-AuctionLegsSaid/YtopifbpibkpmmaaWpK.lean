import Derived.Test.YtopifbpibkpmmaaWpH
import Derived.Test.YtopifbpibkpmmaaWpJ
namespace Go.Proofs.Ytopifbpibkpmmaa
open Go.RowKit
set_option linter.unusedVariables false
set_option linter.unusedSimpArgs false
theorem F_bld31 : bldT Try.prog 31 = true := by kernel_rfl
theorem F_fld31_1 : fldT Try.prog 31 1 = some (2, 1) := by kernel_rfl
theorem F_fld31_2 : fldT Try.prog 31 2 = some (3, 1) := by kernel_rfl
theorem F_fld31_3 : fldT Try.prog 31 3 = some (4, 1) := by kernel_rfl
theorem F_go9 : goFn Try.prog 9 := ⟨_, Try.func9, rfl, rfl⟩
theorem wakes19_ : ACalls Try.prog 10 [] [] (bv true) := by
  refine acalls_S (rs := [.tmp 0]) Try.func10 rfl rfl 37 [] rfl (by simp) rfl ?_
  have cast2N : ((2 : Nat) : Int) = 2 := rfl
  have w1 : filV 5 [⟨0, 0, 2, 3, 9⟩, ⟨0, 0, 3, 4, 10⟩] = [⟨3, 4, 10⟩, ⟨2, 1, 9⟩] := by rfl
  have w2 : filR 5 [⟨0, 0, 2, 3, 9⟩, ⟨0, 0, 3, 4, 10⟩] = 0 := by rfl
  have w3 : filE 5 [⟨0, 0, 2, 3, 9⟩, ⟨0, 0, 3, 4, 10⟩] = 0 := by rfl
  refine awp_seq fun K0 hK0 => ?_
  refine awp_plain F_mixed [some 0] rfl ?_
  simp only [List.nil_append, List.cons_append, true_and, and_true, zz0, true_implies, Nat.reduceLT, Nat.reduceLeDiff, zzI, look_nil, Nat.reduceBEq, implies_true, evS_assign, zz6, Nat.reduceEqDiff, ↓reduceIte]
  refine hK0 _ ?_; try clear hK0 K0
  refine awp_keepL [] ?_
  simp only [zz20, zzI, look_nil, Nat.reduceBEq]
  refine awp_seq fun K0 hK0 => ?_
  refine awp_plain F_mixed [some 5, some 6, some 7, some 8, some 4, some 9, some 10, some 11, some 1, some 2, some 3] rfl ?_
  simp only [List.nil_append, List.cons_append, true_and, and_true, zz0, true_implies, Nat.reduceLT, Nat.reduceLeDiff, zzI, look_nil, Nat.reduceBEq, implies_true, F_zero31, F_bld31, zz7, splice, Option.getD_some, List.append_nil, zz1, zzG, zzD, zz16, Option.some.injEq, exists_eq_left', exists_eq_left, Option.map_some, eq_self, reduceCtorEq, and_self, Nat.reduceAdd, Nat.zero_add, zzF, zzB, zzE, zz10, F_fld31_1, F_fld31_2, F_fld31_3, F_sl22, F_sz31, zz3, newRow1, maxLen_le, Nat.reduceMul, evS_call, evC_value, evS_move, zz14, evS_assign, bids, bidC, List.map_cons, D.sl.injEq, w1, w2, w3, fillC, zz6, Nat.reduceEqDiff, ↓reduceIte]
  refine call_go F_go9 (fun hG => Fill_ 5 [⟨0, 0, 2, 3, 9⟩, ⟨0, 0, 3, 4, 10⟩] (by simp)) (by simp [AV.ids, AV.idsL]) (by simp) ?_
  simp only [List.nil_append, List.cons_append, true_and, and_true, zz0, true_implies, Nat.reduceLT, Nat.reduceLeDiff, zzI, look_nil, Nat.reduceBEq, implies_true, F_zero31, F_bld31, zz7, splice, Option.getD_some, List.append_nil, zz1, zzG, zzD, zz16, Option.some.injEq, exists_eq_left', exists_eq_left, Option.map_some, eq_self, reduceCtorEq, and_self, Nat.reduceAdd, Nat.zero_add, zzF, zzB, zzE, zz10, F_fld31_1, F_fld31_2, F_fld31_3, F_sl22, F_sz31, zz3, newRow1, maxLen_le, Nat.reduceMul, evS_call, evC_value, evS_move, zz14, evS_assign, bids, bidC, List.map_cons, D.sl.injEq, w1, w2, w3, fillC, zz6, Nat.reduceEqDiff, ↓reduceIte, atsL, oksG, freeN, AV.ren, AV.renL, addRows, ORow.row, Nat.reduceMul, Nat.reduceAdd, zz9, Option.bind_some, Option.map_some, forall_eq', D.sl.injEq, S_mem, Option.some.injEq, exists_eq_left', exists_eq_left, exists_eq', exists_eq, List.length_cons, zz2]
  refine hK0 _ ?_; try clear hK0 K0
  refine awp_keepL [1, 2, 3] ?_
  simp only [zz20, zzI, look_nil, Nat.reduceBEq]
  refine awp_seq fun K0 hK0 => ?_
  refine awp_plain F_mixed [some 12, some 13, some 14, some 15, some 16, some 17, some 18, some 19, some 20, some 21, some 22, some 23, some 24, some 25, some 26, some 27, some 28, some 29, some 30, some 31, some 32, some 33, some 34, some 35, some 36, some 0] rfl ?_
  simp only [List.nil_append, List.cons_append, true_and, and_true, zz0, true_implies, Nat.reduceLT, Nat.reduceLeDiff, zzI, look_nil, Nat.reduceBEq, implies_true, Nat.reduceSub, S_getD, zz5, and_imp, imp_and, imp_self, and_self, evS_move, zz21, gr_v, zz34, zz13, evS_call, zz12, F_sl23, Option.isSome_some, evS_indexAddr, zz23, zz24, F_sz33, Option.map_some, zz16, Option.some.injEq, exists_eq_left', exists_eq_left, eq_self, reduceCtorEq, zz19, F_off33_0, zzB, Nat.zero_add, Nat.reduceAdd, F_ok3, F_ag3, F_sz3, zz8, zzD, zzF, zzE, F_off33_1, evS_assign, Int.reduceToNat, Int.reduceLT, Int.reduceLE, Int.reduceBEq, beq_self_eq_true, Bool.and_self, Bool.and_true, cast2N, Nat.lt_add_one, Nat.zero_lt_two, Nat.one_lt_two, Nat.reduceLT, zz6, Nat.reduceEqDiff, ↓reduceIte]
  refine hK0 _ ?_; try clear hK0 K0
  refine awp_keepL [0] ?_
  simp only [zz20, zzI, look_nil, Nat.reduceBEq]
  refine awp_ret ?_
  simp only [zz6, Nat.reduceEqDiff, ↓reduceIte]
  refine done0 (by simp only [resCs, resC]; trivial) ?_ (by simp [flatA, flatAs, flatD]) (by simp [AV.ids, AV.idsL])
  simp only [List.map_cons, List.map_nil, resA, S_getD, Nat.reduceLT, Nat.reduceLeDiff, look_cons, Nat.reduceBEq, cond_true, cond_false, resAll]
  
end Go.Proofs.Ytopifbpibkpmmaa
