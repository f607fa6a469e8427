import Derived.Test.YtfpicdhfoflcgaaSpecJC
import Derived.Test.YtfpicdhfoflcgaaSort
import Derived.Test.YtfpicdhfoflcgaaWpC
namespace Go.Proofs.Ytfpicdhfoflcgaa
open Go.RowKit
set_option linter.unusedVariables false
set_option linter.unusedSimpArgs false
theorem F_off59_0 : offT Try.prog 59 0 = some 0 := by kernel_rfl
theorem restCmp_ (a b : RestV) : ACalls Try.prog 29 [.agg (restC a), .agg (restC b)] [] (.d (iv (cmpG b.r a.r))) := by
  refine acalls_S (rs := [.tmp 4]) Try.func29 rfl rfl 10 [(0, .d (.agg (restC a))), (1, .d (.agg (restC b)))] rfl (by simp) rfl ?_
  refine awp_seq fun K0 hK0 => ?_
  refine awp_plain F_mixed [some 2, some 3, some 4] rfl ?_
  simp only [List.nil_append, List.cons_append, true_and, and_true, zz0, true_implies, Nat.reduceLT, Nat.reduceLeDiff, zzI, look_nil, Nat.reduceBEq, implies_true, zz35, newRow1, zz1, zzG, zzD, zz16, Option.some.injEq, exists_eq_left', exists_eq_left, Option.map_some, eq_self, reduceCtorEq, and_self, Nat.reduceAdd, Nat.zero_add, zzF, zzB, zzE, evS_assign, restC, uw, zz6, Nat.reduceEqDiff, ↓reduceIte]
  refine hK0 _ ?_; try clear hK0 K0
  refine awp_keepL [2, 3] ?_
  simp only [zz20, zzI, look_nil, Nat.reduceBEq]
  refine awp_seq fun K0 hK0 => ?_
  refine awp_plain F_mixed [some 5, some 6, some 7, some 8, some 9, some 4] rfl ?_
  simp only [List.nil_append, List.cons_append, true_and, and_true, zz0, true_implies, Nat.reduceLT, Nat.reduceLeDiff, zzI, look_nil, Nat.reduceBEq, implies_true, zz19, zz23, F_off59_0, zzB, Nat.zero_add, Nat.reduceAdd, F_ok51, F_ag51, F_sz51, zz8, zzD, zzF, zzE, zz16, Option.some.injEq, exists_eq_left', exists_eq_left, Option.map_some, eq_self, reduceCtorEq, and_self, evS_call, evC_value, evS_assign, gC, uw, D.agg.injEq, zz6, Nat.reduceEqDiff, ↓reduceIte]
  refine call_go F_go30 (fun hG => gCmp_ b.r a.r) (by simp [AV.ids, AV.idsL]) (by simp) ?_
  simp only [List.nil_append, List.cons_append, true_and, and_true, zz0, true_implies, Nat.reduceLT, Nat.reduceLeDiff, zzI, look_nil, Nat.reduceBEq, implies_true, zz19, zz23, F_off59_0, zzB, Nat.zero_add, Nat.reduceAdd, F_ok51, F_ag51, F_sz51, zz8, zzD, zzF, zzE, zz16, Option.some.injEq, exists_eq_left', exists_eq_left, Option.map_some, eq_self, reduceCtorEq, and_self, evS_call, evC_value, evS_assign, gC, uw, D.agg.injEq, zz6, Nat.reduceEqDiff, ↓reduceIte, atsL, oksG, freeN, AV.ren, AV.renL, addRows, ORow.row, Nat.reduceMul, Nat.reduceAdd, zz9, Option.bind_some, Option.map_some, forall_eq', D.sl.injEq, S_mem, Option.some.injEq, exists_eq_left', exists_eq_left, exists_eq', exists_eq, List.length_cons, zz2]
  refine hK0 _ ?_; try clear hK0 K0
  refine awp_keepL [4] ?_
  simp only [zz20, zzI, look_nil, Nat.reduceBEq]
  refine awp_ret ?_
  simp only [zz6, Nat.reduceEqDiff, ↓reduceIte]
  refine done0 (by simp only [resCs, resC]; trivial) ?_ (by simp [flatA, flatAs, flatD]) (by simp [AV.ids, AV.idsL])
  simp only [List.map_cons, List.map_nil, resA, S_getD, Nat.reduceLT, Nat.reduceLeDiff, look_cons, Nat.reduceBEq, cond_true, cond_false, resAll]
  
theorem restSC : SC Try.prog 29 [] restCmp isRest 3 where
  go := ⟨_, Try.func29, rfl, rfl⟩
  call x y hx hy := by
    obtain ⟨a, rfl⟩ := hx
    obtain ⟨b, rfl⟩ := hy
    have h := restCmp_ a b
    simp only [restCmp, restD_C]
    exact h
  len x hx := by obtain ⟨b, rfl⟩ := hx; rfl
  flat x hx := by obtain ⟨b, rfl⟩ := hx; simp [restC, uw, flatDs, flatD]
  cell x hx := by obtain ⟨b, rfl⟩ := hx; simp [restC, uw, cell1s, AV.cell1, Value.oneCell']
  swo := restCmp_swo

end Go.Proofs.Ytfpicdhfoflcgaa
