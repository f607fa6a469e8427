import Derived.Test.YtfpicdhfoflcgaaSpecJB
import Derived.Test.YtfpicdhfoflcgaaWpA
namespace Go.Proofs.Ytfpicdhfoflcgaa
open Go.RowKit
set_option linter.unusedVariables false
set_option linter.unusedSimpArgs false
theorem F_cv3_47 : ∀ (k : IntKind) (x : Int), pureCv Try.prog 3 47 (.int k x) = True := fun _ _ => pure_cv (by kernel_rfl) (by kernel_rfl)
theorem F_cvV47 : ∀ (k : IntKind) (x : Int), cvV Try.prog 47 (.int k x) = .int .u64 (IntKind.wrap .u64 x) := fun _ _ => by rw [show cvV Try.prog 47 = fun a => (match a with | .int _ n => .int (Try.prog.intKind 47) ((Try.prog.intKind 47).wrap n) | _ => undef) from rfl, show Try.prog.intKind 47 = .u64 from by kernel_rfl]
theorem F_go30 : goFn Try.prog 30 := ⟨_, Try.func30, rfl, rfl⟩
theorem F_go38 : goFn Try.prog 38 := ⟨_, Try.func38, rfl, rfl⟩
theorem F_go37 : goFn Try.prog 37 := ⟨_, Try.func37, rfl, rfl⟩
theorem gQuo_ (a b : Nat) (ha : a < 340282366920938463463374607431768211456) (hbp : 0 < b) (hbl : b < 9444732965739290427392) : ACalls Try.prog 27 [.agg (gC a), .agg (gC b)] [] (.tp [.d (uw (a / b % 18446744073709551616)), gA (a % b)]) := by
  refine acalls_S (rs := [.tmp 4, .cell 5 51]) Try.func27 rfl rfl 56 [(0, .d (.agg (gC a))), (1, .d (.agg (gC b)))] rfl (by simp) rfl ?_
  have h128 : a / 2 ^ 128 = 0 := Nat.div_eq_of_lt (by omega)
  refine awp_seq fun K0 hK0 => ?_
  refine awp_plain F_mixed [some 2, some 3, some 4, some 5] rfl ?_
  simp only [List.nil_append, List.cons_append, true_and, and_true, zz0, true_implies, Nat.reduceLT, Nat.reduceLeDiff, zzI, look_nil, Nat.reduceBEq, implies_true, zz35, newRow1, zz1, zzG, zzD, zz16, Option.some.injEq, exists_eq_left', exists_eq_left, Option.map_some, eq_self, reduceCtorEq, and_self, Nat.reduceAdd, Nat.zero_add, zzF, zzB, zzE, evS_assign, zz32, F_zero51, zz10, gC, uw, zz6, Nat.reduceEqDiff, ↓reduceIte]
  refine hK0 _ ?_; try clear hK0 K0
  refine awp_keepL [2, 3, 5] ?_
  simp only [zz20, zzI, look_nil, Nat.reduceBEq]
  refine awp_seq fun K0 hK0 => ?_
  refine awp_plain F_mixed [some 6] rfl ?_
  simp only [List.nil_append, List.cons_append, true_and, and_true, zz0, true_implies, Nat.reduceLT, Nat.reduceLeDiff, zzI, look_nil, Nat.reduceBEq, implies_true, zz32, newRow1, F_zero51, zz16, Option.some.injEq, exists_eq_left', exists_eq_left, Option.map_some, eq_self, reduceCtorEq, and_self, zzD, Nat.reduceAdd, Nat.zero_add, zzF, zzB, zzE, zz10, zz6, Nat.reduceEqDiff, ↓reduceIte]
  refine hK0 _ ?_; try clear hK0 K0
  refine awp_keepL [2, 3, 5, 6] ?_
  simp only [zz20, zzI, look_nil, Nat.reduceBEq]
  refine awp_seq fun K0 hK0 => ?_
  refine awp_plain F_mixed [some 7] rfl ?_
  simp only [List.nil_append, List.cons_append, true_and, and_true, zz0, true_implies, Nat.reduceLT, Nat.reduceLeDiff, zzI, look_nil, Nat.reduceBEq, implies_true, evS_assign, zz6, Nat.reduceEqDiff, ↓reduceIte]
  refine hK0 _ ?_; try clear hK0 K0
  refine awp_keepL [2, 3, 5, 6, 7] ?_
  simp only [zz20, zzI, look_nil, Nat.reduceBEq]
  refine awp_seq fun K0 hK0 => ?_
  refine awp_seq fun K1 hK1 => ?_
  refine awp_plain F_mixed [some 8] rfl ?_
  simp only [List.nil_append, List.cons_append, true_and, and_true, zz0, true_implies, Nat.reduceLT, Nat.reduceLeDiff, zzI, look_nil, Nat.reduceBEq, implies_true, evS_assign, zz6, Nat.reduceEqDiff, ↓reduceIte]
  refine hK1 _ ?_; try clear hK1 K1
  refine awp_keepL [2, 3, 5, 6, 7, 8] ?_
  simp only [zz20, zzI, look_nil, Nat.reduceBEq]
  refine awp_block ?_
  refine awp_loop (fun m s => ∃ (c : Nat), (c ≤ 128) ∧ m = c ∧ s = S 56 [(2, .ptr 2 0 0), (3, .ptr 3 0 0), (5, .ptr 5 0 0), (6, .ptr 6 0 0), (7, .d (.v (.int .u64 (((a / 2 ^ c / b % 18446744073709551616) : Nat) : Int)))), (8, .d (iv (((c : Nat) : Int) - 1)))] [(2, (⟨True, 51, 2, true, false, 2, [[.d (.v (.int .u64 ((a / 18446744073709551616 : Nat) : Int))), .d (.v (.int .u64 ((a % 18446744073709551616 : Nat) : Int)))]]⟩ : ARow)), (3, (⟨True, 51, 2, true, false, 3, [[.d (.v (.int .u64 ((b / 18446744073709551616 : Nat) : Int))), .d (.v (.int .u64 ((b % 18446744073709551616 : Nat) : Int)))]]⟩ : ARow)), (5, (⟨True, 51, 2, true, false, 5, [[.d (.v (.int .u64 0)), .d (.v (.int .u64 0))]]⟩ : ARow)), (6, (⟨True, 51, 2, true, false, 6, [[.d (.v (.int .u64 (((a / 2 ^ c % b) / 18446744073709551616 : Nat) : Int))), .d (.v (.int .u64 (((a / 2 ^ c % b) % 18446744073709551616 : Nat) : Int)))]]⟩ : ARow))]) (128) _ (le_SK id [] rfl (l' := [(2, .ptr 2 0 0), (3, .ptr 3 0 0), (5, .ptr 5 0 0), (6, .ptr 6 0 0), (7, .d (.v (.int .u64 (((a / 2 ^ 128 / b % 18446744073709551616) : Nat) : Int)))), (8, .d (iv (((128 : Nat) : Int) - 1)))]) (m' := [(2, (⟨True, 51, 2, true, false, 2, [[.d (.v (.int .u64 ((a / 18446744073709551616 : Nat) : Int))), .d (.v (.int .u64 ((a % 18446744073709551616 : Nat) : Int)))]]⟩ : ARow)), (3, (⟨True, 51, 2, true, false, 3, [[.d (.v (.int .u64 ((b / 18446744073709551616 : Nat) : Int))), .d (.v (.int .u64 ((b % 18446744073709551616 : Nat) : Int)))]]⟩ : ARow)), (5, (⟨True, 51, 2, true, false, 5, [[.d (.v (.int .u64 0)), .d (.v (.int .u64 0))]]⟩ : ARow)), (6, (⟨True, 51, 2, true, false, 6, [[.d (.v (.int .u64 (((a / 2 ^ 128 % b) / 18446744073709551616 : Nat) : Int))), .d (.v (.int .u64 (((a / 2 ^ 128 % b) % 18446744073709551616 : Nat) : Int)))]]⟩ : ARow))]) ?_ ?_ ?_ ?_) ⟨128, Nat.le_refl _, rfl, rfl⟩ ?_
  · simp only [leV, look_cons, Nat.reduceBEq, cond_true, cond_false]; exact ⟨(by first | exact VLe.still rfl | exact VLe.nil_ (by decide) | exact VLe.nild_ | exact VLe.refl _ | exact VLe.ptrE (by simp) (by rfl) | exact VLe.refE (by simp) (by rfl) (by first | rfl | (simp; done) | (simp; omega)) | exact VLe.dE (by first | rfl | simp)), (by first | exact VLe.still rfl | exact VLe.nil_ (by decide) | exact VLe.nild_ | exact VLe.refl _ | exact VLe.ptrE (by simp) (by rfl) | exact VLe.refE (by simp) (by rfl) (by first | rfl | (simp; done) | (simp; omega)) | exact VLe.dE (by first | rfl | simp)), (by first | exact VLe.still rfl | exact VLe.nil_ (by decide) | exact VLe.nild_ | exact VLe.refl _ | exact VLe.ptrE (by simp) (by rfl) | exact VLe.refE (by simp) (by rfl) (by first | rfl | (simp; done) | (simp; omega)) | exact VLe.dE (by first | rfl | simp)), (by first | exact VLe.still rfl | exact VLe.nil_ (by decide) | exact VLe.nild_ | exact VLe.refl _ | exact VLe.ptrE (by simp) (by rfl) | exact VLe.refE (by simp) (by rfl) (by first | rfl | (simp; done) | (simp; omega)) | exact VLe.dE (by first | rfl | simp)), (VLe.dE (by simp [h128])), (VLe.dE rfl), trivial⟩
  · exact ⟨fun _ => ⟨_, rfl, (by first | exact RowLe.data_ (by first | rfl | simp) | exact RowLe.uq2 (by first | rfl | simp) (by simp) ids_data | exact RowLe.still (by simp [AV.idsL, AV.ids]) | exact RowLe.same (by simp) (by simp [AV.idsL, AV.ids]))⟩, fun h => by simp at h, fun _ => ⟨_, rfl, (by first | exact RowLe.data_ (by first | rfl | simp) | exact RowLe.uq2 (by first | rfl | simp) (by simp) ids_data | exact RowLe.still (by simp [AV.idsL, AV.ids]) | exact RowLe.same (by simp) (by simp [AV.idsL, AV.ids]))⟩, fun h => by simp at h, fun _ => ⟨_, rfl, (by first | exact RowLe.data_ (by first | rfl | simp) | exact RowLe.uq2 (by first | rfl | simp) (by simp) ids_data | exact RowLe.still (by simp [AV.idsL, AV.ids]) | exact RowLe.same (by simp) (by simp [AV.idsL, AV.ids]))⟩, fun h => by simp at h, fun _ => ⟨_, rfl, RowLe.cells (VLess.one_ (VLes.cons_ (VLe.dE (by simp [h128])) (VLes.cons_ (VLe.dE (by simp [h128])) (VLes.nil_))))⟩, fun h => by simp at h, trivial⟩
  · simp [wfV, AV.ids, AV.idsL, lookR, grow]
  · exact ⟨by simp [AV.idsL, AV.ids, lookR], by simp [AV.idsL, AV.ids, lookR], by simp [AV.idsL, AV.ids, lookR], by simp [AV.idsL, AV.ids, lookR], trivial⟩
  rintro m s ⟨c, hc128, rfl, rfl⟩
  refine awp_seq fun K2 hK2 => ?_
  refine awp_seq fun K3 hK3 => ?_
  refine awp_plain F_mixed [some 10, some 11] rfl ?_
  simp only [List.nil_append, List.cons_append, true_and, and_true, zz0, true_implies, Nat.reduceLT, Nat.reduceLeDiff, zzI, look_nil, Nat.reduceBEq, implies_true, evS_move, zz21, gr_v, zz31, zz6, Nat.reduceEqDiff, ↓reduceIte]
  refine hK3 _ ?_; try clear hK3 K3
  refine awp_keepL [2, 3, 5, 6, 7, 8, 11] ?_
  simp only [zz20, zzI, look_nil, Nat.reduceBEq]
  refine awp_condS _ (by decide) (by simp only [look_cons, Nat.reduceBEq, cond_true, cond_false]; rfl) ?_ ?_
  · intro hb
    obtain ⟨d, rfl⟩ : ∃ d, m = d + 1 := ⟨m - 1, by have := of_decide_eq_true hb; omega⟩
    clear hb
    have hd : ((d + 1 : Nat) : Int) - 1 = (d : Int) := by omega
    have ht : a / 2 ^ d % 2 < 2 := Nat.mod_lt _ (by decide)
    have hxl : a / 2 ^ (d + 1) % b < b := Nat.mod_lt _ hbp
    have hlb : a / 2 ^ (d + 1) % b < 9444732965739290427392 := by omega
    obtain ⟨s1, s2⟩ := quo_step (a := a) (c := d) hbp
    have hq0 : a / 2 ^ (d + 1) / b % 18446744073709551616 * 2 % 18446744073709551616 = (2 * (a / 2 ^ (d + 1) / b) + 0) % 18446744073709551616 := by omega
    refine awp_skip ?_
    simp only [zz6, Nat.reduceEqDiff, ↓reduceIte]
    refine hK2 _ ?_; try clear hK2 K2
    refine awp_keepL [2, 3, 5, 6, 7, 8] ?_
    simp only [zz20, zzI, look_nil, Nat.reduceBEq]
    refine awp_seq fun K2 hK2 => ?_
    refine awp_block ?_
    refine awp_seq fun K3 hK3 => ?_
    refine awp_plain F_mixed [some 14, some 15, some 16, some 17, some 18, some 19, some 20, some 9] rfl ?_
    simp only [List.nil_append, List.cons_append, true_and, and_true, zz0, true_implies, Nat.reduceLT, Nat.reduceLeDiff, zzI, look_nil, Nat.reduceBEq, implies_true, zz19, zz23, F_off51_1, zzB, Nat.zero_add, Nat.reduceAdd, F_ok28, F_ag28, F_sz28, zz8, zzD, zzF, zzE, zz16, Option.some.injEq, exists_eq_left', exists_eq_left, Option.map_some, eq_self, reduceCtorEq, and_self, evS_move, zz21, gr_v, b_rem, pure_rem, ne_eq, Int.reduceEq, not_false_eq_true, zz27, F_cv3_47, F_cvV47, b_shr, pure_shr, Int.reduceLT, b_and, pure_and, evS_assign, hd, sh64, nat_lt0, not_false_eq_true, shrN, andLo, zz6, Nat.reduceEqDiff, ↓reduceIte]
    refine hK3 _ ?_; try clear hK3 K3
    refine awp_keepL [2, 3, 5, 6, 7, 8, 9] ?_
    simp only [zz20, zzI, look_nil, Nat.reduceBEq]
    refine awp_seq fun K3 hK3 => ?_
    refine awp_seq fun K4 hK4 => ?_
    refine awp_plain F_mixed [some 21, some 22] rfl ?_
    simp only [List.nil_append, List.cons_append, true_and, and_true, zz0, true_implies, Nat.reduceLT, Nat.reduceLeDiff, zzI, look_nil, Nat.reduceBEq, implies_true, evS_move, zz21, gr_v, zz31, hd, zz6, Nat.reduceEqDiff, ↓reduceIte]
    refine hK4 _ ?_; try clear hK4 K4
    refine awp_keepL [2, 3, 5, 6, 7, 8, 9, 22] ?_
    simp only [zz20, zzI, look_nil, Nat.reduceBEq]
    refine awp_condS _ (by decide) (by simp only [look_cons, Nat.reduceBEq, cond_true, cond_false]; rfl) ?_ ?_
    · intro hb
      have hbit := (bit_hi a d (by have := of_decide_eq_true hb; omega)).resolve_right (by omega)
      clear hb
      refine awp_plain F_mixed [some 23, some 24, some 25, some 26, some 27, some 28, some 29, some 9] rfl ?_
      simp only [List.nil_append, List.cons_append, true_and, and_true, zz0, true_implies, Nat.reduceLT, Nat.reduceLeDiff, zzI, look_nil, Nat.reduceBEq, implies_true, zz19, zz23, F_off51_0, zzB, Nat.zero_add, Nat.reduceAdd, F_ok28, F_ag28, F_sz28, zz8, zzD, zzF, zzE, zz16, Option.some.injEq, exists_eq_left', exists_eq_left, Option.map_some, eq_self, reduceCtorEq, and_self, evS_move, zz21, gr_v, b_rem, pure_rem, ne_eq, Int.reduceEq, not_false_eq_true, zz27, F_cv3_47, F_cvV47, b_shr, pure_shr, Int.reduceLT, b_and, pure_and, evS_assign, hd, sh64, nat_lt0, not_false_eq_true, shrN, andHi a d ha, hbit, zz6, Nat.reduceEqDiff, ↓reduceIte]
      refine hK3 _ ?_; try clear hK3 K3
      refine awp_keepL [2, 3, 5, 6, 7, 8, 9] ?_
      simp only [zz20, zzI, look_nil, Nat.reduceBEq]
      refine awp_seq fun K3 hK3 => ?_
      refine awp_plain F_mixed [some 30, some 31, some 32, some 33, some 34, some 35, some 36, some 37, some 38, some 39, some 40, some 41, some 42, none] rfl ?_
      simp only [List.nil_append, List.cons_append, true_and, and_true, zz0, true_implies, Nat.reduceLT, Nat.reduceLeDiff, zzI, look_nil, Nat.reduceBEq, implies_true, zz19, zz23, F_off51_0, zzB, Nat.zero_add, Nat.reduceAdd, F_ok28, F_ag28, F_sz28, zz8, zzD, zzF, zzE, zz16, Option.some.injEq, exists_eq_left', exists_eq_left, Option.map_some, eq_self, reduceCtorEq, and_self, zz21, gr_v, b_shl, pure_shl, Int.reduceLT, not_false_eq_true, F_off51_1, b_shr, pure_shr, b_or, pure_or, evS_move, F_zero51, F_bld51, zz7, splice, Option.getD_some, List.append_nil, zz1, zzG, zz10, F_fld51_0, F_fld51_1, zz18, F_ok51, F_sz51, shl1, shr63n, orHi hlb, orLo _ ht, hi_t _ ht, zz6, Nat.reduceEqDiff, ↓reduceIte]
      refine hK3 _ ?_; try clear hK3 K3
      refine awp_keepL [2, 3, 5, 6, 7, 8] ?_
      simp only [zz20, zzI, look_nil, Nat.reduceBEq]
      refine awp_seq fun K3 hK3 => ?_
      refine awp_plain F_mixed [some 43, some 44, some 7] rfl ?_
      simp only [List.nil_append, List.cons_append, true_and, and_true, zz0, true_implies, Nat.reduceLT, Nat.reduceLeDiff, zzI, look_nil, Nat.reduceBEq, implies_true, evS_move, zz21, gr_v, b_shl, pure_shl, Int.reduceLT, not_false_eq_true, evS_assign, shl1, zz6, Nat.reduceEqDiff, ↓reduceIte]
      refine hK3 _ ?_; try clear hK3 K3
      refine awp_keepL [2, 3, 5, 6, 7, 8] ?_
      simp only [zz20, zzI, look_nil, Nat.reduceBEq]
      refine awp_seq fun K3 hK3 => ?_
      refine awp_plain F_mixed [some 45, some 46, some 47, some 48] rfl ?_
      simp only [List.nil_append, List.cons_append, true_and, and_true, zz0, true_implies, Nat.reduceLT, Nat.reduceLeDiff, zzI, look_nil, Nat.reduceBEq, implies_true, F_ok51, F_ag51, F_sz51, zz8, zz23, zzD, Nat.reduceAdd, Nat.zero_add, zzF, zzB, zzE, zz16, Option.some.injEq, exists_eq_left', exists_eq_left, Option.map_some, eq_self, reduceCtorEq, and_self, evS_call, evC_value, zz21, gr_v, zz31, gC, uw, D.agg.injEq, cmpG_ge, zz6, Nat.reduceEqDiff, ↓reduceIte]
      refine call_go F_go30 (fun hG => gCmp_ (2 * (a / 2 ^ (d + 1) % b) + a / 2 ^ d % 2) b) (by simp [AV.ids, AV.idsL]) (by simp) ?_
      simp only [List.nil_append, List.cons_append, true_and, and_true, zz0, true_implies, Nat.reduceLT, Nat.reduceLeDiff, zzI, look_nil, Nat.reduceBEq, implies_true, F_ok51, F_ag51, F_sz51, zz8, zz23, zzD, Nat.reduceAdd, Nat.zero_add, zzF, zzB, zzE, zz16, Option.some.injEq, exists_eq_left', exists_eq_left, Option.map_some, eq_self, reduceCtorEq, and_self, evS_call, evC_value, zz21, gr_v, zz31, gC, uw, D.agg.injEq, cmpG_ge, zz6, Nat.reduceEqDiff, ↓reduceIte, atsL, oksG, freeN, AV.ren, AV.renL, addRows, ORow.row, Nat.reduceMul, Nat.reduceAdd, zz9, Option.bind_some, Option.map_some, forall_eq', D.sl.injEq, S_mem, Option.some.injEq, exists_eq_left', exists_eq_left, exists_eq', exists_eq, List.length_cons, zz2]
      refine hK3 _ ?_; try clear hK3 K3
      refine awp_keepL [2, 3, 5, 6, 7, 8, 48] ?_
      simp only [zz20, zzI, look_nil, Nat.reduceBEq]
      refine awp_condS _ (by decide) (by simp only [look_cons, Nat.reduceBEq, cond_true, cond_false]; rfl) ?_ ?_
      · intro hb
        rw [show decide (b ≤ (2 * (a / 2 ^ (d + 1) % b) + a / 2 ^ d % 2)) = true from hb, cond_true] at s1 s2
        refine awp_seq fun K4 hK4 => ?_
        refine awp_plain F_mixed [some 49, some 50, some 51, none] rfl ?_
        simp only [List.nil_append, List.cons_append, true_and, and_true, zz0, true_implies, Nat.reduceLT, Nat.reduceLeDiff, zzI, look_nil, Nat.reduceBEq, implies_true, F_ok51, F_ag51, F_sz51, zz8, zz23, zzD, Nat.reduceAdd, Nat.zero_add, zzF, zzB, zzE, zz16, Option.some.injEq, exists_eq_left', exists_eq_left, Option.map_some, eq_self, reduceCtorEq, and_self, evS_call, evC_value, zz18, splice, List.append_nil, zz1, zzG, gC, uw, gA, D.agg.injEq, zz6, Nat.reduceEqDiff, ↓reduceIte]
        refine call_go F_go38 (fun hG => gLess_ (2 * (a / 2 ^ (d + 1) % b) + a / 2 ^ d % 2) b (of_decide_eq_true hb) (by omega)) (by simp [AV.ids, AV.idsL, gA]) (by simp) ?_
        simp only [List.nil_append, List.cons_append, true_and, and_true, zz0, true_implies, Nat.reduceLT, Nat.reduceLeDiff, zzI, look_nil, Nat.reduceBEq, implies_true, F_ok51, F_ag51, F_sz51, zz8, zz23, zzD, Nat.reduceAdd, Nat.zero_add, zzF, zzB, zzE, zz16, Option.some.injEq, exists_eq_left', exists_eq_left, Option.map_some, eq_self, reduceCtorEq, and_self, evS_call, evC_value, zz18, splice, List.append_nil, zz1, zzG, gC, uw, gA, D.agg.injEq, zz6, Nat.reduceEqDiff, ↓reduceIte, atsL, oksG, freeN, AV.ren, AV.renL, addRows, ORow.row, Nat.reduceMul, Nat.reduceAdd, zz9, Option.bind_some, Option.map_some, forall_eq', D.sl.injEq, S_mem, Option.some.injEq, exists_eq_left', exists_eq_left, exists_eq', exists_eq, List.length_cons, zz2]
        refine hK4 _ ?_; try clear hK4 K4
        refine awp_keepL [2, 3, 5, 6, 7, 8] ?_
        simp only [zz20, zzI, look_nil, Nat.reduceBEq]
        refine awp_plain F_mixed [some 52, some 53, some 7] rfl ?_
        simp only [List.nil_append, List.cons_append, true_and, and_true, zz0, true_implies, Nat.reduceLT, Nat.reduceLeDiff, zzI, look_nil, Nat.reduceBEq, implies_true, evS_move, zz21, gr_v, b_or, pure_or, evS_assign, or1, zz6, Nat.reduceEqDiff, ↓reduceIte]
        refine hK2 _ ?_; try clear hK2 K2
        refine awp_keepL [2, 3, 5, 6, 7, 8] ?_
        simp only [zz20, zzI, look_nil, Nat.reduceBEq]
        refine awp_plain F_mixed [some 12, some 13, some 8] rfl ?_
        simp only [List.nil_append, List.cons_append, true_and, and_true, zz0, true_implies, Nat.reduceLT, Nat.reduceLeDiff, zzI, look_nil, Nat.reduceBEq, implies_true, evS_move, zz21, gr_v, zz33, evS_assign, hd, zz6, Nat.reduceEqDiff, ↓reduceIte]
        refine ⟨d, _, by omega, le_SK id [] rfl (l' := [(2, .ptr 2 0 0), (3, .ptr 3 0 0), (5, .ptr 5 0 0), (6, .ptr 6 0 0), (7, .d (.v (.int .u64 (((a / 2 ^ d / b % 18446744073709551616) : Nat) : Int)))), (8, .d (iv (((d : Nat) : Int) - 1)))]) (m' := [(2, (⟨True, 51, 2, true, false, 2, [[.d (.v (.int .u64 ((a / 18446744073709551616 : Nat) : Int))), .d (.v (.int .u64 ((a % 18446744073709551616 : Nat) : Int)))]]⟩ : ARow)), (3, (⟨True, 51, 2, true, false, 3, [[.d (.v (.int .u64 ((b / 18446744073709551616 : Nat) : Int))), .d (.v (.int .u64 ((b % 18446744073709551616 : Nat) : Int)))]]⟩ : ARow)), (5, (⟨True, 51, 2, true, false, 5, [[.d (.v (.int .u64 0)), .d (.v (.int .u64 0))]]⟩ : ARow)), (6, (⟨True, 51, 2, true, false, 6, [[.d (.v (.int .u64 (((a / 2 ^ d % b) / 18446744073709551616 : Nat) : Int))), .d (.v (.int .u64 (((a / 2 ^ d % b) % 18446744073709551616 : Nat) : Int)))]]⟩ : ARow))]) ?_ ?_ ?_ ?_, d, by omega, rfl, rfl⟩
        · simp only [leV, look_cons, Nat.reduceBEq, cond_true, cond_false]; exact ⟨(by first | exact VLe.still rfl | exact VLe.nil_ (by decide) | exact VLe.nild_ | exact VLe.refl _ | exact VLe.ptrE (by simp) (by rfl) | exact VLe.refE (by simp) (by rfl) (by first | rfl | (simp; done) | (simp; omega)) | exact VLe.dE (by first | rfl | simp)), (by first | exact VLe.still rfl | exact VLe.nil_ (by decide) | exact VLe.nild_ | exact VLe.refl _ | exact VLe.ptrE (by simp) (by rfl) | exact VLe.refE (by simp) (by rfl) (by first | rfl | (simp; done) | (simp; omega)) | exact VLe.dE (by first | rfl | simp)), (by first | exact VLe.still rfl | exact VLe.nil_ (by decide) | exact VLe.nild_ | exact VLe.refl _ | exact VLe.ptrE (by simp) (by rfl) | exact VLe.refE (by simp) (by rfl) (by first | rfl | (simp; done) | (simp; omega)) | exact VLe.dE (by first | rfl | simp)), (by first | exact VLe.still rfl | exact VLe.nil_ (by decide) | exact VLe.nild_ | exact VLe.refl _ | exact VLe.ptrE (by simp) (by rfl) | exact VLe.refE (by simp) (by rfl) (by first | rfl | (simp; done) | (simp; omega)) | exact VLe.dE (by first | rfl | simp)), (VLe.dE (by rw [s2])), (VLe.dE (congrArg iv (wrapI (by omega) (by omega)))), trivial⟩
        · exact ⟨fun _ => ⟨_, rfl, (by first | exact RowLe.data_ (by first | rfl | simp) | exact RowLe.uq2 (by first | rfl | simp) (by simp) ids_data | exact RowLe.still (by simp [AV.idsL, AV.ids]) | exact RowLe.same (by simp) (by simp [AV.idsL, AV.ids]))⟩, fun h => by simp at h, fun _ => ⟨_, rfl, (by first | exact RowLe.data_ (by first | rfl | simp) | exact RowLe.uq2 (by first | rfl | simp) (by simp) ids_data | exact RowLe.still (by simp [AV.idsL, AV.ids]) | exact RowLe.same (by simp) (by simp [AV.idsL, AV.ids]))⟩, fun h => by simp at h, fun _ => ⟨_, rfl, (by first | exact RowLe.data_ (by first | rfl | simp) | exact RowLe.uq2 (by first | rfl | simp) (by simp) ids_data | exact RowLe.still (by simp [AV.idsL, AV.ids]) | exact RowLe.same (by simp) (by simp [AV.idsL, AV.ids]))⟩, fun h => by simp at h, fun _ => ⟨_, rfl, RowLe.cells (VLess.one_ (VLes.cons_ (VLe.dE (by rw [s1])) (VLes.cons_ (VLe.dE (by rw [s1])) (VLes.nil_))))⟩, fun h => by simp at h, trivial⟩
        · simp [wfV, AV.ids, AV.idsL, lookR, grow]
        · exact ⟨by simp [AV.idsL, AV.ids, lookR], by simp [AV.idsL, AV.ids, lookR], by simp [AV.idsL, AV.ids, lookR], by simp [AV.idsL, AV.ids, lookR], trivial⟩
      · intro hb
        rw [show decide (b ≤ (2 * (a / 2 ^ (d + 1) % b) + a / 2 ^ d % 2)) = false from hb, cond_false] at s1 s2
        clear hb
        refine awp_skip ?_
        simp only [zz6, Nat.reduceEqDiff, ↓reduceIte]
        refine hK2 _ ?_; try clear hK2 K2
        refine awp_keepL [2, 3, 5, 6, 7, 8] ?_
        simp only [zz20, zzI, look_nil, Nat.reduceBEq]
        refine awp_plain F_mixed [some 12, some 13, some 8] rfl ?_
        simp only [List.nil_append, List.cons_append, true_and, and_true, zz0, true_implies, Nat.reduceLT, Nat.reduceLeDiff, zzI, look_nil, Nat.reduceBEq, implies_true, evS_move, zz21, gr_v, zz33, evS_assign, hd, zz6, Nat.reduceEqDiff, ↓reduceIte]
        refine ⟨d, _, by omega, le_SK id [] rfl (l' := [(2, .ptr 2 0 0), (3, .ptr 3 0 0), (5, .ptr 5 0 0), (6, .ptr 6 0 0), (7, .d (.v (.int .u64 (((a / 2 ^ d / b % 18446744073709551616) : Nat) : Int)))), (8, .d (iv (((d : Nat) : Int) - 1)))]) (m' := [(2, (⟨True, 51, 2, true, false, 2, [[.d (.v (.int .u64 ((a / 18446744073709551616 : Nat) : Int))), .d (.v (.int .u64 ((a % 18446744073709551616 : Nat) : Int)))]]⟩ : ARow)), (3, (⟨True, 51, 2, true, false, 3, [[.d (.v (.int .u64 ((b / 18446744073709551616 : Nat) : Int))), .d (.v (.int .u64 ((b % 18446744073709551616 : Nat) : Int)))]]⟩ : ARow)), (5, (⟨True, 51, 2, true, false, 5, [[.d (.v (.int .u64 0)), .d (.v (.int .u64 0))]]⟩ : ARow)), (6, (⟨True, 51, 2, true, false, 6, [[.d (.v (.int .u64 (((a / 2 ^ d % b) / 18446744073709551616 : Nat) : Int))), .d (.v (.int .u64 (((a / 2 ^ d % b) % 18446744073709551616 : Nat) : Int)))]]⟩ : ARow))]) ?_ ?_ ?_ ?_, d, by omega, rfl, rfl⟩
        · simp only [leV, look_cons, Nat.reduceBEq, cond_true, cond_false]; exact ⟨(by first | exact VLe.still rfl | exact VLe.nil_ (by decide) | exact VLe.nild_ | exact VLe.refl _ | exact VLe.ptrE (by simp) (by rfl) | exact VLe.refE (by simp) (by rfl) (by first | rfl | (simp; done) | (simp; omega)) | exact VLe.dE (by first | rfl | simp)), (by first | exact VLe.still rfl | exact VLe.nil_ (by decide) | exact VLe.nild_ | exact VLe.refl _ | exact VLe.ptrE (by simp) (by rfl) | exact VLe.refE (by simp) (by rfl) (by first | rfl | (simp; done) | (simp; omega)) | exact VLe.dE (by first | rfl | simp)), (by first | exact VLe.still rfl | exact VLe.nil_ (by decide) | exact VLe.nild_ | exact VLe.refl _ | exact VLe.ptrE (by simp) (by rfl) | exact VLe.refE (by simp) (by rfl) (by first | rfl | (simp; done) | (simp; omega)) | exact VLe.dE (by first | rfl | simp)), (by first | exact VLe.still rfl | exact VLe.nil_ (by decide) | exact VLe.nild_ | exact VLe.refl _ | exact VLe.ptrE (by simp) (by rfl) | exact VLe.refE (by simp) (by rfl) (by first | rfl | (simp; done) | (simp; omega)) | exact VLe.dE (by first | rfl | simp)), (VLe.dE (by rw [s2]; exact congrArg (fun n : Nat => D.v (.int .u64 (n : Int))) hq0)), (VLe.dE (congrArg iv (wrapI (by omega) (by omega)))), trivial⟩
        · exact ⟨fun _ => ⟨_, rfl, (by first | exact RowLe.data_ (by first | rfl | simp) | exact RowLe.uq2 (by first | rfl | simp) (by simp) ids_data | exact RowLe.still (by simp [AV.idsL, AV.ids]) | exact RowLe.same (by simp) (by simp [AV.idsL, AV.ids]))⟩, fun h => by simp at h, fun _ => ⟨_, rfl, (by first | exact RowLe.data_ (by first | rfl | simp) | exact RowLe.uq2 (by first | rfl | simp) (by simp) ids_data | exact RowLe.still (by simp [AV.idsL, AV.ids]) | exact RowLe.same (by simp) (by simp [AV.idsL, AV.ids]))⟩, fun h => by simp at h, fun _ => ⟨_, rfl, (by first | exact RowLe.data_ (by first | rfl | simp) | exact RowLe.uq2 (by first | rfl | simp) (by simp) ids_data | exact RowLe.still (by simp [AV.idsL, AV.ids]) | exact RowLe.same (by simp) (by simp [AV.idsL, AV.ids]))⟩, fun h => by simp at h, fun _ => ⟨_, rfl, RowLe.cells (VLess.one_ (VLes.cons_ (VLe.dE (by rw [s1])) (VLes.cons_ (VLe.dE (by rw [s1])) (VLes.nil_))))⟩, fun h => by simp at h, trivial⟩
        · simp [wfV, AV.ids, AV.idsL, lookR, grow]
        · exact ⟨by simp [AV.idsL, AV.ids, lookR], by simp [AV.idsL, AV.ids, lookR], by simp [AV.idsL, AV.ids, lookR], by simp [AV.idsL, AV.ids, lookR], trivial⟩
    · intro hb
      have hbit := bit_lo a d (by have := of_decide_eq_false hb; omega)
      clear hb
      simp only [hbit]
      refine awp_skip ?_
      simp only [zz6, Nat.reduceEqDiff, ↓reduceIte]
      refine hK3 _ ?_; try clear hK3 K3
      refine awp_keepL [2, 3, 5, 6, 7, 8, 9] ?_
      simp only [zz20, zzI, look_nil, Nat.reduceBEq]
      refine awp_seq fun K3 hK3 => ?_
      refine awp_plain F_mixed [some 30, some 31, some 32, some 33, some 34, some 35, some 36, some 37, some 38, some 39, some 40, some 41, some 42, none] rfl ?_
      simp only [List.nil_append, List.cons_append, true_and, and_true, zz0, true_implies, Nat.reduceLT, Nat.reduceLeDiff, zzI, look_nil, Nat.reduceBEq, implies_true, zz19, zz23, F_off51_0, zzB, Nat.zero_add, Nat.reduceAdd, F_ok28, F_ag28, F_sz28, zz8, zzD, zzF, zzE, zz16, Option.some.injEq, exists_eq_left', exists_eq_left, Option.map_some, eq_self, reduceCtorEq, and_self, zz21, gr_v, b_shl, pure_shl, Int.reduceLT, not_false_eq_true, F_off51_1, b_shr, pure_shr, b_or, pure_or, evS_move, F_zero51, F_bld51, zz7, splice, Option.getD_some, List.append_nil, zz1, zzG, zz10, F_fld51_0, F_fld51_1, zz18, F_ok51, F_sz51, shl1, shr63n, orHi hlb, orLo _ ht, hi_t _ ht, zz6, Nat.reduceEqDiff, ↓reduceIte]
      refine hK3 _ ?_; try clear hK3 K3
      refine awp_keepL [2, 3, 5, 6, 7, 8] ?_
      simp only [zz20, zzI, look_nil, Nat.reduceBEq]
      refine awp_seq fun K3 hK3 => ?_
      refine awp_plain F_mixed [some 43, some 44, some 7] rfl ?_
      simp only [List.nil_append, List.cons_append, true_and, and_true, zz0, true_implies, Nat.reduceLT, Nat.reduceLeDiff, zzI, look_nil, Nat.reduceBEq, implies_true, evS_move, zz21, gr_v, b_shl, pure_shl, Int.reduceLT, not_false_eq_true, evS_assign, shl1, zz6, Nat.reduceEqDiff, ↓reduceIte]
      refine hK3 _ ?_; try clear hK3 K3
      refine awp_keepL [2, 3, 5, 6, 7, 8] ?_
      simp only [zz20, zzI, look_nil, Nat.reduceBEq]
      refine awp_seq fun K3 hK3 => ?_
      refine awp_plain F_mixed [some 45, some 46, some 47, some 48] rfl ?_
      simp only [List.nil_append, List.cons_append, true_and, and_true, zz0, true_implies, Nat.reduceLT, Nat.reduceLeDiff, zzI, look_nil, Nat.reduceBEq, implies_true, F_ok51, F_ag51, F_sz51, zz8, zz23, zzD, Nat.reduceAdd, Nat.zero_add, zzF, zzB, zzE, zz16, Option.some.injEq, exists_eq_left', exists_eq_left, Option.map_some, eq_self, reduceCtorEq, and_self, evS_call, evC_value, zz21, gr_v, zz31, gC, uw, D.agg.injEq, cmpG_ge, zz6, Nat.reduceEqDiff, ↓reduceIte]
      refine call_go F_go30 (fun hG => gCmp_ (2 * (a / 2 ^ (d + 1) % b) + a / 2 ^ d % 2) b) (by simp [AV.ids, AV.idsL]) (by simp) ?_
      simp only [List.nil_append, List.cons_append, true_and, and_true, zz0, true_implies, Nat.reduceLT, Nat.reduceLeDiff, zzI, look_nil, Nat.reduceBEq, implies_true, F_ok51, F_ag51, F_sz51, zz8, zz23, zzD, Nat.reduceAdd, Nat.zero_add, zzF, zzB, zzE, zz16, Option.some.injEq, exists_eq_left', exists_eq_left, Option.map_some, eq_self, reduceCtorEq, and_self, evS_call, evC_value, zz21, gr_v, zz31, gC, uw, D.agg.injEq, cmpG_ge, zz6, Nat.reduceEqDiff, ↓reduceIte, atsL, oksG, freeN, AV.ren, AV.renL, addRows, ORow.row, Nat.reduceMul, Nat.reduceAdd, zz9, Option.bind_some, Option.map_some, forall_eq', D.sl.injEq, S_mem, Option.some.injEq, exists_eq_left', exists_eq_left, exists_eq', exists_eq, List.length_cons, zz2]
      refine hK3 _ ?_; try clear hK3 K3
      refine awp_keepL [2, 3, 5, 6, 7, 8, 48] ?_
      simp only [zz20, zzI, look_nil, Nat.reduceBEq]
      refine awp_condS _ (by decide) (by simp only [look_cons, Nat.reduceBEq, cond_true, cond_false]; rfl) ?_ ?_
      · intro hb
        rw [show decide (b ≤ (2 * (a / 2 ^ (d + 1) % b) + a / 2 ^ d % 2)) = true from hb, cond_true] at s1 s2
        refine awp_seq fun K4 hK4 => ?_
        refine awp_plain F_mixed [some 49, some 50, some 51, none] rfl ?_
        simp only [List.nil_append, List.cons_append, true_and, and_true, zz0, true_implies, Nat.reduceLT, Nat.reduceLeDiff, zzI, look_nil, Nat.reduceBEq, implies_true, F_ok51, F_ag51, F_sz51, zz8, zz23, zzD, Nat.reduceAdd, Nat.zero_add, zzF, zzB, zzE, zz16, Option.some.injEq, exists_eq_left', exists_eq_left, Option.map_some, eq_self, reduceCtorEq, and_self, evS_call, evC_value, zz18, splice, List.append_nil, zz1, zzG, gC, uw, gA, D.agg.injEq, zz6, Nat.reduceEqDiff, ↓reduceIte]
        refine call_go F_go38 (fun hG => gLess_ (2 * (a / 2 ^ (d + 1) % b) + a / 2 ^ d % 2) b (of_decide_eq_true hb) (by omega)) (by simp [AV.ids, AV.idsL, gA]) (by simp) ?_
        simp only [List.nil_append, List.cons_append, true_and, and_true, zz0, true_implies, Nat.reduceLT, Nat.reduceLeDiff, zzI, look_nil, Nat.reduceBEq, implies_true, F_ok51, F_ag51, F_sz51, zz8, zz23, zzD, Nat.reduceAdd, Nat.zero_add, zzF, zzB, zzE, zz16, Option.some.injEq, exists_eq_left', exists_eq_left, Option.map_some, eq_self, reduceCtorEq, and_self, evS_call, evC_value, zz18, splice, List.append_nil, zz1, zzG, gC, uw, gA, D.agg.injEq, zz6, Nat.reduceEqDiff, ↓reduceIte, atsL, oksG, freeN, AV.ren, AV.renL, addRows, ORow.row, Nat.reduceMul, Nat.reduceAdd, zz9, Option.bind_some, Option.map_some, forall_eq', D.sl.injEq, S_mem, Option.some.injEq, exists_eq_left', exists_eq_left, exists_eq', exists_eq, List.length_cons, zz2]
        refine hK4 _ ?_; try clear hK4 K4
        refine awp_keepL [2, 3, 5, 6, 7, 8] ?_
        simp only [zz20, zzI, look_nil, Nat.reduceBEq]
        refine awp_plain F_mixed [some 52, some 53, some 7] rfl ?_
        simp only [List.nil_append, List.cons_append, true_and, and_true, zz0, true_implies, Nat.reduceLT, Nat.reduceLeDiff, zzI, look_nil, Nat.reduceBEq, implies_true, evS_move, zz21, gr_v, b_or, pure_or, evS_assign, or1, zz6, Nat.reduceEqDiff, ↓reduceIte]
        refine hK2 _ ?_; try clear hK2 K2
        refine awp_keepL [2, 3, 5, 6, 7, 8] ?_
        simp only [zz20, zzI, look_nil, Nat.reduceBEq]
        refine awp_plain F_mixed [some 12, some 13, some 8] rfl ?_
        simp only [List.nil_append, List.cons_append, true_and, and_true, zz0, true_implies, Nat.reduceLT, Nat.reduceLeDiff, zzI, look_nil, Nat.reduceBEq, implies_true, evS_move, zz21, gr_v, zz33, evS_assign, hd, zz6, Nat.reduceEqDiff, ↓reduceIte]
        refine ⟨d, _, by omega, le_SK id [] rfl (l' := [(2, .ptr 2 0 0), (3, .ptr 3 0 0), (5, .ptr 5 0 0), (6, .ptr 6 0 0), (7, .d (.v (.int .u64 (((a / 2 ^ d / b % 18446744073709551616) : Nat) : Int)))), (8, .d (iv (((d : Nat) : Int) - 1)))]) (m' := [(2, (⟨True, 51, 2, true, false, 2, [[.d (.v (.int .u64 ((a / 18446744073709551616 : Nat) : Int))), .d (.v (.int .u64 ((a % 18446744073709551616 : Nat) : Int)))]]⟩ : ARow)), (3, (⟨True, 51, 2, true, false, 3, [[.d (.v (.int .u64 ((b / 18446744073709551616 : Nat) : Int))), .d (.v (.int .u64 ((b % 18446744073709551616 : Nat) : Int)))]]⟩ : ARow)), (5, (⟨True, 51, 2, true, false, 5, [[.d (.v (.int .u64 0)), .d (.v (.int .u64 0))]]⟩ : ARow)), (6, (⟨True, 51, 2, true, false, 6, [[.d (.v (.int .u64 (((a / 2 ^ d % b) / 18446744073709551616 : Nat) : Int))), .d (.v (.int .u64 (((a / 2 ^ d % b) % 18446744073709551616 : Nat) : Int)))]]⟩ : ARow))]) ?_ ?_ ?_ ?_, d, by omega, rfl, rfl⟩
        · simp only [leV, look_cons, Nat.reduceBEq, cond_true, cond_false]; exact ⟨(by first | exact VLe.still rfl | exact VLe.nil_ (by decide) | exact VLe.nild_ | exact VLe.refl _ | exact VLe.ptrE (by simp) (by rfl) | exact VLe.refE (by simp) (by rfl) (by first | rfl | (simp; done) | (simp; omega)) | exact VLe.dE (by first | rfl | simp)), (by first | exact VLe.still rfl | exact VLe.nil_ (by decide) | exact VLe.nild_ | exact VLe.refl _ | exact VLe.ptrE (by simp) (by rfl) | exact VLe.refE (by simp) (by rfl) (by first | rfl | (simp; done) | (simp; omega)) | exact VLe.dE (by first | rfl | simp)), (by first | exact VLe.still rfl | exact VLe.nil_ (by decide) | exact VLe.nild_ | exact VLe.refl _ | exact VLe.ptrE (by simp) (by rfl) | exact VLe.refE (by simp) (by rfl) (by first | rfl | (simp; done) | (simp; omega)) | exact VLe.dE (by first | rfl | simp)), (by first | exact VLe.still rfl | exact VLe.nil_ (by decide) | exact VLe.nild_ | exact VLe.refl _ | exact VLe.ptrE (by simp) (by rfl) | exact VLe.refE (by simp) (by rfl) (by first | rfl | (simp; done) | (simp; omega)) | exact VLe.dE (by first | rfl | simp)), (VLe.dE (by rw [s2])), (VLe.dE (congrArg iv (wrapI (by omega) (by omega)))), trivial⟩
        · exact ⟨fun _ => ⟨_, rfl, (by first | exact RowLe.data_ (by first | rfl | simp) | exact RowLe.uq2 (by first | rfl | simp) (by simp) ids_data | exact RowLe.still (by simp [AV.idsL, AV.ids]) | exact RowLe.same (by simp) (by simp [AV.idsL, AV.ids]))⟩, fun h => by simp at h, fun _ => ⟨_, rfl, (by first | exact RowLe.data_ (by first | rfl | simp) | exact RowLe.uq2 (by first | rfl | simp) (by simp) ids_data | exact RowLe.still (by simp [AV.idsL, AV.ids]) | exact RowLe.same (by simp) (by simp [AV.idsL, AV.ids]))⟩, fun h => by simp at h, fun _ => ⟨_, rfl, (by first | exact RowLe.data_ (by first | rfl | simp) | exact RowLe.uq2 (by first | rfl | simp) (by simp) ids_data | exact RowLe.still (by simp [AV.idsL, AV.ids]) | exact RowLe.same (by simp) (by simp [AV.idsL, AV.ids]))⟩, fun h => by simp at h, fun _ => ⟨_, rfl, RowLe.cells (VLess.one_ (VLes.cons_ (VLe.dE (by rw [s1])) (VLes.cons_ (VLe.dE (by rw [s1])) (VLes.nil_))))⟩, fun h => by simp at h, trivial⟩
        · simp [wfV, AV.ids, AV.idsL, lookR, grow]
        · exact ⟨by simp [AV.idsL, AV.ids, lookR], by simp [AV.idsL, AV.ids, lookR], by simp [AV.idsL, AV.ids, lookR], by simp [AV.idsL, AV.ids, lookR], trivial⟩
      · intro hb
        rw [show decide (b ≤ (2 * (a / 2 ^ (d + 1) % b) + a / 2 ^ d % 2)) = false from hb, cond_false] at s1 s2
        clear hb
        refine awp_skip ?_
        simp only [zz6, Nat.reduceEqDiff, ↓reduceIte]
        refine hK2 _ ?_; try clear hK2 K2
        refine awp_keepL [2, 3, 5, 6, 7, 8] ?_
        simp only [zz20, zzI, look_nil, Nat.reduceBEq]
        refine awp_plain F_mixed [some 12, some 13, some 8] rfl ?_
        simp only [List.nil_append, List.cons_append, true_and, and_true, zz0, true_implies, Nat.reduceLT, Nat.reduceLeDiff, zzI, look_nil, Nat.reduceBEq, implies_true, evS_move, zz21, gr_v, zz33, evS_assign, hd, zz6, Nat.reduceEqDiff, ↓reduceIte]
        refine ⟨d, _, by omega, le_SK id [] rfl (l' := [(2, .ptr 2 0 0), (3, .ptr 3 0 0), (5, .ptr 5 0 0), (6, .ptr 6 0 0), (7, .d (.v (.int .u64 (((a / 2 ^ d / b % 18446744073709551616) : Nat) : Int)))), (8, .d (iv (((d : Nat) : Int) - 1)))]) (m' := [(2, (⟨True, 51, 2, true, false, 2, [[.d (.v (.int .u64 ((a / 18446744073709551616 : Nat) : Int))), .d (.v (.int .u64 ((a % 18446744073709551616 : Nat) : Int)))]]⟩ : ARow)), (3, (⟨True, 51, 2, true, false, 3, [[.d (.v (.int .u64 ((b / 18446744073709551616 : Nat) : Int))), .d (.v (.int .u64 ((b % 18446744073709551616 : Nat) : Int)))]]⟩ : ARow)), (5, (⟨True, 51, 2, true, false, 5, [[.d (.v (.int .u64 0)), .d (.v (.int .u64 0))]]⟩ : ARow)), (6, (⟨True, 51, 2, true, false, 6, [[.d (.v (.int .u64 (((a / 2 ^ d % b) / 18446744073709551616 : Nat) : Int))), .d (.v (.int .u64 (((a / 2 ^ d % b) % 18446744073709551616 : Nat) : Int)))]]⟩ : ARow))]) ?_ ?_ ?_ ?_, d, by omega, rfl, rfl⟩
        · simp only [leV, look_cons, Nat.reduceBEq, cond_true, cond_false]; exact ⟨(by first | exact VLe.still rfl | exact VLe.nil_ (by decide) | exact VLe.nild_ | exact VLe.refl _ | exact VLe.ptrE (by simp) (by rfl) | exact VLe.refE (by simp) (by rfl) (by first | rfl | (simp; done) | (simp; omega)) | exact VLe.dE (by first | rfl | simp)), (by first | exact VLe.still rfl | exact VLe.nil_ (by decide) | exact VLe.nild_ | exact VLe.refl _ | exact VLe.ptrE (by simp) (by rfl) | exact VLe.refE (by simp) (by rfl) (by first | rfl | (simp; done) | (simp; omega)) | exact VLe.dE (by first | rfl | simp)), (by first | exact VLe.still rfl | exact VLe.nil_ (by decide) | exact VLe.nild_ | exact VLe.refl _ | exact VLe.ptrE (by simp) (by rfl) | exact VLe.refE (by simp) (by rfl) (by first | rfl | (simp; done) | (simp; omega)) | exact VLe.dE (by first | rfl | simp)), (by first | exact VLe.still rfl | exact VLe.nil_ (by decide) | exact VLe.nild_ | exact VLe.refl _ | exact VLe.ptrE (by simp) (by rfl) | exact VLe.refE (by simp) (by rfl) (by first | rfl | (simp; done) | (simp; omega)) | exact VLe.dE (by first | rfl | simp)), (VLe.dE (by rw [s2]; exact congrArg (fun n : Nat => D.v (.int .u64 (n : Int))) hq0)), (VLe.dE (congrArg iv (wrapI (by omega) (by omega)))), trivial⟩
        · exact ⟨fun _ => ⟨_, rfl, (by first | exact RowLe.data_ (by first | rfl | simp) | exact RowLe.uq2 (by first | rfl | simp) (by simp) ids_data | exact RowLe.still (by simp [AV.idsL, AV.ids]) | exact RowLe.same (by simp) (by simp [AV.idsL, AV.ids]))⟩, fun h => by simp at h, fun _ => ⟨_, rfl, (by first | exact RowLe.data_ (by first | rfl | simp) | exact RowLe.uq2 (by first | rfl | simp) (by simp) ids_data | exact RowLe.still (by simp [AV.idsL, AV.ids]) | exact RowLe.same (by simp) (by simp [AV.idsL, AV.ids]))⟩, fun h => by simp at h, fun _ => ⟨_, rfl, (by first | exact RowLe.data_ (by first | rfl | simp) | exact RowLe.uq2 (by first | rfl | simp) (by simp) ids_data | exact RowLe.still (by simp [AV.idsL, AV.ids]) | exact RowLe.same (by simp) (by simp [AV.idsL, AV.ids]))⟩, fun h => by simp at h, fun _ => ⟨_, rfl, RowLe.cells (VLess.one_ (VLes.cons_ (VLe.dE (by rw [s1])) (VLes.cons_ (VLe.dE (by rw [s1])) (VLes.nil_))))⟩, fun h => by simp at h, trivial⟩
        · simp [wfV, AV.ids, AV.idsL, lookR, grow]
        · exact ⟨by simp [AV.idsL, AV.ids, lookR], by simp [AV.idsL, AV.ids, lookR], by simp [AV.idsL, AV.ids, lookR], by simp [AV.idsL, AV.ids, lookR], trivial⟩
  · intro hb
    obtain rfl : m = 0 := by have := of_decide_eq_false hb; omega
    clear hb
    simp only [Nat.pow_zero, Nat.div_one]
    refine awp_exit ?_
    simp only [zz6, Nat.reduceEqDiff, ↓reduceIte]
    refine hK0 _ ?_; try clear hK0 K0
    refine awp_keepL [5, 6, 7] ?_
    simp only [zz20, zzI, look_nil, Nat.reduceBEq]
    refine awp_seq fun K0 hK0 => ?_
    refine awp_draw F_mixed [some 54, some 55, some 4, none] rfl (by kernel_rfl) ?_
    simp only [List.nil_append, List.cons_append, true_and, and_true, zz0, true_implies, Nat.reduceLT, Nat.reduceLeDiff, zzI, look_nil, Nat.reduceBEq, implies_true, evS_move, F_ok51, F_ag51, F_sz51, zz8, zz23, zzD, Nat.reduceAdd, Nat.zero_add, zzF, zzB, zzE, zz16, Option.some.injEq, exists_eq_left', exists_eq_left, Option.map_some, eq_self, reduceCtorEq, and_self, evS_assign, zz18, splice, List.append_nil, zz1, zzG, zz6, Nat.reduceEqDiff, ↓reduceIte]
    refine hK0 _ ?_; try clear hK0 K0
    refine awp_keepL [4, 5] ?_
    simp only [zz20, zzI, look_nil, Nat.reduceBEq]
    refine awp_ret ?_
    simp only [zz6, Nat.reduceEqDiff, ↓reduceIte]
    refine done0 (by simp [resCs, resC, S, List.getD, look_cons, lookR, F_ag51, F_sz51, F_ok51]) ?_ (by simp [flatA, flatAs, flatD, gA, uw]) (by simp [AV.ids, AV.idsL, gA, uw])
    simp only [List.map_cons, List.map_nil, resA, S_getD, S_mem, lookR_cons, lookR_nil, Nat.reduceLT, Nat.reduceLeDiff, look_cons, Nat.reduceBEq, cond_true, cond_false, resAll, List.getD_cons_zero, List.getD_cons_succ, List.drop_zero, List.drop_succ_cons, List.take_succ_cons, List.take_zero, F_ag51, F_sz51, F_ok51]
    simp [gA, uw]
theorem sRight_ (t : Int) (l : List Int) (hl : l.length ≤ 1000000) : ACalls Try.prog 24 [iv t, ints l] [] (.d (iv (sRE t l))) := by
  refine acalls_S (rs := [.tmp 4]) Try.func24 rfl rfl 32 [(0, .d (iv t)), (1, .d (ints l))] rfl (by simp) rfl ?_
  refine awp_seq fun K0 hK0 => ?_
  refine awp_plain F_mixed [some 4] rfl ?_
  simp only [List.nil_append, List.cons_append, true_and, and_true, zz0, true_implies, Nat.reduceLT, Nat.reduceLeDiff, zzI, look_nil, Nat.reduceBEq, implies_true, evS_assign, zz6, Nat.reduceEqDiff, ↓reduceIte]
  refine hK0 _ ?_; try clear hK0 K0
  refine awp_keepL [0, 1] ?_
  simp only [zz20, zzI, look_nil, Nat.reduceBEq]
  refine awp_seq fun K0 hK0 => ?_
  refine awp_seq fun K1 hK1 => ?_
  refine awp_plain F_mixed [some 7, some 8, some 9, some 10, some 11, some 12, some 13, some 14, some 15, some 16, some 17, some 18, some 19] rfl ?_
  simp only [List.nil_append, List.cons_append, true_and, and_true, zz0, true_implies, Nat.reduceLT, Nat.reduceLeDiff, zzI, look_nil, Nat.reduceBEq, implies_true, Nat.reduceSub, S_getD, zz5, and_imp, imp_and, imp_self, and_self, evS_move, zz21, gr_v, zz22, F_sl22, F_zero3, F_sz3, zz3, newRow1, zz1, zzG, zzD, zz16, Option.some.injEq, exists_eq_left', exists_eq_left, Option.map_some, eq_self, reduceCtorEq, Nat.reduceAdd, Nat.zero_add, zzF, zzB, zzE, maxLen_le, Nat.reduceMul, evS_call, evC_value, zz29, zz30, zz13, pickK_l, pickK_r, ints, List.map_cons, D.sl.injEq, zz6, Nat.reduceEqDiff, ↓reduceIte]
  refine call_go F_go37 (fun hG => Right_ [t] (by simp)) (by simp [AV.ids, AV.idsL]) (by simp) ?_
  simp only [List.nil_append, List.cons_append, true_and, and_true, zz0, true_implies, Nat.reduceLT, Nat.reduceLeDiff, zzI, look_nil, Nat.reduceBEq, implies_true, Nat.reduceSub, S_getD, zz5, and_imp, imp_and, imp_self, and_self, evS_move, zz21, gr_v, zz22, F_sl22, F_zero3, F_sz3, zz3, newRow1, zz1, zzG, zzD, zz16, Option.some.injEq, exists_eq_left', exists_eq_left, Option.map_some, eq_self, reduceCtorEq, Nat.reduceAdd, Nat.zero_add, zzF, zzB, zzE, maxLen_le, Nat.reduceMul, evS_call, evC_value, zz29, zz30, zz13, pickK_l, pickK_r, ints, List.map_cons, D.sl.injEq, zz6, Nat.reduceEqDiff, ↓reduceIte, atsL, oksG, freeN, AV.ren, AV.renL, addRows, ORow.row, Nat.reduceMul, Nat.reduceAdd, zz9, Option.bind_some, Option.map_some, forall_eq', D.sl.injEq, S_mem, Option.some.injEq, exists_eq_left', exists_eq_left, exists_eq', exists_eq, List.length_cons, zz2]
  refine call_go F_go37 (fun hG => Right_ l (by omega)) (by simp [AV.ids, AV.idsL]) (by simp) ?_
  simp only [List.nil_append, List.cons_append, true_and, and_true, zz0, true_implies, Nat.reduceLT, Nat.reduceLeDiff, zzI, look_nil, Nat.reduceBEq, implies_true, Nat.reduceSub, S_getD, zz5, and_imp, imp_and, imp_self, and_self, evS_move, zz21, gr_v, zz22, F_sl22, F_zero3, F_sz3, zz3, newRow1, zz1, zzG, zzD, zz16, Option.some.injEq, exists_eq_left', exists_eq_left, Option.map_some, eq_self, reduceCtorEq, Nat.reduceAdd, Nat.zero_add, zzF, zzB, zzE, maxLen_le, Nat.reduceMul, evS_call, evC_value, zz29, zz30, zz13, pickK_l, pickK_r, ints, List.map_cons, D.sl.injEq, zz6, Nat.reduceEqDiff, ↓reduceIte, atsL, oksG, freeN, AV.ren, AV.renL, addRows, ORow.row, Nat.reduceMul, Nat.reduceAdd, zz9, Option.bind_some, Option.map_some, forall_eq', D.sl.injEq, S_mem, Option.some.injEq, exists_eq_left', exists_eq_left, exists_eq', exists_eq, List.length_cons, zz2]
  refine hK1 _ ?_; try clear hK1 K1
  refine awp_keepL [1, 19] ?_
  simp only [zz20, zzI, look_nil, Nat.reduceBEq]
  refine awp_condS _ (by decide) (by simp only [look_cons, Nat.reduceBEq, cond_true, cond_false]; rfl) ?_ ?_
  · intro hb
    have hs : sBad t l = true := hb
    clear hb
    refine awp_seq fun K2 hK2 => ?_
    refine awp_plain F_mixed [some 4] rfl ?_
    simp only [List.nil_append, List.cons_append, true_and, and_true, zz0, true_implies, Nat.reduceLT, Nat.reduceLeDiff, zzI, look_nil, Nat.reduceBEq, implies_true, evS_assign, zz6, Nat.reduceEqDiff, ↓reduceIte]
    refine hK2 _ ?_; try clear hK2 K2
    refine awp_keepL [4] ?_
    simp only [zz20, zzI, look_nil, Nat.reduceBEq]
    refine awp_ret ?_
    simp only [zz6, Nat.reduceEqDiff, ↓reduceIte]
    refine done0 (by simp only [resCs, resC]; trivial) ?_ (by simp [flatA, flatAs, flatD]) (by simp [AV.ids, AV.idsL])
    simp only [List.map_cons, List.map_nil, resA, S_getD, Nat.reduceLT, Nat.reduceLeDiff, look_cons, Nat.reduceBEq, cond_true, cond_false, resAll]
    rw [show sRE t l = 3 by simp only [sRE, hs, cond_true]]
  · intro hb
    have hs : sBad t l = false := hb
    clear hb
    refine awp_skip ?_
    simp only [zz6, Nat.reduceEqDiff, ↓reduceIte]
    refine hK0 _ ?_; try clear hK0 K0
    refine awp_keepL [1] ?_
    simp only [zz20, zzI, look_nil, Nat.reduceBEq]
    refine awp_seq fun K0 hK0 => ?_
    refine awp_seq fun K1 hK1 => ?_
    refine awp_plain F_mixed [some 20, some 21, some 22] rfl ?_
    simp only [List.nil_append, List.cons_append, true_and, and_true, zz0, true_implies, Nat.reduceLT, Nat.reduceLeDiff, zzI, look_nil, Nat.reduceBEq, implies_true, evS_move, evS_call, zz12, F_sl22, Option.isSome_some, ints, len_map, zz6, Nat.reduceEqDiff, ↓reduceIte]
    refine hK1 _ ?_; try clear hK1 K1
    refine awp_keepL [1, 20, 21, 22] ?_
    simp only [zz20, zzI, look_nil, Nat.reduceBEq]
    refine awp_block ?_
    refine awp_loop (fun m s => ∃ (pre : List Int) (post : List Int), (l = pre ++ post) ∧ (pre.any ngI = false) ∧ m = post.length ∧ s = S 32 [(1, .d (ints l)), (20, .d (ints l)), (21, .d (iv l.length)), (22, .d (iv pre.length))] []) (l.length) _ (le_SK id [] rfl (l' := [(1, .d (ints l)), (20, .d (ints l)), (21, .d (iv l.length)), (22, .d (iv [].length))]) (m' := []) ?_ ?_ ?_ ?_) ⟨[], l, rfl, rfl, rfl, rfl⟩ ?_
    · simp only [leV, look_cons, Nat.reduceBEq, cond_true, cond_false]; exact ⟨(by first | exact VLe.still rfl | exact VLe.nil_ (by decide) | exact VLe.nild_ | exact VLe.refl _ | exact VLe.ptrE (by simp) (by rfl) | exact VLe.refE (by simp) (by rfl) (by first | rfl | (simp; done) | (simp; omega)) | exact VLe.dE (by first | rfl | simp)), (by first | exact VLe.still rfl | exact VLe.nil_ (by decide) | exact VLe.nild_ | exact VLe.refl _ | exact VLe.ptrE (by simp) (by rfl) | exact VLe.refE (by simp) (by rfl) (by first | rfl | (simp; done) | (simp; omega)) | exact VLe.dE (by first | rfl | simp)), (by first | exact VLe.still rfl | exact VLe.nil_ (by decide) | exact VLe.nild_ | exact VLe.refl _ | exact VLe.ptrE (by simp) (by rfl) | exact VLe.refE (by simp) (by rfl) (by first | rfl | (simp; done) | (simp; omega)) | exact VLe.dE (by first | rfl | simp)), (by first | exact VLe.still rfl | exact VLe.nil_ (by decide) | exact VLe.nild_ | exact VLe.refl _ | exact VLe.ptrE (by simp) (by rfl) | exact VLe.refE (by simp) (by rfl) (by first | rfl | (simp; done) | (simp; omega)) | exact VLe.dE (by first | rfl | simp)), trivial⟩
    · exact trivial
    · simp [wfV, AV.ids, AV.idsL, lookR, grow]
    · simp [wfR]
    rintro m s ⟨pre, post, hsp, hng, rfl, rfl⟩
    have hspl := congrArg List.length hsp
    simp only [List.length_append] at hspl
    refine awp_seq fun K2 hK2 => ?_
    refine awp_plain F_mixed [some 23] rfl ?_
    simp only [List.nil_append, List.cons_append, true_and, and_true, zz0, true_implies, Nat.reduceLT, Nat.reduceLeDiff, zzI, look_nil, Nat.reduceBEq, implies_true, zz21, gr_v, zz22, len_map, zz6, Nat.reduceEqDiff, ↓reduceIte]
    refine hK2 _ ?_; try clear hK2 K2
    refine awp_keepL [1, 20, 21, 22, 23] ?_
    simp only [zz20, zzI, look_nil, Nat.reduceBEq]
    refine awp_seq fun K2 hK2 => ?_
    refine awp_condS _ (by decide) (by simp only [look_cons, Nat.reduceBEq, cond_true, cond_false]; rfl) ?_ ?_
    · intro hb
      obtain ⟨x, post2, rfl⟩ : ∃ x t, post = x :: t := by
        cases post with
        | nil => have := of_decide_eq_true hb; simp at hspl; omega
        | cons x t => exact ⟨x, t, rfl⟩
      clear hb
      simp only [List.length_cons] at hspl
      have gx : (l.map (fun n => [iv n])).getD pre.length [] = [iv x] := by
        rw [hsp, List.map_append]; exact gd_mid' (A := pre.map (fun n => [iv n])) _ _ (by simp)
      have bx := ltI (show pre.length < l.length by omega)
      have hwx : IntKind.wrap .i64 ((pre.length : Int) + 1) = ((pre ++ [x]).length : Int) := by rw [wrapI (by omega) (by omega)]; simp
      refine awp_skip ?_
      simp only [zz6, Nat.reduceEqDiff, ↓reduceIte]
      refine hK2 _ ?_; try clear hK2 K2
      refine awp_keepL [1, 20, 21, 22] ?_
      simp only [zz20, zzI, look_nil, Nat.reduceBEq]
      refine awp_seq fun K2 hK2 => ?_
      refine awp_block ?_
      refine awp_seq fun K3 hK3 => ?_
      refine awp_plain F_mixed [some 24, some 25, some 6] rfl ?_
      simp only [List.nil_append, List.cons_append, true_and, and_true, zz0, true_implies, Nat.reduceLT, Nat.reduceLeDiff, zzI, look_nil, Nat.reduceBEq, implies_true, evS_indexAddr, zz23, zz24, F_sl22, F_sz3, Option.map_some, zz16, Option.some.injEq, exists_eq_left', exists_eq_left, eq_self, reduceCtorEq, and_self, F_ok3, F_ag3, zz8, zzD, Nat.reduceAdd, Nat.zero_add, zzF, zzB, zzE, evS_assign, ints, gx, bx, hwx, len_map, ge0, Int.toNat_natCast, D.agg.injEq, zz6, Nat.reduceEqDiff, ↓reduceIte]
      refine hK3 _ ?_; try clear hK3 K3
      refine awp_keepL [1, 6, 20, 21, 22] ?_
      simp only [zz20, zzI, look_nil, Nat.reduceBEq]
      refine awp_seq fun K3 hK3 => ?_
      refine awp_plain F_mixed [some 26, some 27] rfl ?_
      simp only [List.nil_append, List.cons_append, true_and, and_true, zz0, true_implies, Nat.reduceLT, Nat.reduceLeDiff, zzI, look_nil, Nat.reduceBEq, implies_true, evS_move, zz21, gr_v, zz22, zz6, Nat.reduceEqDiff, ↓reduceIte]
      refine hK3 _ ?_; try clear hK3 K3
      refine awp_keepL [1, 20, 21, 22, 27] ?_
      simp only [zz20, zzI, look_nil, Nat.reduceBEq]
      refine awp_condS _ (by decide) (by simp only [look_cons, Nat.reduceBEq, cond_true, cond_false]; rfl) ?_ ?_
      · intro hb
        have hx : ngI x = true := hb
        clear hb
        have ha : l.any ngI = true := by rw [hsp]; simp [hx]
        refine awp_seq fun K4 hK4 => ?_
        refine awp_plain F_mixed [some 4] rfl ?_
        simp only [List.nil_append, List.cons_append, true_and, and_true, zz0, true_implies, Nat.reduceLT, Nat.reduceLeDiff, zzI, look_nil, Nat.reduceBEq, implies_true, evS_assign, zz6, Nat.reduceEqDiff, ↓reduceIte]
        refine hK4 _ ?_; try clear hK4 K4
        refine awp_keepL [4] ?_
        simp only [zz20, zzI, look_nil, Nat.reduceBEq]
        refine awp_ret ?_
        simp only [zz6, Nat.reduceEqDiff, ↓reduceIte]
        refine done0 (by simp only [resCs, resC]; trivial) ?_ (by simp [flatA, flatAs, flatD]) (by simp [AV.ids, AV.idsL])
        simp only [List.map_cons, List.map_nil, resA, S_getD, Nat.reduceLT, Nat.reduceLeDiff, look_cons, Nat.reduceBEq, cond_true, cond_false, resAll]
        rw [show sRE t l = 3 by simp only [sRE, hs, ha, cond_true, cond_false]]
      · intro hb
        have hx : ngI x = false := hb
        clear hb
        refine awp_skip ?_
        simp only [zz6, Nat.reduceEqDiff, ↓reduceIte]
        refine hK2 _ ?_; try clear hK2 K2
        refine awp_keepL [1, 20, 21, 22] ?_
        simp only [zz20, zzI, look_nil, Nat.reduceBEq]
        refine awp_plain F_mixed [some 28, some 22] rfl ?_
        simp only [List.nil_append, List.cons_append, true_and, and_true, zz0, true_implies, Nat.reduceLT, Nat.reduceLeDiff, zzI, look_nil, Nat.reduceBEq, implies_true, zz21, gr_v, zz26, evS_move, hwx, zz6, Nat.reduceEqDiff, ↓reduceIte]
        refine ⟨post2.length, _, by simp, le_SK id [] rfl (l' := [(1, .d (ints l)), (20, .d (ints l)), (21, .d (iv l.length)), (22, .d (iv (pre ++ [x]).length))]) (m' := []) ?_ ?_ ?_ ?_, (pre ++ [x]), post2, by simp [hsp], by rw [List.any_append, hng]; simpa using hx, rfl, rfl⟩
        · simp only [leV, look_cons, Nat.reduceBEq, cond_true, cond_false, hwx]; exact ⟨(by first | exact VLe.still rfl | exact VLe.nil_ (by decide) | exact VLe.nild_ | exact VLe.refl _ | exact VLe.ptrE (by simp) (by rfl) | exact VLe.refE (by simp) (by rfl) (by first | rfl | (simp; done) | (simp; omega)) | exact VLe.dE (by first | rfl | simp)), (by first | exact VLe.still rfl | exact VLe.nil_ (by decide) | exact VLe.nild_ | exact VLe.refl _ | exact VLe.ptrE (by simp) (by rfl) | exact VLe.refE (by simp) (by rfl) (by first | rfl | (simp; done) | (simp; omega)) | exact VLe.dE (by first | rfl | simp)), (by first | exact VLe.still rfl | exact VLe.nil_ (by decide) | exact VLe.nild_ | exact VLe.refl _ | exact VLe.ptrE (by simp) (by rfl) | exact VLe.refE (by simp) (by rfl) (by first | rfl | (simp; done) | (simp; omega)) | exact VLe.dE (by first | rfl | simp)), (by first | exact VLe.still rfl | exact VLe.nil_ (by decide) | exact VLe.nild_ | exact VLe.refl _ | exact VLe.ptrE (by simp) (by rfl) | exact VLe.refE (by simp) (by rfl) (by first | rfl | (simp; done) | (simp; omega)) | exact VLe.dE (by first | rfl | simp)), trivial⟩
        · exact trivial
        · simp [wfV, AV.ids, AV.idsL, lookR, grow]
        · simp [wfR]
    · intro hb
      obtain rfl : post = [] := by
        cases post with
        | nil => rfl
        | cons x t => have := of_decide_eq_false hb; simp at hspl; omega
      clear hb
      simp only [List.append_nil] at hsp
      subst hsp
      refine awp_exit ?_
      simp only [zz6, Nat.reduceEqDiff, ↓reduceIte]
      refine hK0 _ ?_; try clear hK0 K0
      refine awp_keepL [1] ?_
      simp only [zz20, zzI, look_nil, Nat.reduceBEq]
      refine awp_seq fun K0 hK0 => ?_
      refine awp_seq fun K1 hK1 => ?_
      refine awp_plain F_mixed [some 29, some 30, some 31] rfl ?_
      simp only [List.nil_append, List.cons_append, true_and, and_true, zz0, true_implies, Nat.reduceLT, Nat.reduceLeDiff, zzI, look_nil, Nat.reduceBEq, implies_true, evS_move, evS_call, zz12, F_sl22, Option.isSome_some, zz21, gr_v, zz25, ints, len_map, zz6, Nat.reduceEqDiff, ↓reduceIte]
      refine hK1 _ ?_; try clear hK1 K1
      refine awp_keepL [31] ?_
      simp only [zz20, zzI, look_nil, Nat.reduceBEq]
      refine awp_condS _ (by decide) (by simp only [look_cons, Nat.reduceBEq, cond_true, cond_false]; rfl) ?_ ?_
      · intro hb
        have hn : decide ((l.length : Int) > 1024) = true := hb
        clear hb
        refine awp_seq fun K2 hK2 => ?_
        refine awp_plain F_mixed [some 4] rfl ?_
        simp only [List.nil_append, List.cons_append, true_and, and_true, zz0, true_implies, Nat.reduceLT, Nat.reduceLeDiff, zzI, look_nil, Nat.reduceBEq, implies_true, evS_assign, zz6, Nat.reduceEqDiff, ↓reduceIte]
        refine hK2 _ ?_; try clear hK2 K2
        refine awp_keepL [4] ?_
        simp only [zz20, zzI, look_nil, Nat.reduceBEq]
        refine awp_ret ?_
        simp only [zz6, Nat.reduceEqDiff, ↓reduceIte]
        refine done0 (by simp only [resCs, resC]; trivial) ?_ (by simp [flatA, flatAs, flatD]) (by simp [AV.ids, AV.idsL])
        simp only [List.map_cons, List.map_nil, resA, S_getD, Nat.reduceLT, Nat.reduceLeDiff, look_cons, Nat.reduceBEq, cond_true, cond_false, resAll]
        rw [show sRE t l = 5 by simp only [sRE, hs, hng, hn, cond_true, cond_false]]
      · intro hb
        have hn : decide ((l.length : Int) > 1024) = false := hb
        clear hb
        refine awp_skip ?_
        simp only [zz6, Nat.reduceEqDiff, ↓reduceIte]
        refine hK0 _ ?_; try clear hK0 K0
        refine awp_keepL [] ?_
        simp only [zz20, zzI, look_nil, Nat.reduceBEq]
        refine awp_seq fun K0 hK0 => ?_
        refine awp_plain F_mixed [some 4] rfl ?_
        simp only [List.nil_append, List.cons_append, true_and, and_true, zz0, true_implies, Nat.reduceLT, Nat.reduceLeDiff, zzI, look_nil, Nat.reduceBEq, implies_true, evS_assign, zz6, Nat.reduceEqDiff, ↓reduceIte]
        refine hK0 _ ?_; try clear hK0 K0
        refine awp_keepL [4] ?_
        simp only [zz20, zzI, look_nil, Nat.reduceBEq]
        refine awp_ret ?_
        simp only [zz6, Nat.reduceEqDiff, ↓reduceIte]
        refine done0 (by simp only [resCs, resC]; trivial) ?_ (by simp [flatA, flatAs, flatD]) (by simp [AV.ids, AV.idsL])
        simp only [List.map_cons, List.map_nil, resA, S_getD, Nat.reduceLT, Nat.reduceLeDiff, look_cons, Nat.reduceBEq, cond_true, cond_false, resAll]
        rw [show sRE t l = 0 by simp only [sRE, hs, hng, hn, cond_false]]
end Go.Proofs.Ytfpicdhfoflcgaa
