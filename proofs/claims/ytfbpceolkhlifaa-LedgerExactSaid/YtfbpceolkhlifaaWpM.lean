import Derived.Test.YtfbpceolkhlifaaWpK
namespace Go.Proofs.Ytfbpceolkhlifaa
open Go.RowKit
set_option linter.unusedVariables false
set_option linter.unusedSimpArgs false
theorem F_zero24 : zeroT Try.prog 24 = some [(.int .i64 0), (.int .i64 0), (.int .i64 0)] := by kernel_rfl
theorem F_bld24 : bldT Try.prog 24 = true := by kernel_rfl
theorem F_fld24_0 : fldT Try.prog 24 0 = some (0, 1) := by kernel_rfl
theorem F_fld24_1 : fldT Try.prog 24 1 = some (1, 1) := by kernel_rfl
theorem F_fld24_2 : fldT Try.prog 24 2 = some (2, 1) := by kernel_rfl
theorem F_sl75 : sliceT Try.prog 75 = some 24 := by kernel_rfl
theorem F_by24 : byT Try.prog 24 = 24 := by kernel_rfl
theorem rAll_ : ACalls Try.prog 44 [ints [1, 2, 3, 4, 5, 6]] [⟨24, 3, allAc.map acC⟩] (.ref 0 allAc.length) := by
  refine acalls_S (rs := [.tmp 2]) Try.func44 rfl rfl 51 [(0, .d (ints [1, 2, 3, 4, 5, 6]))] rfl (by simp) rfl ?_
  refine awp_seq fun K0 hK0 => ?_
  refine awp_plain F_mixed [some 2] rfl ?_
  simp only [List.nil_append, List.cons_append, true_and, and_true, zz0, true_implies, Nat.reduceLT, Nat.reduceLeDiff, zzI, look_nil, Nat.reduceBEq, implies_true, evS_assign, zz6, Nat.reduceEqDiff, ↓reduceIte]
  refine hK0 _ ?_; try clear hK0 K0
  refine awp_keepL [0] ?_
  simp only [zz20, zzI, look_nil, Nat.reduceBEq]
  refine awp_seq fun K0 hK0 => ?_
  refine awp_plain F_mixed [some 3] rfl ?_
  simp only [List.nil_append, List.cons_append, true_and, and_true, zz0, true_implies, Nat.reduceLT, Nat.reduceLeDiff, zzI, look_nil, Nat.reduceBEq, implies_true, evS_assign, zz6, Nat.reduceEqDiff, ↓reduceIte]
  refine hK0 _ ?_; try clear hK0 K0
  refine awp_keepL [0, 3] ?_
  simp only [zz20, zzI, look_nil, Nat.reduceBEq]
  refine awp_seq fun K0 hK0 => ?_
  refine awp_seq fun K1 hK1 => ?_
  refine awp_plain F_mixed [some 4] rfl ?_
  simp only [List.nil_append, List.cons_append, true_and, and_true, zz0, true_implies, Nat.reduceLT, Nat.reduceLeDiff, zzI, look_nil, Nat.reduceBEq, implies_true, evS_assign, zz6, Nat.reduceEqDiff, ↓reduceIte]
  refine hK1 _ ?_; try clear hK1 K1
  refine awp_keepL [0, 3, 4] ?_
  simp only [zz20, zzI, look_nil, Nat.reduceBEq]
  refine awp_block ?_
  refine awp_loop (fun m s => ∃ k : Nat, k ≤ 6 ∧ m = 6 - k ∧ s = S 51 [(0, .d (ints [1, 2, 3, 4, 5, 6])), (3, .ref 3 (kL k).length), (4, .d (iv (k + 1 : Nat)))] [(3, grow 24 3 3 ((kL k).map acC))]) 6 _ (le_SK id [3] rfl (l' := [(0, .d (ints [1, 2, 3, 4, 5, 6])), (3, .ref 3 (kL 0).length), (4, .d (iv (0 + 1 : Nat)))]) (m' := [(3, grow 24 3 3 ((kL 0).map acC))]) ?_ ?_ ?_ ?_) ⟨0, by omega, rfl, rfl⟩ ?_
  · simp only [leV, look_cons, Nat.reduceBEq, cond_true, cond_false]; exact ⟨VLe.still rfl, VLe.nil_ (by decide), VLe.still rfl, trivial⟩
  · exact ⟨fun h => by simp at h, fun _ => rfl, trivial⟩
  · simp [wfV, AV.ids, lookR]
  · simp [wfR, grow, kL, AV.idsL, AV.ids]
  rintro m s ⟨k, hk6, rfl, rfl⟩
  refine awp_seq fun K2 hK2 => ?_
  refine awp_seq fun K3 hK3 => ?_
  refine awp_plain F_mixed [some 10, some 11] rfl ?_
  simp only [List.nil_append, List.cons_append, true_and, and_true, zz0, true_implies, Nat.reduceLT, Nat.reduceLeDiff, zzI, look_nil, Nat.reduceBEq, implies_true, evS_move, zz21, gr_v, b_leq, pure_leq, zz6, Nat.reduceEqDiff, ↓reduceIte]
  refine hK3 _ ?_; try clear hK3 K3
  refine awp_keepL [0, 3, 4, 11] ?_
  simp only [zz20, zzI, look_nil, Nat.reduceBEq]
  refine awp_condS _ (by decide) (by simp only [look_cons, Nat.reduceBEq, cond_true, cond_false]; rfl) ?_ ?_
  · intro hb
    have hk : k < 6 := by have := of_decide_eq_true hb; omega
    clear hb
    have hwk : IntKind.wrap .i64 (((k + 1 : Nat) : Int) + 1) = ((k + 1 + 1 : Nat) : Int) := by rw [wrapI (by omega) (by omega)]; omega
    refine awp_skip ?_
    simp only [zz6, Nat.reduceEqDiff, ↓reduceIte]
    refine hK2 _ ?_; try clear hK2 K2
    refine awp_keepL [0, 3, 4] ?_
    simp only [zz20, zzI, look_nil, Nat.reduceBEq]
    refine awp_seq fun K2 hK2 => ?_
    refine awp_block ?_
    refine awp_seq fun K3 hK3 => ?_
    refine awp_plain F_mixed [some 5] rfl ?_
    simp only [List.nil_append, List.cons_append, true_and, and_true, zz0, true_implies, Nat.reduceLT, Nat.reduceLeDiff, zzI, look_nil, Nat.reduceBEq, implies_true, evS_assign, zz6, Nat.reduceEqDiff, ↓reduceIte]
    refine hK3 _ ?_; try clear hK3 K3
    refine awp_keepL [0, 3, 4, 5] ?_
    simp only [zz20, zzI, look_nil, Nat.reduceBEq]
    refine awp_seq fun K3 hK3 => ?_
    refine awp_seq fun K4 hK4 => ?_
    refine awp_plain F_mixed [some 6] rfl ?_
    simp only [List.nil_append, List.cons_append, true_and, and_true, zz0, true_implies, Nat.reduceLT, Nat.reduceLeDiff, zzI, look_nil, Nat.reduceBEq, implies_true, evS_assign, zz6, Nat.reduceEqDiff, ↓reduceIte]
    refine hK4 _ ?_; try clear hK4 K4
    refine awp_keepL [0, 3, 4, 5, 6] ?_
    simp only [zz20, zzI, look_nil, Nat.reduceBEq]
    refine awp_block ?_
    refine awp_loop (fun m s => ∃ j : Nat, j ≤ 6 ∧ m = 6 - j ∧ s = S 51 [(0, .d (ints [1, 2, 3, 4, 5, 6])), (3, .ref 3 (kL k).length), (4, .d (iv (k + 1 : Nat))), (5, bv (decide (k + 1 ≤ j))), (6, .d (iv j))] [(3, grow 24 3 3 ((kL k).map acC))]) 6 _ (le_SK id [] rfl (l' := [(0, .d (ints [1, 2, 3, 4, 5, 6])), (3, .ref 3 (kL k).length), (4, .d (iv (k + 1 : Nat))), (5, bv (decide (k + 1 ≤ 0))), (6, .d (iv 0))]) (m' := [(3, grow 24 3 3 ((kL k).map acC))]) ?_ ?_ ?_ ?_) ⟨0, by omega, rfl, rfl⟩ ?_
    · simp only [leV, look_cons, Nat.reduceBEq, cond_true, cond_false, show decide (k + 1 ≤ 0) = false from decide_eq_false (by omega)]; exact ⟨VLe.refl _, VLe.refl _, VLe.refl _, VLe.refl _, VLe.refl _, trivial⟩
    · exact ⟨fun _ => ⟨_, rfl, RowLe.data_ rfl⟩, fun h => by simp at h, trivial⟩
    · simp [wfV, AV.ids, lookR, grow]
    · exact ⟨wf_data _ _, trivial⟩
    rintro m s ⟨j, hj6, rfl, rfl⟩
    refine awp_seq fun K5 hK5 => ?_
    refine awp_seq fun K6 hK6 => ?_
    refine awp_plain F_mixed [some 14, some 15, some 16, some 17] rfl ?_
    simp only [List.nil_append, List.cons_append, true_and, and_true, zz0, true_implies, Nat.reduceLT, Nat.reduceLeDiff, zzI, look_nil, Nat.reduceBEq, implies_true, evS_move, evS_call, zz12, F_sl50, Option.isSome_some, zz21, gr_v, zz22, ints, len_map, zz6, Nat.reduceEqDiff, ↓reduceIte]
    refine hK6 _ ?_; try clear hK6 K6
    refine awp_keepL [0, 3, 4, 5, 6, 17] ?_
    simp only [zz20, zzI, look_nil, Nat.reduceBEq]
    refine awp_condS _ (by decide) (by simp only [look_cons, Nat.reduceBEq, cond_true, cond_false]; rfl) ?_ ?_
    · intro hb
      have hj : j < 6 := by
        have := of_decide_eq_true hb
        simp at this; omega
      clear hb
      have hwj : IntKind.wrap .i64 ((j : Int) + 1) = ((j + 1 : Nat) : Int) := by rw [wrapI (by omega) (by omega)]; omega
      have hdj : (decide (k + 1 ≤ j) || ((j + 1 : Nat) : Int) == ((k + 1 : Nat) : Int)) = decide (k + 1 ≤ j + 1) := by
        rw [Bool.eq_iff_iff]; simp; omega
      have gj : (([1, 2, 3, 4, 5, 6] : List Int).map fun n => [iv n]).getD j [] = [iv ((j + 1 : Nat) : Int)] := by
        have : j = 0 ∨ j = 1 ∨ j = 2 ∨ j = 3 ∨ j = 4 ∨ j = 5 := by omega
        rcases this with rfl | rfl | rfl | rfl | rfl | rfl <;> rfl
      have bj : ((j : Int) < ((([1, 2, 3, 4, 5, 6] : List Int).map fun n => [iv n]).length : Int)) = True := by simp; omega
      refine awp_skip ?_
      simp only [zz6, Nat.reduceEqDiff, ↓reduceIte]
      refine hK5 _ ?_; try clear hK5 K5
      refine awp_keepL [0, 3, 4, 5, 6] ?_
      simp only [zz20, zzI, look_nil, Nat.reduceBEq]
      refine awp_seq fun K5 hK5 => ?_
      refine awp_block ?_
      refine awp_plain F_mixed [some 20, some 21, some 22, some 23, some 24, some 25, some 26, some 27, some 28, some 5] rfl ?_
      simp only [List.nil_append, List.cons_append, true_and, and_true, zz0, true_implies, Nat.reduceLT, Nat.reduceLeDiff, zzI, look_nil, Nat.reduceBEq, implies_true, Nat.reduceSub, S_getD, zz5, and_imp, imp_and, imp_self, and_self, evS_move, evS_indexAddr, zz23, zz24, F_sl50, F_sz3, Option.map_some, zz16, Option.some.injEq, exists_eq_left', exists_eq_left, eq_self, reduceCtorEq, F_ok3, F_ag3, zz8, zzD, Nat.reduceAdd, Nat.zero_add, zzF, zzB, zzE, zz21, gr_v, zz34, zz13, pickK_l, pickK_r, evS_assign, ints, gj, bj, ge0, Int.toNat_natCast, hdj, zz6, Nat.reduceEqDiff, ↓reduceIte]
      refine hK5 _ ?_; try clear hK5 K5
      refine awp_keepL [0, 3, 4, 5, 6] ?_
      simp only [zz20, zzI, look_nil, Nat.reduceBEq]
      refine awp_plain F_mixed [some 18, some 19, some 6] rfl ?_
      simp only [List.nil_append, List.cons_append, true_and, and_true, zz0, true_implies, Nat.reduceLT, Nat.reduceLeDiff, zzI, look_nil, Nat.reduceBEq, implies_true, evS_move, zz21, gr_v, zz26, evS_assign, hwj, zz6, Nat.reduceEqDiff, ↓reduceIte]
      refine ⟨6 - (j + 1), _, by omega, le_SK id [] rfl (l' := [(0, .d (ints [1, 2, 3, 4, 5, 6])), (3, .ref 3 (kL k).length), (4, .d (iv (k + 1 : Nat))), (5, bv (decide (k + 1 ≤ (j + 1)))), (6, .d (iv (j + 1)))]) (m' := [(3, grow 24 3 3 ((kL k).map acC))]) ?_ ?_ ?_ ?_, j + 1, by omega, rfl, rfl⟩
      · simp only [leV, look_cons, Nat.reduceBEq, cond_true, cond_false, hwj, Nat.reduceLeDiff]; exact ⟨VLe.refl _, VLe.refl _, VLe.refl _, VLe.refl _, VLe.refl _, trivial⟩
      · exact ⟨fun _ => ⟨_, rfl, RowLe.data_ rfl⟩, fun h => by simp at h, trivial⟩
      · simp [wfV, AV.ids, lookR, grow]
      · exact ⟨wf_data _ _, trivial⟩
    · intro hb
      obtain rfl : j = 6 := by
        have := of_decide_eq_false hb
        simp at this; omega
      clear hb
      have hd6 : decide (k + 1 ≤ 6) = true := decide_eq_true (by omega)
      refine awp_exit ?_
      simp only [zz6, Nat.reduceEqDiff, ↓reduceIte]
      refine hK3 _ ?_; try clear hK3 K3
      refine awp_keepL [0, 3, 4, 5] ?_
      simp only [zz20, zzI, look_nil, Nat.reduceBEq]
      refine awp_seq fun K3 hK3 => ?_
      simp only [hd6]
      refine awp_plain F_mixed [some 7] rfl ?_
      simp only [List.nil_append, List.cons_append, true_and, and_true, zz0, true_implies, Nat.reduceLT, Nat.reduceLeDiff, zzI, look_nil, Nat.reduceBEq, implies_true, evS_assign, zz6, Nat.reduceEqDiff, ↓reduceIte]
      refine hK3 _ ?_; try clear hK3 K3
      refine awp_keepL [0, 3, 4, 5, 7] ?_
      simp only [zz20, zzI, look_nil, Nat.reduceBEq]
      refine awp_block ?_
      refine awp_loop (fun m s => ∃ w : Nat, w ≤ 17 ∧ m = 17 - w ∧ s = S 51 [(0, .d (ints [1, 2, 3, 4, 5, 6])), (3, .ref 3 ((kL k ++ wL (k + 1) w)).length), (4, .d (iv (k + 1 : Nat))), (5, bv true), (7, .d (iv w))] [(3, grow 24 3 3 (((kL k ++ wL (k + 1) w)).map acC))]) 17 _ (le_SK id [] rfl (l' := [(0, .d (ints [1, 2, 3, 4, 5, 6])), (3, .ref 3 (kL k ++ wL (k + 1) 0).length), (4, .d (iv (k + 1 : Nat))), (5, bv true), (7, .d (iv ((0 : Nat) : Int)))]) (m' := [(3, grow 24 3 3 ((kL k ++ wL (k + 1) 0).map acC))]) ?_ ?_ ?_ ?_) ⟨0, by omega, rfl, rfl⟩ ?_
      · simp only [leV, look_cons, Nat.reduceBEq, cond_true, cond_false, show kL k ++ wL (k + 1) 0 = kL k by simp [wL]]; exact ⟨VLe.refl _, VLe.refl _, VLe.refl _, VLe.refl _, VLe.refl _, trivial⟩
      · exact ⟨fun _ => ⟨_, rfl, RowLe.data_ (by simp [wL])⟩, fun h => by simp at h, trivial⟩
      · simp [wfV, AV.ids, lookR, grow]
      · exact ⟨wf_data _ _, trivial⟩
      rintro m s ⟨w, hw17, rfl, rfl⟩
      refine awp_seq fun K4 hK4 => ?_
      refine awp_seq fun K5 hK5 => ?_
      refine awp_plain F_mixed [some 29, some 30, some 31, some 32, some 33] rfl ?_
      simp only [List.nil_append, List.cons_append, true_and, and_true, zz0, true_implies, Nat.reduceLT, Nat.reduceLeDiff, zzI, look_nil, Nat.reduceBEq, implies_true, Nat.reduceSub, S_getD, zz5, and_imp, imp_and, imp_self, and_self, evS_move, zz21, gr_v, b_leq, pure_leq, zz13, pickK_l, pickK_r, zz6, Nat.reduceEqDiff, ↓reduceIte]
      refine hK5 _ ?_; try clear hK5 K5
      refine awp_keepL [0, 3, 4, 5, 7, 33] ?_
      simp only [zz20, zzI, look_nil, Nat.reduceBEq]
      refine awp_condS _ (by decide) (by simp only [look_cons, Nat.reduceBEq, cond_true, cond_false]; rfl) ?_ ?_
      · intro hb
        have hw : w < 17 := by
          have : decide ((w : Int) ≤ 16) = true := by simpa using hb
          have := of_decide_eq_true this; omega
        clear hb
        have hww : IntKind.wrap .i64 ((w : Int) + 1) = ((w + 1 : Nat) : Int) := by rw [wrapI (by omega) (by omega)]; omega
        refine awp_skip ?_
        simp only [zz6, Nat.reduceEqDiff, ↓reduceIte]
        refine hK4 _ ?_; try clear hK4 K4
        refine awp_keepL [0, 3, 4, 5, 7] ?_
        simp only [zz20, zzI, look_nil, Nat.reduceBEq]
        refine awp_seq fun K4 hK4 => ?_
        refine awp_block ?_
        refine awp_seq fun K5 hK5 => ?_
        refine awp_plain F_mixed [some 8] rfl ?_
        simp only [List.nil_append, List.cons_append, true_and, and_true, zz0, true_implies, Nat.reduceLT, Nat.reduceLeDiff, zzI, look_nil, Nat.reduceBEq, implies_true, evS_assign, zz6, Nat.reduceEqDiff, ↓reduceIte]
        refine hK5 _ ?_; try clear hK5 K5
        refine awp_keepL [0, 3, 4, 5, 7, 8] ?_
        simp only [zz20, zzI, look_nil, Nat.reduceBEq]
        refine awp_block ?_
        refine awp_loop (fun m s => ∃ c : Nat, c ≤ 3 ∧ m = 3 - c ∧ s = S 51 [(0, .d (ints [1, 2, 3, 4, 5, 6])), (3, .ref 3 ((kL k ++ wL (k + 1) w ++ cL (k + 1) w c)).length), (4, .d (iv (k + 1 : Nat))), (5, bv true), (7, .d (iv w)), (8, .d (iv c))] [(3, grow 24 3 3 (((kL k ++ wL (k + 1) w ++ cL (k + 1) w c)).map acC))]) 3 _ (le_SK id [] rfl (l' := [(0, .d (ints [1, 2, 3, 4, 5, 6])), (3, .ref 3 (kL k ++ wL (k + 1) w ++ cL (k + 1) w 0).length), (4, .d (iv (k + 1 : Nat))), (5, bv true), (7, .d (iv w)), (8, .d (iv ((0 : Nat) : Int)))]) (m' := [(3, grow 24 3 3 ((kL k ++ wL (k + 1) w ++ cL (k + 1) w 0).map acC))]) ?_ ?_ ?_ ?_) ⟨0, by omega, rfl, rfl⟩ ?_
        · simp only [leV, look_cons, Nat.reduceBEq, cond_true, cond_false, show kL k ++ wL (k + 1) w ++ cL (k + 1) w 0 = kL k ++ wL (k + 1) w by simp [cL]]; exact ⟨VLe.refl _, VLe.refl _, VLe.refl _, VLe.refl _, VLe.refl _, VLe.refl _, trivial⟩
        · exact ⟨fun _ => ⟨_, rfl, RowLe.data_ (by simp [cL])⟩, fun h => by simp at h, trivial⟩
        · simp [wfV, AV.ids, lookR, grow]
        · exact ⟨wf_data _ _, trivial⟩
        rintro m s ⟨c, hc3, rfl, rfl⟩
        have n1 := kL_len k
        have n2 := wL_len (k + 1) w
        have n3 := cL_len (k + 1) w c
        refine awp_seq fun K6 hK6 => ?_
        refine awp_seq fun K7 hK7 => ?_
        refine awp_plain F_mixed [some 36, some 37] rfl ?_
        simp only [List.nil_append, List.cons_append, true_and, and_true, zz0, true_implies, Nat.reduceLT, Nat.reduceLeDiff, zzI, look_nil, Nat.reduceBEq, implies_true, evS_move, zz21, gr_v, zz22, zz6, Nat.reduceEqDiff, ↓reduceIte]
        refine hK7 _ ?_; try clear hK7 K7
        refine awp_keepL [0, 3, 4, 5, 7, 8, 37] ?_
        simp only [zz20, zzI, look_nil, Nat.reduceBEq]
        refine awp_condS _ (by decide) (by simp only [look_cons, Nat.reduceBEq, cond_true, cond_false]; rfl) ?_ ?_
        · intro hb
          have hc : c < 3 := by have := of_decide_eq_true hb; omega
          clear hb
          have hwc : IntKind.wrap .i64 ((c : Int) + 1) = ((c + 1 : Nat) : Int) := by rw [wrapI (by omega) (by omega)]; omega
          refine awp_skip ?_
          simp only [zz6, Nat.reduceEqDiff, ↓reduceIte]
          refine hK6 _ ?_; try clear hK6 K6
          refine awp_keepL [0, 3, 4, 5, 7, 8] ?_
          simp only [zz20, zzI, look_nil, Nat.reduceBEq]
          refine awp_seq fun K6 hK6 => ?_
          refine awp_block ?_
          refine awp_seq fun K7 hK7 => ?_
          refine awp_plain F_mixed [some 40, some 41, some 42, some 43, some 9, none] rfl ?_
          simp only [List.nil_append, List.cons_append, true_and, and_true, zz0, true_implies, Nat.reduceLT, Nat.reduceLeDiff, zzI, look_nil, Nat.reduceBEq, implies_true, evS_move, F_zero24, F_bld24, zz7, splice, Option.getD_some, List.append_nil, zz1, zzG, zzD, zz16, Option.some.injEq, exists_eq_left', exists_eq_left, Option.map_some, eq_self, reduceCtorEq, and_self, Nat.reduceAdd, Nat.zero_add, zzF, zzB, zzE, zz10, F_fld24_0, F_fld24_1, F_fld24_2, zz32, newRow1, zz18, F_ok24, F_sz24, zz6, Nat.reduceEqDiff, ↓reduceIte]
          refine hK7 _ ?_; try clear hK7 K7
          refine awp_keepL [0, 3, 4, 5, 7, 8, 9] ?_
          simp only [zz20, zzI, look_nil, Nat.reduceBEq]
          refine awp_seq fun K7 hK7 => ?_
          refine awp_plain F_mixed [some 44, some 45] rfl ?_
          simp only [List.nil_append, List.cons_append, true_and, and_true, zz0, true_implies, Nat.reduceLT, Nat.reduceLeDiff, zzI, look_nil, Nat.reduceBEq, implies_true, F_ok24, F_ag24, F_sz24, zz8, zz23, zzD, Nat.reduceAdd, Nat.zero_add, zzF, zzB, zzE, zz16, Option.some.injEq, exists_eq_left', exists_eq_left, Option.map_some, eq_self, reduceCtorEq, and_self, evS_call, evC_value, acC, D.agg.injEq, zz6, Nat.reduceEqDiff, ↓reduceIte]
          refine call_go F_go19 (fun hG => rAcRight_ ⟨((k + 1 : Nat) : Int), (w : Int), (c : Int)⟩) (by simp [AV.ids, AV.idsL]) (by simp) ?_
          simp only [List.nil_append, List.cons_append, true_and, and_true, zz0, true_implies, Nat.reduceLT, Nat.reduceLeDiff, zzI, look_nil, Nat.reduceBEq, implies_true, F_ok24, F_ag24, F_sz24, zz8, zz23, zzD, Nat.reduceAdd, Nat.zero_add, zzF, zzB, zzE, zz16, Option.some.injEq, exists_eq_left', exists_eq_left, Option.map_some, eq_self, reduceCtorEq, and_self, evS_call, evC_value, acC, D.agg.injEq, zz6, Nat.reduceEqDiff, ↓reduceIte, atsL, oksG, freeN, AV.ren, AV.renL, addRows, ORow.row, Nat.reduceMul, Nat.reduceAdd, zz9, Option.bind_some, Option.map_some, forall_eq', D.sl.injEq, S_mem, Option.some.injEq, exists_eq_left', exists_eq_left, exists_eq', exists_eq, List.length_cons, zz2]
          refine hK7 _ ?_; try clear hK7 K7
          refine awp_keepL [0, 3, 4, 5, 7, 8, 9, 45] ?_
          simp only [zz20, zzI, look_nil, Nat.reduceBEq]
          refine awp_condS _ (by decide) (by simp only [look_cons, Nat.reduceBEq, cond_true, cond_false]; rfl) ?_ ?_
          · intro hb
            have hok : acOk ⟨((k + 1 : Nat) : Int), (w : Int), (c : Int)⟩ = true := hb
            clear hb
            have hcx : kL k ++ wL (k + 1) w ++ cL (k + 1) w (c + 1) = (kL k ++ wL (k + 1) w ++ cL (k + 1) w c) ++ [(⟨((k + 1 : Nat) : Int), (w : Int), (c : Int)⟩ : AcV)] := by rw [cL_succ, oneA, hok]; simp
            have hcl : (kL k ++ wL (k + 1) w ++ cL (k + 1) w (c + 1)).length = (kL k ++ wL (k + 1) w ++ cL (k + 1) w c).length + 1 := by rw [hcx]; simp only [List.length_append, List.length_singleton]
            have hm : (kL k ++ wL (k + 1) w ++ cL (k + 1) w c).length + 1 ≤ 1000000 := by simp only [List.length_append]; omega
            refine awp_plain F_mixed [some 46, some 47, some 48, some 49, some 3] rfl ?_
            simp only [List.nil_append, List.cons_append, true_and, and_true, zz0, true_implies, Nat.reduceLT, Nat.reduceLeDiff, zzI, look_nil, Nat.reduceBEq, implies_true, evS_move, F_ok24, F_ag24, F_sz24, zz8, zz23, zzD, Nat.reduceAdd, Nat.zero_add, zzF, zzB, zzE, zz16, Option.some.injEq, exists_eq_left', exists_eq_left, Option.map_some, eq_self, reduceCtorEq, and_self, F_sl75, F_zero24, zz3, newRow1, zz1, zzG, maxLen_le, Nat.reduceMul, evS_call, F_by24, zz4, zz9, Option.bind_some, evS_assign, grow, D.agg.injEq, unDs_map, zz6, Nat.reduceEqDiff, ↓reduceIte]
            first | refine ⟨le_maxLen hm, by omega, ?_⟩ | refine ⟨by simp, le_maxLen hm, by omega, ?_⟩
            clear hm
            refine hK6 _ ?_; try clear hK6 K6
            refine awp_keepL [0, 3, 4, 5, 7, 8] ?_
            simp only [zz20, zzI, look_nil, Nat.reduceBEq]
            refine awp_plain F_mixed [some 38, some 39, some 8] rfl ?_
            simp only [List.nil_append, List.cons_append, true_and, and_true, zz0, true_implies, Nat.reduceLT, Nat.reduceLeDiff, zzI, look_nil, Nat.reduceBEq, implies_true, evS_move, zz21, gr_v, zz26, evS_assign, hwc, zz6, Nat.reduceEqDiff, ↓reduceIte]
            refine ⟨3 - (c + 1), _, by omega, le_SK (fun r => bif r == 3 then 49 else r) [] rfl (l' := [(0, .d (ints [1, 2, 3, 4, 5, 6])), (3, .ref 3 (kL k ++ wL (k + 1) w ++ cL (k + 1) w (c + 1)).length), (4, .d (iv (k + 1 : Nat))), (5, bv true), (7, .d (iv w)), (8, .d (iv ((c + 1 : Nat) : Int)))]) (m' := [(3, grow 24 3 3 ((kL k ++ wL (k + 1) w ++ cL (k + 1) w (c + 1)).map acC))]) ?_ ?_ ?_ ?_, c + 1, by omega, rfl, rfl⟩
            · simp only [leV, look_cons, Nat.reduceBEq, cond_true, cond_false, hwc]
              refine ⟨VLe.still rfl, ?_, VLe.still rfl, VLe.still rfl, VLe.still rfl, VLe.still rfl, trivial⟩
              rw [hcl]; exact VLe.ref_ (f := (fun r => bif r == 3 then 49 else r)) (r := 3) (by simp)
            · exact ⟨fun _ => ⟨_, rfl, RowLe.data_ (by rw [hcx] <;> simp [acC])⟩, fun h => by simp at h, trivial⟩
            · simp [wfV, AV.ids, lookR, grow]
            · exact ⟨wf_data _ _, trivial⟩
          · intro hb
            have hok : acOk ⟨((k + 1 : Nat) : Int), (w : Int), (c : Int)⟩ = false := hb
            clear hb
            have hcx : kL k ++ wL (k + 1) w ++ cL (k + 1) w (c + 1) = kL k ++ wL (k + 1) w ++ cL (k + 1) w c := by rw [cL_succ, oneA, hok]; simp
            have hcl : (kL k ++ wL (k + 1) w ++ cL (k + 1) w (c + 1)).length = (kL k ++ wL (k + 1) w ++ cL (k + 1) w c).length := by rw [hcx]
            refine awp_skip ?_
            simp only [zz6, Nat.reduceEqDiff, ↓reduceIte]
            refine hK6 _ ?_; try clear hK6 K6
            refine awp_keepL [0, 3, 4, 5, 7, 8] ?_
            simp only [zz20, zzI, look_nil, Nat.reduceBEq]
            refine awp_plain F_mixed [some 38, some 39, some 8] rfl ?_
            simp only [List.nil_append, List.cons_append, true_and, and_true, zz0, true_implies, Nat.reduceLT, Nat.reduceLeDiff, zzI, look_nil, Nat.reduceBEq, implies_true, evS_move, zz21, gr_v, zz26, evS_assign, hwc, zz6, Nat.reduceEqDiff, ↓reduceIte]
            refine ⟨3 - (c + 1), _, by omega, le_SK (fun r => bif r == 3 then 3 else r) [] rfl (l' := [(0, .d (ints [1, 2, 3, 4, 5, 6])), (3, .ref 3 (kL k ++ wL (k + 1) w ++ cL (k + 1) w (c + 1)).length), (4, .d (iv (k + 1 : Nat))), (5, bv true), (7, .d (iv w)), (8, .d (iv ((c + 1 : Nat) : Int)))]) (m' := [(3, grow 24 3 3 ((kL k ++ wL (k + 1) w ++ cL (k + 1) w (c + 1)).map acC))]) ?_ ?_ ?_ ?_, c + 1, by omega, rfl, rfl⟩
            · simp only [leV, look_cons, Nat.reduceBEq, cond_true, cond_false, hwc]
              refine ⟨VLe.still rfl, ?_, VLe.still rfl, VLe.still rfl, VLe.still rfl, VLe.still rfl, trivial⟩
              rw [hcl]; exact VLe.ref_ (f := (fun r => bif r == 3 then 3 else r)) (r := 3) (by simp)
            · exact ⟨fun _ => ⟨_, rfl, RowLe.data_ (by rw [hcx] <;> simp [acC])⟩, fun h => by simp at h, trivial⟩
            · simp [wfV, AV.ids, lookR, grow]
            · exact ⟨wf_data _ _, trivial⟩
        · intro hb
          obtain rfl : c = 3 := by have := of_decide_eq_false hb; omega
          clear hb
          refine awp_exit ?_
          simp only [zz6, Nat.reduceEqDiff, ↓reduceIte]
          refine hK4 _ ?_; try clear hK4 K4
          refine awp_keepL [0, 3, 4, 5, 7] ?_
          simp only [zz20, zzI, look_nil, Nat.reduceBEq]
          refine awp_plain F_mixed [some 34, some 35, some 7] rfl ?_
          simp only [List.nil_append, List.cons_append, true_and, and_true, zz0, true_implies, Nat.reduceLT, Nat.reduceLeDiff, zzI, look_nil, Nat.reduceBEq, implies_true, evS_move, zz21, gr_v, zz26, evS_assign, hww, zz6, Nat.reduceEqDiff, ↓reduceIte]
          refine ⟨17 - (w + 1), _, by omega, le_SK id [] rfl (l' := [(0, .d (ints [1, 2, 3, 4, 5, 6])), (3, .ref 3 (kL k ++ wL (k + 1) (w + 1)).length), (4, .d (iv (k + 1 : Nat))), (5, bv true), (7, .d (iv ((w + 1 : Nat) : Int)))]) (m' := [(3, grow 24 3 3 ((kL k ++ wL (k + 1) (w + 1)).map acC))]) ?_ ?_ ?_ ?_, w + 1, by omega, rfl, rfl⟩
          · simp only [leV, look_cons, Nat.reduceBEq, cond_true, cond_false, hww, wL_succ, List.append_assoc]; exact ⟨VLe.refl _, VLe.refl _, VLe.refl _, VLe.refl _, VLe.refl _, trivial⟩
          · exact ⟨fun _ => ⟨_, rfl, RowLe.data_ (by rw [wL_succ, List.append_assoc])⟩, fun h => by simp at h, trivial⟩
          · simp [wfV, AV.ids, lookR, grow]
          · exact ⟨wf_data _ _, trivial⟩
      · intro hb
        obtain rfl : w = 17 := by
          have : decide ((w : Int) ≤ 16) = false := by simpa using hb
          have := of_decide_eq_false this; omega
        clear hb
        refine awp_exit ?_
        simp only [zz6, Nat.reduceEqDiff, ↓reduceIte]
        refine hK2 _ ?_; try clear hK2 K2
        refine awp_keepL [0, 3, 4] ?_
        simp only [zz20, zzI, look_nil, Nat.reduceBEq]
        refine awp_plain F_mixed [some 12, some 13, some 4] rfl ?_
        simp only [List.nil_append, List.cons_append, true_and, and_true, zz0, true_implies, Nat.reduceLT, Nat.reduceLeDiff, zzI, look_nil, Nat.reduceBEq, implies_true, evS_move, zz21, gr_v, zz26, evS_assign, hwk, zz6, Nat.reduceEqDiff, ↓reduceIte]
        refine ⟨6 - (k + 1), _, by omega, le_SK id [] rfl (l' := [(0, .d (ints [1, 2, 3, 4, 5, 6])), (3, .ref 3 (kL (k + 1)).length), (4, .d (iv ((k + 1) + 1 : Nat)))]) (m' := [(3, grow 24 3 3 ((kL (k + 1)).map acC))]) ?_ ?_ ?_ ?_, k + 1, by omega, rfl, rfl⟩
        · simp only [leV, look_cons, Nat.reduceBEq, cond_true, cond_false, hwk, kL_succ]; exact ⟨VLe.still rfl, VLe.refl _, VLe.still rfl, trivial⟩
        · exact ⟨fun _ => ⟨_, rfl, RowLe.data_ (by rw [kL_succ])⟩, fun h => by simp at h, trivial⟩
        · simp [wfV, AV.ids, lookR, grow]
        · exact ⟨wf_data _ _, trivial⟩
  · intro hb
    obtain rfl : k = 6 := by have := of_decide_eq_false hb; omega
    clear hb
    refine awp_exit ?_
    simp only [zz6, Nat.reduceEqDiff, ↓reduceIte]
    refine hK0 _ ?_; try clear hK0 K0
    refine awp_keepL [3] ?_
    simp only [zz20, zzI, look_nil, Nat.reduceBEq]
    refine awp_seq fun K0 hK0 => ?_
    refine awp_plain F_mixed [some 50, some 2] rfl ?_
    simp only [List.nil_append, List.cons_append, true_and, and_true, zz0, true_implies, Nat.reduceLT, Nat.reduceLeDiff, zzI, look_nil, Nat.reduceBEq, implies_true, evS_move, evS_assign, zz6, Nat.reduceEqDiff, ↓reduceIte]
    refine hK0 _ ?_; try clear hK0 K0
    refine awp_keepL [2] ?_
    simp only [zz20, zzI, look_nil, Nat.reduceBEq]
    refine awp_ret ?_
    simp only [zz6, Nat.reduceEqDiff, ↓reduceIte]
    refine done1 3 (by simp only [resCs, resC]; trivial) ?_ (by simp [flatA, flatAs, flatD, acC]) (by simp [AV.ids, AV.idsL, acC]) (by rfl) trivial rfl rfl ?_ (by simp [flatDs, flatD, acC])
    · simp only [List.map_cons, List.map_nil, resA, S_getD, Nat.reduceLT, Nat.reduceLeDiff, look_cons, Nat.reduceBEq, cond_true, cond_false, resAll]; rfl
    · rfl
end Go.Proofs.Ytfbpceolkhlifaa
