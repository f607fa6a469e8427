import Derived.Test.YtopifbpibkpmmaaWpI
import Derived.Test.YtopifbpibkpmmaaSpecT
namespace Go.Proofs.Ytopifbpibkpmmaa
open Go.RowKit
set_option linter.unusedVariables false
set_option linter.unusedSimpArgs false

theorem spoilPoss_ (l : List PosV) (hl : l.length ≤ 1000000) : MCalls Try.prog 21 [.m 0] [⟨46, 4, l.map posC⟩] [⟨46, 4, (l.map spoilP).map posC⟩] [] (.tp []) := by
  refine mcalls_S (rs := []) Try.func21 rfl rfl 14 [(0, .ref 1000000000 (l.map posC).length)] [(1000000000, (⟨True, 46, 4, true, false, 1000000000, (l.map posC).map (·.map .d)⟩ : ARow))] rfl (by simp) (by rfl) (by rfl) (by rfl) (by rfl) (by rfl) ?_
  simp only [avC_map, len_map]
  refine awp_seq fun K0 hK0 => ?_
  refine awp_plain F_mixed [some 2] rfl ?_
  simp only [List.nil_append, List.cons_append, true_and, and_true, zz0, true_implies, Nat.reduceLT, Nat.reduceLeDiff, zzI, look_nil, Nat.reduceBEq, implies_true, evS_assign, zz6, Nat.reduceEqDiff, ↓reduceIte]
  refine hK0 _ ?_; try clear hK0 K0
  refine awp_keepL [0, 2] ?_
  simp only [zz20, zzI, look_nil, Nat.reduceBEq]
  refine awp_block ?_
  refine awp_loop (fun m s => ∃ A pre post : List PosV, l = pre ++ post ∧ A = pre.map spoilP ∧ m = post.length ∧ s = S 14 [(0, .ref 1000000000 (A ++ post).length), (2, .d (iv A.length))] [(1000000000, (⟨True, 46, 4, true, false, 1000000000, (A ++ post).map (avC posC)⟩ : ARow))]) l.length _ (le_SK id [] rfl (l' := [(0, .ref 1000000000 (([] : List PosV) ++ l).length), (2, .d (iv ([] : List PosV).length))]) (m' := [(1000000000, (⟨True, 46, 4, true, false, 1000000000, (([] : List PosV) ++ l).map (avC posC)⟩ : ARow))]) ?_ ?_ ?_ ?_) ⟨[], [], l, rfl, rfl, rfl, rfl⟩ ?_
  · simp only [leV, look_cons, Nat.reduceBEq, cond_true, cond_false]; exact ⟨VLe.refl _, VLe.refl _, trivial⟩
  · exact ⟨fun _ => ⟨_, rfl, RowLe.same (by simp) (idsL_avC _ _)⟩, fun h => by simp at h, trivial⟩
  · simp [wfV, AV.ids, lookR]
  · exact ⟨fun e he r' hr' => by rw [idsL_avC _ _ e he] at hr'; simp at hr', trivial⟩
  rintro m s ⟨A, pre, post, hsp, hA, rfl, rfl⟩
  refine awp_seq fun K1 hK1 => ?_
  refine awp_seq fun K2 hK2 => ?_
  refine awp_plain F_mixed [some 3, some 4, some 5, some 6] rfl ?_
  simp only [List.nil_append, List.cons_append, true_and, and_true, zz0, true_implies, Nat.reduceLT, Nat.reduceLeDiff, zzI, look_nil, Nat.reduceBEq, implies_true, evS_move, evS_call, zz12, F_sl42, Option.isSome_some, zz21, gr_v, zz22, zz6, Nat.reduceEqDiff, ↓reduceIte]
  refine hK2 _ ?_; try clear hK2 K2
  refine awp_keepL [0, 2, 6] ?_
  simp only [zz20, zzI, look_nil, Nat.reduceBEq]
  refine awp_condS _ (by decide) (by simp only [look_cons, Nat.reduceBEq, cond_true, cond_false]; rfl) ?_ ?_
  · intro hb
    obtain ⟨x, post, rfl⟩ := more_of hb; clear hb
    have hw : IntKind.wrap .i64 ((A.length : Int) + 1) = ((A ++ [spoilP x]).length : Int) := by
      have e := congrArg List.length hsp
      simp only [List.length_append, List.length_cons] at e
      have e2 : A.length = pre.length := by rw [hA]; simp
      rw [wrapI (by omega) (by omega)]; simp
    refine awp_skip ?_
    simp only [zz6, Nat.reduceEqDiff, ↓reduceIte]
    refine hK1 _ ?_; try clear hK1 K1
    refine awp_keepL [0, 2] ?_
    simp only [zz20, zzI, look_nil, Nat.reduceBEq]
    refine awp_seq fun K1 hK1 => ?_
    refine awp_block ?_
    refine awp_plain F_mixed [some 9, some 10, some 11, some 12, some 13, none] rfl ?_
    simp only [List.nil_append, List.cons_append, true_and, and_true, zz0, true_implies, Nat.reduceLT, Nat.reduceLeDiff, zzI, look_nil, Nat.reduceBEq, implies_true, evS_move, evS_indexAddr, zz23, zz24, F_sl42, F_sz46, Option.map_some, zz16, Option.some.injEq, exists_eq_left', exists_eq_left, eq_self, reduceCtorEq, and_self, zz19, F_off46_0, zzB, Nat.zero_add, Nat.reduceAdd, F_off29_0, zz18, F_ok3, F_sz3, splice, List.append_nil, zzD, zzF, zzE, zz1, zzG, getD_mid, len_map, lt_mid, ge_mid, lt_midN, set_mid, avC, posC, List.map_cons, zz6, Nat.reduceEqDiff, ↓reduceIte]
    refine hK1 _ ?_; try clear hK1 K1
    refine awp_keepL [0, 2] ?_
    simp only [zz20, zzI, look_nil, Nat.reduceBEq]
    refine awp_plain F_mixed [some 7, some 8, some 2] rfl ?_
    simp only [List.nil_append, List.cons_append, true_and, and_true, zz0, true_implies, Nat.reduceLT, Nat.reduceLeDiff, zzI, look_nil, Nat.reduceBEq, implies_true, evS_move, zz21, gr_v, zz26, evS_assign, zz6, Nat.reduceEqDiff, ↓reduceIte]
    refine ⟨post.length, _, by simp, le_SK id [] rfl (l' := [(0, .ref 1000000000 ((A ++ [spoilP x]) ++ post).length), (2, .d (iv (A ++ [spoilP x]).length))]) (m' := [(1000000000, (⟨True, 46, 4, true, false, 1000000000, ((A ++ [spoilP x]) ++ post).map (avC posC)⟩ : ARow))]) ?_ ?_ ?_ ?_, A ++ [spoilP x], pre ++ [x], post, by simp [hsp], by simp [hA], rfl, rfl⟩
    · simp only [leV, look_cons, Nat.reduceBEq, cond_true, cond_false, hw]
      refine ⟨?_, VLe.refl _, trivial⟩
      rw [show (A ++ x :: post).length = (A ++ [spoilP x] ++ post).length from by simp]; exact VLe.refl _
    · exact ⟨fun _ => ⟨_, rfl, RowLe.same (by simp [avC, posC, spoilP]) (by
        intro e he
        rcases List.mem_append.1 he with he | he
        · exact idsL_avC _ _ e he
        · rcases List.mem_cons.1 he with rfl | he
          · simp [AV.idsL, AV.ids]
          · exact idsL_avC _ _ e he)⟩, fun h => by simp at h, trivial⟩
    · simp [wfV, AV.ids, lookR]
    · exact ⟨fun e he r' hr' => by rw [idsL_avC _ _ e he] at hr'; simp at hr', trivial⟩
  · intro hb
    obtain rfl := none_of hb; clear hb
    simp only [List.append_nil] at hsp ⊢
    obtain rfl : l = pre := hsp
    subst hA
    refine awp_exit ?_
    simp only [zz6, Nat.reduceEqDiff, ↓reduceIte]
    try simp only [List.append_nil]
    refine doneM [] (by simp [resCs, resC, S, List.getD, look_cons, lookR, ]) ?_ (by simp [flatA, flatAs, flatD, ]) (by simp [AV.ids, AV.idsL, ]) (by decide) (by simp) ?_ ?_
    · simp only [List.map_cons, List.map_nil, resA, S_getD, S_mem, lookR_cons, lookR_nil, Nat.reduceLT, Nat.reduceLeDiff, look_cons, Nat.reduceBEq, cond_true, cond_false, resAll, List.getD_cons_zero, List.getD_cons_succ, List.drop_zero, List.drop_succ_cons, List.take_succ_cons, List.take_zero, ]; rfl
    · exact trivial
    · exact ⟨⟨_, rfl, trivial, rfl, rfl, (avC_map _ _).symm⟩, by simp [flatDs, flatD, posC, spoilP], trivial⟩
end Go.Proofs.Ytopifbpibkpmmaa
