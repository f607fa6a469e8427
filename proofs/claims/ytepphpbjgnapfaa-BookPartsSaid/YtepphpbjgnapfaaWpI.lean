import Derived.Test.YtepphpbjgnapfaaWpG
import Derived.Test.YtepphpbjgnapfaaSpecKD
namespace Go.Proofs.Ytepphpbjgnapfaa
open Go.RowKit
set_option linter.unusedVariables false
set_option linter.unusedSimpArgs false
theorem F_go48 : goFn Try.prog 48 := ⟨_, Try.func48, rfl, rfl⟩
theorem F_go22 : goFn Try.prog 22 := ⟨_, Try.func22, rfl, rfl⟩
theorem F_go12 : goFn Try.prog 12 := ⟨_, Try.func12, rfl, rfl⟩
theorem F_go11 : goFn Try.prog 11 := ⟨_, Try.func11, rfl, rfl⟩
theorem F_go23 : goFn Try.prog 23 := ⟨_, Try.func23, rfl, rfl⟩
theorem F_field51_1 : fieldT Try.prog 51 1 = some (2, 3) := by kernel_rfl
theorem F_field51_2 : fieldT Try.prog 51 2 = some (3, 3) := by kernel_rfl
theorem F_go10 : goFn Try.prog 10 := ⟨_, Try.func10, rfl, rfl⟩
theorem addF (b : BookV) (g : List PosV) (ht : b.trades.length ≤ 200000) (hp : b.poss.length ≤ 200000) (hg : g.length ≤ 200000) : ACalls Try.prog 25 [.agg (bookC b), poss g] [] (.tp [.d (.agg (bookC (addV b g))), .d (iv (addE b g))]) := by
  obtain ⟨nx, ts, ps⟩ := b
  exact (add_ nx ts ps g ht hp hg).freezeT (by simp [frzOk, frzOkL])
theorem bOfF (b : BookV) (w n : Int) (hp : b.poss.length ≤ 1000000) : ACalls Try.prog 23 [.agg (bookC b), .agg [iv w, iv n]] [] (posA (ofP w n b.poss)) := by
  obtain ⟨nx, ts, ps⟩ := b
  exact bOf_ nx ts ps w n hp
theorem kKey_ (w n : Int) : ACalls Try.prog 48 [.agg [iv w, iv n], .agg [iv w, iv n]] [] (bv true) := by
  refine acalls_S (rs := [.tmp 4]) Try.func48 rfl rfl 17 [(0, .d (.agg [iv w, iv n])), (1, .d (.agg [iv w, iv n]))] rfl (by simp) rfl ?_
  refine awp_seq fun K0 hK0 => ?_
  refine awp_plain F_mixed [some 2, some 3, some 4] rfl ?_
  simp only [List.nil_append, List.cons_append, true_and, and_true, zz0, true_implies, Nat.reduceLT, Nat.reduceLeDiff, zzI, look_nil, Nat.reduceBEq, implies_true, zz35, newRow1, zz1, zzG, zzD, zz16, Option.some.injEq, exists_eq_left', exists_eq_left, Option.map_some, eq_self, reduceCtorEq, and_self, Nat.reduceAdd, Nat.zero_add, zzF, zzB, zzE, evS_assign, zz6, Nat.reduceEqDiff, ↓reduceIte]
  refine hK0 _ ?_; try clear hK0 K0
  refine awp_keepL [2, 3] ?_
  simp only [zz20, zzI, look_nil, Nat.reduceBEq]
  refine awp_seq fun K0 hK0 => ?_
  refine awp_plain F_mixed [some 5, some 6, some 7, some 8, some 9, some 10, some 11, some 12, some 13, some 14, some 15, some 16, some 4] rfl ?_
  simp only [List.nil_append, List.cons_append, true_and, and_true, zz0, true_implies, Nat.reduceLT, Nat.reduceLeDiff, zzI, look_nil, Nat.reduceBEq, implies_true, Nat.reduceSub, S_getD, zz5, and_imp, imp_and, imp_self, and_self, zz19, zz23, F_off44_0, zzB, Nat.zero_add, Nat.reduceAdd, F_ok3, F_ag3, F_sz3, zz8, zzD, zzF, zzE, zz16, Option.some.injEq, exists_eq_left', exists_eq_left, Option.map_some, eq_self, reduceCtorEq, zz21, gr_v, zz34, evS_move, F_off44_1, zz13, pickK_l, pickK_r, evS_assign, zz6, Nat.reduceEqDiff, ↓reduceIte]
  refine hK0 _ ?_; try clear hK0 K0
  refine awp_keepL [4] ?_
  simp only [zz20, zzI, look_nil, Nat.reduceBEq]
  refine awp_ret ?_
  simp only [zz6, Nat.reduceEqDiff, ↓reduceIte]
  refine done0 (by simp only [resCs, resC]; trivial) ?_ (by simp [flatA, flatAs, flatD]) (by simp [AV.ids, AV.idsL])
  simp only [List.map_cons, List.map_nil, resA, S_getD, Nat.reduceLT, Nat.reduceLeDiff, look_cons, Nat.reduceBEq, cond_true, cond_false, resAll]
  simp
theorem kPos_ (p : PosV) : ACalls Try.prog 22 [.agg (posC p), .agg (posC p)] [] (bv true) := by
  refine acalls_S (rs := [.tmp 4]) Try.func22 rfl rfl 24 [(0, .d (.agg (posC p))), (1, .d (.agg (posC p)))] rfl (by simp) rfl ?_
  refine awp_seq fun K0 hK0 => ?_
  refine awp_plain F_mixed [some 2, some 3, some 4] rfl ?_
  simp only [List.nil_append, List.cons_append, true_and, and_true, zz0, true_implies, Nat.reduceLT, Nat.reduceLeDiff, zzI, look_nil, Nat.reduceBEq, implies_true, zz35, newRow1, zz1, zzG, zzD, zz16, Option.some.injEq, exists_eq_left', exists_eq_left, Option.map_some, eq_self, reduceCtorEq, and_self, Nat.reduceAdd, Nat.zero_add, zzF, zzB, zzE, evS_assign, posC, zz6, Nat.reduceEqDiff, ↓reduceIte]
  refine hK0 _ ?_; try clear hK0 K0
  refine awp_keepL [2, 3] ?_
  simp only [zz20, zzI, look_nil, Nat.reduceBEq]
  refine awp_seq fun K0 hK0 => ?_
  refine awp_plain F_mixed [some 5, some 6, some 7, some 8, some 9, some 10, some 11, some 12, some 13, some 14, some 15, some 16, some 17, some 18, some 19, some 20, some 21, some 22, some 23, some 4] rfl ?_
  simp only [List.nil_append, List.cons_append, true_and, and_true, zz0, true_implies, Nat.reduceLT, Nat.reduceLeDiff, zzI, look_nil, Nat.reduceBEq, implies_true, Nat.reduceSub, S_getD, zz5, and_imp, imp_and, imp_self, and_self, zz19, zz23, F_off51_0, zzB, Nat.zero_add, Nat.reduceAdd, F_ok44, F_ag44, F_sz44, zz8, zzD, zzF, zzE, zz16, Option.some.injEq, exists_eq_left', exists_eq_left, Option.map_some, eq_self, reduceCtorEq, evS_call, evC_value, evS_move, F_off51_1, F_ok3, F_ag3, F_sz3, zz21, gr_v, zz34, zz13, pickK_l, pickK_r, F_off51_2, evS_assign, D.agg.injEq, zz6, Nat.reduceEqDiff, ↓reduceIte]
  refine call_go F_go48 (fun hG => kKey_ p.who p.inst) (by simp [AV.ids, AV.idsL]) (by simp) ?_
  simp only [List.nil_append, List.cons_append, true_and, and_true, zz0, true_implies, Nat.reduceLT, Nat.reduceLeDiff, zzI, look_nil, Nat.reduceBEq, implies_true, Nat.reduceSub, S_getD, zz5, and_imp, imp_and, imp_self, and_self, zz19, zz23, F_off51_0, zzB, Nat.zero_add, Nat.reduceAdd, F_ok44, F_ag44, F_sz44, zz8, zzD, zzF, zzE, zz16, Option.some.injEq, exists_eq_left', exists_eq_left, Option.map_some, eq_self, reduceCtorEq, evS_call, evC_value, evS_move, F_off51_1, F_ok3, F_ag3, F_sz3, zz21, gr_v, zz34, zz13, pickK_l, pickK_r, F_off51_2, evS_assign, D.agg.injEq, zz6, Nat.reduceEqDiff, ↓reduceIte, atsL, oksG, freeN, AV.ren, AV.renL, addRows, ORow.row, Nat.reduceMul, Nat.reduceAdd, zz9, Option.bind_some, Option.map_some, forall_eq', D.sl.injEq, S_mem, Option.some.injEq, exists_eq_left', exists_eq_left, exists_eq', exists_eq, List.length_cons, zz2]
  refine hK0 _ ?_; try clear hK0 K0
  refine awp_keepL [4] ?_
  simp only [zz20, zzI, look_nil, Nat.reduceBEq]
  refine awp_ret ?_
  simp only [zz6, Nat.reduceEqDiff, ↓reduceIte]
  refine done0 (by simp only [resCs, resC]; trivial) ?_ (by simp [flatA, flatAs, flatD]) (by simp [AV.ids, AV.idsL])
  simp only [List.map_cons, List.map_nil, resA, S_getD, Nat.reduceLT, Nat.reduceLeDiff, look_cons, Nat.reduceBEq, cond_true, cond_false, resAll]
  simp
theorem kPoss_ (l : List PosV) (hl : l.length ≤ 1000000) : ACalls Try.prog 10 [poss l, poss l] [] (bv true) := by
  refine acalls_S (rs := [.tmp 4]) Try.func10 rfl rfl 27 [(0, .d (poss l)), (1, .d (poss l))] rfl (by simp) rfl ?_
  refine awp_seq fun K0 hK0 => ?_
  refine awp_plain F_mixed [some 4] rfl ?_
  simp only [List.nil_append, List.cons_append, true_and, and_true, zz0, true_implies, Nat.reduceLT, Nat.reduceLeDiff, zzI, look_nil, Nat.reduceBEq, implies_true, evS_assign, zz6, Nat.reduceEqDiff, ↓reduceIte]
  refine hK0 _ ?_; try clear hK0 K0
  refine awp_keepL [0, 1] ?_
  simp only [zz20, zzI, look_nil, Nat.reduceBEq]
  refine awp_seq fun K0 hK0 => ?_
  refine awp_seq fun K1 hK1 => ?_
  refine awp_plain F_mixed [some 6, some 7, some 8, some 9, some 10] rfl ?_
  simp only [List.nil_append, List.cons_append, true_and, and_true, zz0, true_implies, Nat.reduceLT, Nat.reduceLeDiff, zzI, look_nil, Nat.reduceBEq, implies_true, evS_move, evS_call, zz12, F_sl23, Option.isSome_some, zz21, gr_v, zz28, poss, len_map, zz6, Nat.reduceEqDiff, ↓reduceIte]
  refine hK1 _ ?_; try clear hK1 K1
  refine awp_keepL [0, 1, 10] ?_
  simp only [zz20, zzI, look_nil, Nat.reduceBEq]
  refine awp_condS _ (by decide) (by simp only [look_cons, Nat.reduceBEq, cond_true, cond_false]; rfl) ?_ ?_
  · intro hb
    simp at hb
  · intro hb
    clear hb
    refine awp_skip ?_
    simp only [zz6, Nat.reduceEqDiff, ↓reduceIte]
    refine hK0 _ ?_; try clear hK0 K0
    refine awp_keepL [0, 1] ?_
    simp only [zz20, zzI, look_nil, Nat.reduceBEq]
    refine awp_seq fun K0 hK0 => ?_
    refine awp_seq fun K1 hK1 => ?_
    refine awp_plain F_mixed [some 5] rfl ?_
    simp only [List.nil_append, List.cons_append, true_and, and_true, zz0, true_implies, Nat.reduceLT, Nat.reduceLeDiff, zzI, look_nil, Nat.reduceBEq, implies_true, evS_assign, zz6, Nat.reduceEqDiff, ↓reduceIte]
    refine hK1 _ ?_; try clear hK1 K1
    refine awp_keepL [0, 1, 5] ?_
    simp only [zz20, zzI, look_nil, Nat.reduceBEq]
    refine awp_block ?_
    refine awp_loop (fun m s => ∃ pre post : List PosV, l = pre ++ post ∧ m = post.length ∧ s = S 27 [(0, .d (poss l)), (1, .d (poss l)), (5, .d (iv pre.length))] []) l.length _ (le_SK id [] rfl (l' := [(0, .d (poss l)), (1, .d (poss l)), (5, .d (iv ([] : List PosV).length))]) (m' := []) ?_ ?_ ?_ ?_) ⟨[], l, rfl, rfl, rfl⟩ ?_
    · simp only [leV, look_cons, Nat.reduceBEq, cond_true, cond_false, poss, len_map]; exact ⟨VLe.refl _, VLe.refl _, VLe.refl _, trivial⟩
    · exact trivial
    · simp [wfV, AV.ids, AV.idsL, lookR]
    · simp [wfR, AV.idsL, AV.ids]
    rintro m s ⟨pre, post, rfl, rfl, rfl⟩
    refine awp_seq fun K2 hK2 => ?_
    refine awp_seq fun K3 hK3 => ?_
    refine awp_plain F_mixed [some 11, some 12, some 13, some 14] rfl ?_
    simp only [List.nil_append, List.cons_append, true_and, and_true, zz0, true_implies, Nat.reduceLT, Nat.reduceLeDiff, zzI, look_nil, Nat.reduceBEq, implies_true, evS_move, evS_call, zz12, F_sl23, Option.isSome_some, zz21, gr_v, zz22, poss, len_map, zz6, Nat.reduceEqDiff, ↓reduceIte]
    refine hK3 _ ?_; try clear hK3 K3
    refine awp_keepL [0, 1, 5, 14] ?_
    simp only [zz20, zzI, look_nil, Nat.reduceBEq]
    refine awp_condS _ (by decide) (by simp only [look_cons, Nat.reduceBEq, cond_true, cond_false]; rfl) ?_ ?_
    · intro hb
      obtain ⟨x, post, rfl⟩ := more_of hb; clear hb
      refine awp_skip ?_
      simp only [zz6, Nat.reduceEqDiff, ↓reduceIte]
      refine hK2 _ ?_; try clear hK2 K2
      refine awp_keepL [0, 1, 5] ?_
      simp only [zz20, zzI, look_nil, Nat.reduceBEq]
      refine awp_seq fun K2 hK2 => ?_
      refine awp_block ?_
      refine awp_seq fun K3 hK3 => ?_
      refine awp_draw F_mixed [some 17, some 18, some 19, some 20, some 21, some 22, some 23, some 24, some 25, some 26] rfl (by kernel_rfl) ?_
      simp only [List.nil_append, List.cons_append, true_and, and_true, zz0, true_implies, Nat.reduceLT, Nat.reduceLeDiff, zzI, look_nil, Nat.reduceBEq, implies_true, evS_move, evS_indexAddr, zz23, zz24, F_sl23, F_sz51, Option.map_some, zz16, Option.some.injEq, exists_eq_left', exists_eq_left, eq_self, reduceCtorEq, and_self, F_ok51, F_ag51, zz8, zzD, Nat.reduceAdd, Nat.zero_add, zzF, zzB, zzE, evS_call, evC_value, zz29, gr_v, zz30, poss, posC, getD_mid, len_map, lt_mid, ge_mid, D.agg.injEq, zz6, Nat.reduceEqDiff, ↓reduceIte]
      refine call_go F_go22 (fun hG => kPos_ x) (by simp [AV.ids, AV.idsL]) (by simp) ?_
      simp only [List.nil_append, List.cons_append, true_and, and_true, zz0, true_implies, Nat.reduceLT, Nat.reduceLeDiff, zzI, look_nil, Nat.reduceBEq, implies_true, evS_move, evS_indexAddr, zz23, zz24, F_sl23, F_sz51, Option.map_some, zz16, Option.some.injEq, exists_eq_left', exists_eq_left, eq_self, reduceCtorEq, and_self, F_ok51, F_ag51, zz8, zzD, Nat.reduceAdd, Nat.zero_add, zzF, zzB, zzE, evS_call, evC_value, zz29, gr_v, zz30, poss, posC, getD_mid, len_map, lt_mid, ge_mid, D.agg.injEq, zz6, Nat.reduceEqDiff, ↓reduceIte, atsL, oksG, freeN, AV.ren, AV.renL, addRows, ORow.row, Nat.reduceMul, Nat.reduceAdd, zz9, Option.bind_some, Option.map_some, forall_eq', D.sl.injEq, S_mem, Option.some.injEq, exists_eq_left', exists_eq_left, exists_eq', exists_eq, List.length_cons, zz2]
      refine hK3 _ ?_; try clear hK3 K3
      refine awp_keepL [0, 1, 5, 26] ?_
      simp only [zz20, zzI, look_nil, Nat.reduceBEq]
      refine awp_condS _ (by decide) (by simp only [look_cons, Nat.reduceBEq, cond_true, cond_false]; rfl) ?_ ?_
      · intro hb
        simp at hb
      · intro hb
        clear hb
        refine awp_skip ?_
        simp only [zz6, Nat.reduceEqDiff, ↓reduceIte]
        refine hK2 _ ?_; try clear hK2 K2
        refine awp_keepL [0, 1, 5] ?_
        simp only [zz20, zzI, look_nil, Nat.reduceBEq]
        refine awp_plain F_mixed [some 15, some 16, some 5] rfl ?_
        simp only [List.nil_append, List.cons_append, true_and, and_true, zz0, true_implies, Nat.reduceLT, Nat.reduceLeDiff, zzI, look_nil, Nat.reduceBEq, implies_true, evS_move, zz21, gr_v, zz26, evS_assign, zz6, Nat.reduceEqDiff, ↓reduceIte]
        refine ⟨post.length, _, by simp, le_SK id [] rfl (l' := [(0, .d (poss (pre ++ x :: post))), (1, .d (poss (pre ++ x :: post))), (5, .d (iv (pre ++ [x]).length))]) (m' := []) ?_ ?_ ?_ ?_, pre ++ [x], post, by simp, rfl, rfl⟩
        · simp only [leV, look_cons, Nat.reduceBEq, cond_true, cond_false, poss, len_map, wrap_len pre x (by simp at hl; omega)]; exact ⟨VLe.refl _, VLe.refl _, VLe.refl _, trivial⟩
        · exact trivial
        · simp [wfV, AV.ids, AV.idsL, lookR]
        · simp [wfR, AV.idsL, AV.ids]
    · intro hb
      clear hb
      refine awp_exit ?_
      simp only [zz6, Nat.reduceEqDiff, ↓reduceIte]
      refine hK0 _ ?_; try clear hK0 K0
      refine awp_keepL [] ?_
      simp only [zz20, zzI, look_nil, Nat.reduceBEq]
      refine awp_seq fun K0 hK0 => ?_
      refine awp_plain F_mixed [some 4] rfl ?_
      simp only [List.nil_append, List.cons_append, true_and, and_true, zz0, true_implies, Nat.reduceLT, Nat.reduceLeDiff, zzI, look_nil, Nat.reduceBEq, implies_true, evS_assign, zz6, Nat.reduceEqDiff, ↓reduceIte]
      refine hK0 _ ?_; try clear hK0 K0
      refine awp_keepL [4] ?_
      simp only [zz20, zzI, look_nil, Nat.reduceBEq]
      refine awp_ret ?_
      simp only [zz6, Nat.reduceEqDiff, ↓reduceIte]
      refine done0 (by simp only [resCs, resC]; trivial) ?_ (by simp [flatA, flatAs, flatD]) (by simp [AV.ids, AV.idsL])
      simp only [List.map_cons, List.map_nil, resA, S_getD, Nat.reduceLT, Nat.reduceLeDiff, look_cons, Nat.reduceBEq, cond_true, cond_false, resAll]
      
theorem kKeyG_ (a b c d : Int) : ACalls Try.prog 48 [.agg [iv a, iv b], .agg [iv c, iv d]] [] (bv (a == c && b == d)) := by
  refine acalls_S (rs := [.tmp 4]) Try.func48 rfl rfl 17 [(0, .d (.agg [iv a, iv b])), (1, .d (.agg [iv c, iv d]))] rfl (by simp) rfl ?_
  refine awp_seq fun K0 hK0 => ?_
  refine awp_plain F_mixed [some 2, some 3, some 4] rfl ?_
  simp only [List.nil_append, List.cons_append, true_and, and_true, zz0, true_implies, Nat.reduceLT, Nat.reduceLeDiff, zzI, look_nil, Nat.reduceBEq, implies_true, zz35, newRow1, zz1, zzG, zzD, zz16, Option.some.injEq, exists_eq_left', exists_eq_left, Option.map_some, eq_self, reduceCtorEq, and_self, Nat.reduceAdd, Nat.zero_add, zzF, zzB, zzE, evS_assign, zz6, Nat.reduceEqDiff, ↓reduceIte]
  refine hK0 _ ?_; try clear hK0 K0
  refine awp_keepL [2, 3] ?_
  simp only [zz20, zzI, look_nil, Nat.reduceBEq]
  refine awp_seq fun K0 hK0 => ?_
  refine awp_plain F_mixed [some 5, some 6, some 7, some 8, some 9, some 10, some 11, some 12, some 13, some 14, some 15, some 16, some 4] rfl ?_
  simp only [List.nil_append, List.cons_append, true_and, and_true, zz0, true_implies, Nat.reduceLT, Nat.reduceLeDiff, zzI, look_nil, Nat.reduceBEq, implies_true, Nat.reduceSub, S_getD, zz5, and_imp, imp_and, imp_self, and_self, zz19, zz23, F_off44_0, zzB, Nat.zero_add, Nat.reduceAdd, F_ok3, F_ag3, F_sz3, zz8, zzD, zzF, zzE, zz16, Option.some.injEq, exists_eq_left', exists_eq_left, Option.map_some, eq_self, reduceCtorEq, zz21, gr_v, zz34, evS_move, F_off44_1, zz13, pickK_l, pickK_r, evS_assign, zz6, Nat.reduceEqDiff, ↓reduceIte]
  refine hK0 _ ?_; try clear hK0 K0
  refine awp_keepL [4] ?_
  simp only [zz20, zzI, look_nil, Nat.reduceBEq]
  refine awp_ret ?_
  simp only [zz6, Nat.reduceEqDiff, ↓reduceIte]
  refine done0 (by simp only [resCs, resC]; trivial) ?_ (by simp [flatA, flatAs, flatD]) (by simp [AV.ids, AV.idsL])
  simp only [List.map_cons, List.map_nil, resA, S_getD, Nat.reduceLT, Nat.reduceLeDiff, look_cons, Nat.reduceBEq, cond_true, cond_false, resAll]
  try rfl
theorem kPosG_ (p q : PosV) : ACalls Try.prog 22 [.agg (posC p), .agg (posC q)] [] (bv (posEq p q)) := by
  refine acalls_S (rs := [.tmp 4]) Try.func22 rfl rfl 24 [(0, .d (.agg (posC p))), (1, .d (.agg (posC q)))] rfl (by simp) rfl ?_
  refine awp_seq fun K0 hK0 => ?_
  refine awp_plain F_mixed [some 2, some 3, some 4] rfl ?_
  simp only [List.nil_append, List.cons_append, true_and, and_true, zz0, true_implies, Nat.reduceLT, Nat.reduceLeDiff, zzI, look_nil, Nat.reduceBEq, implies_true, zz35, newRow1, zz1, zzG, zzD, zz16, Option.some.injEq, exists_eq_left', exists_eq_left, Option.map_some, eq_self, reduceCtorEq, and_self, Nat.reduceAdd, Nat.zero_add, zzF, zzB, zzE, evS_assign, posC, zz6, Nat.reduceEqDiff, ↓reduceIte]
  refine hK0 _ ?_; try clear hK0 K0
  refine awp_keepL [2, 3] ?_
  simp only [zz20, zzI, look_nil, Nat.reduceBEq]
  refine awp_seq fun K0 hK0 => ?_
  refine awp_plain F_mixed [some 5, some 6, some 7, some 8, some 9, some 10, some 11, some 12, some 13, some 14, some 15, some 16, some 17, some 18, some 19, some 20, some 21, some 22, some 23, some 4] rfl ?_
  simp only [List.nil_append, List.cons_append, true_and, and_true, zz0, true_implies, Nat.reduceLT, Nat.reduceLeDiff, zzI, look_nil, Nat.reduceBEq, implies_true, Nat.reduceSub, S_getD, zz5, and_imp, imp_and, imp_self, and_self, zz19, zz23, F_off51_0, zzB, Nat.zero_add, Nat.reduceAdd, F_ok44, F_ag44, F_sz44, zz8, zzD, zzF, zzE, zz16, Option.some.injEq, exists_eq_left', exists_eq_left, Option.map_some, eq_self, reduceCtorEq, evS_call, evC_value, evS_move, F_off51_1, F_ok3, F_ag3, F_sz3, zz21, gr_v, zz34, zz13, pickK_l, pickK_r, F_off51_2, evS_assign, D.agg.injEq, zz6, Nat.reduceEqDiff, ↓reduceIte]
  refine call_go F_go48 (fun hG => kKeyG_ p.who p.inst q.who q.inst) (by simp [AV.ids, AV.idsL]) (by simp) ?_
  simp only [List.nil_append, List.cons_append, true_and, and_true, zz0, true_implies, Nat.reduceLT, Nat.reduceLeDiff, zzI, look_nil, Nat.reduceBEq, implies_true, Nat.reduceSub, S_getD, zz5, and_imp, imp_and, imp_self, and_self, zz19, zz23, F_off51_0, zzB, Nat.zero_add, Nat.reduceAdd, F_ok44, F_ag44, F_sz44, zz8, zzD, zzF, zzE, zz16, Option.some.injEq, exists_eq_left', exists_eq_left, Option.map_some, eq_self, reduceCtorEq, evS_call, evC_value, evS_move, F_off51_1, F_ok3, F_ag3, F_sz3, zz21, gr_v, zz34, zz13, pickK_l, pickK_r, F_off51_2, evS_assign, D.agg.injEq, zz6, Nat.reduceEqDiff, ↓reduceIte, atsL, oksG, freeN, AV.ren, AV.renL, addRows, ORow.row, Nat.reduceMul, Nat.reduceAdd, zz9, Option.bind_some, Option.map_some, forall_eq', D.sl.injEq, S_mem, Option.some.injEq, exists_eq_left', exists_eq_left, exists_eq', exists_eq, List.length_cons, zz2]
  refine hK0 _ ?_; try clear hK0 K0
  refine awp_keepL [4] ?_
  simp only [zz20, zzI, look_nil, Nat.reduceBEq]
  refine awp_ret ?_
  simp only [zz6, Nat.reduceEqDiff, ↓reduceIte]
  refine done0 (by simp only [resCs, resC]; trivial) ?_ (by simp [flatA, flatAs, flatD]) (by simp [AV.ids, AV.idsL])
  simp only [List.map_cons, List.map_nil, resA, S_getD, Nat.reduceLT, Nat.reduceLeDiff, look_cons, Nat.reduceBEq, cond_true, cond_false, resAll]
  try rfl
set_option maxRecDepth 100000 in
set_option maxHeartbeats 4000000 in
theorem bookParts_ (l l2 : List ActV) : ACalls Try.prog 7 [acts l, acts l2] [] (bv true) := by
  refine acalls_S (rs := [.tmp 4]) Try.func7 rfl rfl 147 [(0, .d (acts l)), (1, .d (acts l2))] rfl (by simp) rfl ?_
  refine awp_seq fun K0 hK0 => ?_
  refine awp_plain F_mixed [some 4] rfl ?_
  simp only [List.nil_append, List.cons_append, true_and, and_true, zz0, true_implies, Nat.reduceLT, Nat.reduceLeDiff, zzI, look_nil, Nat.reduceBEq, implies_true, evS_assign, zz6, Nat.reduceEqDiff, ↓reduceIte]
  refine hK0 _ ?_; try clear hK0 K0
  refine awp_keepL [0, 1] ?_
  simp only [zz20, zzI, look_nil, Nat.reduceBEq]
  refine awp_seq fun K0 hK0 => ?_
  refine awp_seq fun K1 hK1 => ?_
  refine awp_plain F_mixed [some 15, some 16, some 17, some 18, some 19, some 20, some 21, some 22] rfl ?_
  simp only [List.nil_append, List.cons_append, true_and, and_true, zz0, true_implies, Nat.reduceLT, Nat.reduceLeDiff, zzI, look_nil, Nat.reduceBEq, implies_true, Nat.reduceSub, S_getD, zz5, and_imp, imp_and, imp_self, and_self, evS_move, evS_call, zz12, F_sl34, Option.isSome_some, zz21, gr_v, zz25, zz13, pickK_l, pickK_r, acts, len_map, zz6, Nat.reduceEqDiff, ↓reduceIte]
  refine hK1 _ ?_; try clear hK1 K1
  refine awp_keepL [0, 1, 22] ?_
  simp only [zz20, zzI, look_nil, Nat.reduceBEq]
  refine awp_condS _ (by decide) (by simp only [look_cons, Nat.reduceBEq, cond_true, cond_false]; rfl) ?_ ?_
  · intro hb
    clear hb
    refine awp_seq fun K2 hK2 => ?_
    refine awp_plain F_mixed [some 4] rfl ?_
    simp only [List.nil_append, List.cons_append, true_and, and_true, zz0, true_implies, Nat.reduceLT, Nat.reduceLeDiff, zzI, look_nil, Nat.reduceBEq, implies_true, evS_assign, zz6, Nat.reduceEqDiff, ↓reduceIte]
    refine hK2 _ ?_; try clear hK2 K2
    refine awp_keepL [4] ?_
    simp only [zz20, zzI, look_nil, Nat.reduceBEq]
    refine awp_ret ?_
    simp only [zz6, Nat.reduceEqDiff, ↓reduceIte]
    refine done0 (by simp only [resCs, resC]; trivial) ?_ (by simp [flatA, flatAs, flatD]) (by simp [AV.ids, AV.idsL])
    simp only [List.map_cons, List.map_nil, resA, S_getD, Nat.reduceLT, Nat.reduceLeDiff, look_cons, Nat.reduceBEq, cond_true, cond_false, resAll]
    
  · intro hb
    clear hb
    have hIb := inv_grown l
    have hIc := inv_grown l2
    have hbl := grow_len hIb.good
    have hcl := grow_len hIc.good
    refine awp_skip ?_
    simp only [zz6, Nat.reduceEqDiff, ↓reduceIte]
    refine hK0 _ ?_; try clear hK0 K0
    refine awp_keepL [0, 1] ?_
    simp only [zz20, zzI, look_nil, Nat.reduceBEq]
    refine awp_seq fun K0 hK0 => ?_
    refine awp_plain F_mixed [some 23, some 24, some 25, some 26, some 5, some 6, none, none] rfl ?_
    simp only [List.nil_append, List.cons_append, true_and, and_true, zz0, true_implies, Nat.reduceLT, Nat.reduceLeDiff, zzI, look_nil, Nat.reduceBEq, implies_true, evS_move, evS_call, evC_value, zz32, newRow1, F_zero25, zz16, Option.some.injEq, exists_eq_left', exists_eq_left, Option.map_some, eq_self, reduceCtorEq, and_self, zzD, Nat.reduceAdd, Nat.zero_add, zzF, zzB, zzE, zz10, zz18, F_ok25, F_sz25, splice, List.append_nil, zz1, zzG, acts, bookC, tradesB, poss, tradeC, D.agg.injEq, zz6, Nat.reduceEqDiff, ↓reduceIte]
    refine call_go F_go12 (fun hG => grownBF l) (by simp [AV.ids, AV.idsL]) (by simp) ?_
    simp only [List.nil_append, List.cons_append, true_and, and_true, zz0, true_implies, Nat.reduceLT, Nat.reduceLeDiff, zzI, look_nil, Nat.reduceBEq, implies_true, evS_move, evS_call, evC_value, zz32, newRow1, F_zero25, zz16, Option.some.injEq, exists_eq_left', exists_eq_left, Option.map_some, eq_self, reduceCtorEq, and_self, zzD, Nat.reduceAdd, Nat.zero_add, zzF, zzB, zzE, zz10, zz18, F_ok25, F_sz25, splice, List.append_nil, zz1, zzG, acts, bookC, tradesB, poss, tradeC, D.agg.injEq, zz6, Nat.reduceEqDiff, ↓reduceIte, atsL, oksG, freeN, AV.ren, AV.renL, addRows, ORow.row, Nat.reduceMul, Nat.reduceAdd, zz9, Option.bind_some, Option.map_some, forall_eq', D.sl.injEq, S_mem, Option.some.injEq, exists_eq_left', exists_eq_left, exists_eq', exists_eq, List.length_cons, zz2]
    refine call_go F_go12 (fun hG => grownBF l2) (by simp [AV.ids, AV.idsL]) (by simp) ?_
    simp only [List.nil_append, List.cons_append, true_and, and_true, zz0, true_implies, Nat.reduceLT, Nat.reduceLeDiff, zzI, look_nil, Nat.reduceBEq, implies_true, evS_move, evS_call, evC_value, zz32, newRow1, F_zero25, zz16, Option.some.injEq, exists_eq_left', exists_eq_left, Option.map_some, eq_self, reduceCtorEq, and_self, zzD, Nat.reduceAdd, Nat.zero_add, zzF, zzB, zzE, zz10, zz18, F_ok25, F_sz25, splice, List.append_nil, zz1, zzG, acts, bookC, tradesB, poss, tradeC, D.agg.injEq, zz6, Nat.reduceEqDiff, ↓reduceIte, atsL, oksG, freeN, AV.ren, AV.renL, addRows, ORow.row, Nat.reduceMul, Nat.reduceAdd, zz9, Option.bind_some, Option.map_some, forall_eq', D.sl.injEq, S_mem, Option.some.injEq, exists_eq_left', exists_eq_left, exists_eq', exists_eq, List.length_cons, zz2]
    refine hK0 _ ?_; try clear hK0 K0
    refine awp_keepL [5, 6] ?_
    simp only [zz20, zzI, look_nil, Nat.reduceBEq]
    refine awp_seq fun K0 hK0 => ?_
    refine awp_plain F_mixed [some 27, some 28, some 7] rfl ?_
    simp only [List.nil_append, List.cons_append, true_and, and_true, zz0, true_implies, Nat.reduceLT, Nat.reduceLeDiff, zzI, look_nil, Nat.reduceBEq, implies_true, zz19, zz23, F_off25_2, zzB, Nat.zero_add, Nat.reduceAdd, F_ok23, F_ag23, F_sz23, zz8, zzD, zzF, zzE, zz16, Option.some.injEq, exists_eq_left', exists_eq_left, Option.map_some, eq_self, reduceCtorEq, and_self, evS_assign, bookC, tradesB, poss, zz6, Nat.reduceEqDiff, ↓reduceIte]
    refine hK0 _ ?_; try clear hK0 K0
    refine awp_keepL [5, 6, 7] ?_
    simp only [zz20, zzI, look_nil, Nat.reduceBEq]
    refine awp_seq fun K0 hK0 => ?_
    refine awp_plain F_mixed [some 30, some 31, some 32, some 29, some 33, some 34, some 8, none, some 9] rfl ?_
    simp only [List.nil_append, List.cons_append, true_and, and_true, zz0, true_implies, Nat.reduceLT, Nat.reduceLeDiff, zzI, look_nil, Nat.reduceBEq, implies_true, F_ok25, F_ag25, F_sz25, zz8, zz23, zzD, Nat.reduceAdd, Nat.zero_add, zzF, zzB, zzE, zz16, Option.some.injEq, exists_eq_left', exists_eq_left, Option.map_some, eq_self, reduceCtorEq, and_self, evS_move, evS_call, evC_value, zz14, zz32, newRow1, F_zero25, zz10, zz18, splice, List.append_nil, zz1, zzG, evS_assign, bookC, tradesB, poss, zz6, Nat.reduceEqDiff, ↓reduceIte]
    refine call_go F_go25 (fun hG => addF (grownB l) (grownB l2).poss (by omega) (by omega) (by omega)) (by simp [AV.ids, AV.idsL]) (by simp) ?_
    simp only [List.nil_append, List.cons_append, true_and, and_true, zz0, true_implies, Nat.reduceLT, Nat.reduceLeDiff, zzI, look_nil, Nat.reduceBEq, implies_true, F_ok25, F_ag25, F_sz25, zz8, zz23, zzD, Nat.reduceAdd, Nat.zero_add, zzF, zzB, zzE, zz16, Option.some.injEq, exists_eq_left', exists_eq_left, Option.map_some, eq_self, reduceCtorEq, and_self, evS_move, evS_call, evC_value, zz14, zz32, newRow1, F_zero25, zz10, zz18, splice, List.append_nil, zz1, zzG, evS_assign, bookC, tradesB, poss, zz6, Nat.reduceEqDiff, ↓reduceIte, atsL, oksG, freeN, AV.ren, AV.renL, addRows, ORow.row, Nat.reduceMul, Nat.reduceAdd, zz9, Option.bind_some, Option.map_some, forall_eq', D.sl.injEq, S_mem, Option.some.injEq, exists_eq_left', exists_eq_left, exists_eq', exists_eq, List.length_cons, zz2]
    refine hK0 _ ?_; try clear hK0 K0
    refine awp_keepL [5, 6, 7, 8, 9] ?_
    simp only [zz20, zzI, look_nil, Nat.reduceBEq]
    refine awp_seq fun K0 hK0 => ?_
    refine awp_seq fun K1 hK1 => ?_
    refine awp_plain F_mixed [some 35, some 36] rfl ?_
    simp only [List.nil_append, List.cons_append, true_and, and_true, zz0, true_implies, Nat.reduceLT, Nat.reduceLeDiff, zzI, look_nil, Nat.reduceBEq, implies_true, evS_move, zz21, gr_v, zz28, bookC, tradesB, poss, tradeC, D.agg.injEq, zz6, Nat.reduceEqDiff, ↓reduceIte]
    refine hK1 _ ?_; try clear hK1 K1
    refine awp_keepL [5, 6, 7, 8, 36] ?_
    simp only [zz20, zzI, look_nil, Nat.reduceBEq]
    refine awp_condS _ (by decide) (by simp only [look_cons, Nat.reduceBEq, cond_true, cond_false]; rfl) ?_ ?_
    · intro hb
      clear hb
      refine awp_seq fun K2 hK2 => ?_
      refine awp_plain F_mixed [some 37, some 4] rfl ?_
      simp only [List.nil_append, List.cons_append, true_and, and_true, zz0, true_implies, Nat.reduceLT, Nat.reduceLeDiff, zzI, look_nil, Nat.reduceBEq, implies_true, evS_call, evC_value, evS_assign, zz6, Nat.reduceEqDiff, ↓reduceIte]
      refine call_go F_go11 (fun hG => wakes13_) (by simp [AV.ids, AV.idsL]) (by simp) ?_
      simp only [List.nil_append, List.cons_append, true_and, and_true, zz0, true_implies, Nat.reduceLT, Nat.reduceLeDiff, zzI, look_nil, Nat.reduceBEq, implies_true, evS_call, evC_value, evS_assign, zz6, Nat.reduceEqDiff, ↓reduceIte, atsL, oksG, freeN, AV.ren, AV.renL, addRows, ORow.row, Nat.reduceMul, Nat.reduceAdd, zz9, Option.bind_some, Option.map_some, forall_eq', D.sl.injEq, zz16, Option.some.injEq, exists_eq_left', exists_eq_left, exists_eq', exists_eq, zzD, zz2]
      refine hK2 _ ?_; try clear hK2 K2
      refine awp_keepL [4] ?_
      simp only [zz20, zzI, look_nil, Nat.reduceBEq]
      refine awp_ret ?_
      simp only [zz6, Nat.reduceEqDiff, ↓reduceIte]
      refine done0 (by simp only [resCs, resC]; trivial) ?_ (by simp [flatA, flatAs, flatD]) (by simp [AV.ids, AV.idsL])
      simp only [List.map_cons, List.map_nil, resA, S_getD, Nat.reduceLT, Nat.reduceLeDiff, look_cons, Nat.reduceBEq, cond_true, cond_false, resAll]
      
    · intro hb
      have he : addE (grownB l) (grownB l2).poss = 0 := by simpa using hb
      clear hb
      obtain ⟨f1, f2, f3, f4⟩ := parts_law hIb hIc he
      have hxl := grow_len (add_good he)
      refine awp_skip ?_
      simp only [zz6, Nat.reduceEqDiff, ↓reduceIte]
      refine hK0 _ ?_; try clear hK0 K0
      refine awp_keepL [5, 6, 7, 8] ?_
      simp only [zz20, zzI, look_nil, Nat.reduceBEq]
      refine awp_seq fun K0 hK0 => ?_
      refine awp_seq fun K1 hK1 => ?_
      refine awp_plain F_mixed [some 10] rfl ?_
      simp only [List.nil_append, List.cons_append, true_and, and_true, zz0, true_implies, Nat.reduceLT, Nat.reduceLeDiff, zzI, look_nil, Nat.reduceBEq, implies_true, evS_assign, zz6, Nat.reduceEqDiff, ↓reduceIte]
      refine hK1 _ ?_; try clear hK1 K1
      refine awp_keepL [5, 6, 7, 8, 10] ?_
      simp only [zz20, zzI, look_nil, Nat.reduceBEq]
      refine awp_block ?_
      refine awp_loop (fun m s => ∃ (pre : List PosV) (post : List PosV), ((grownB l2).poss = pre ++ post) ∧ m = post.length ∧ s = S 147 [(5, .ptr 5 0 0), (6, .ptr 6 0 0), (7, .d (poss (grownB l2).poss)), (8, .ptr 8 0 0), (10, .d (iv pre.length))] [(5, (⟨True, 25, 3, true, false, 5, [[.d (iv (grownB l).next), .d (.sl 7 ((grownB l).trades.map tradeC)), .d (.sl 4 ((grownB l).poss.map posC))]]⟩ : ARow)), (6, (⟨True, 25, 3, true, false, 6, [[.d (iv (grownB l2).next), .d (.sl 7 ((grownB l2).trades.map tradeC)), .d (.sl 4 ((grownB l2).poss.map posC))]]⟩ : ARow)), (8, (⟨True, 25, 3, true, false, 8, [[.d (iv (addV (grownB l) (grownB l2).poss).next), .d (.sl 7 ((addV (grownB l) (grownB l2).poss).trades.map tradeC)), .d (.sl 4 ((addV (grownB l) (grownB l2).poss).poss.map posC))]]⟩ : ARow))]) ((grownB l2).poss.length) _ (le_SK id [] rfl (l' := [(5, .ptr 5 0 0), (6, .ptr 6 0 0), (7, .d (poss (grownB l2).poss)), (8, .ptr 8 0 0), (10, .d (iv [].length))]) (m' := [(5, (⟨True, 25, 3, true, false, 5, [[.d (iv (grownB l).next), .d (.sl 7 ((grownB l).trades.map tradeC)), .d (.sl 4 ((grownB l).poss.map posC))]]⟩ : ARow)), (6, (⟨True, 25, 3, true, false, 6, [[.d (iv (grownB l2).next), .d (.sl 7 ((grownB l2).trades.map tradeC)), .d (.sl 4 ((grownB l2).poss.map posC))]]⟩ : ARow)), (8, (⟨True, 25, 3, true, false, 8, [[.d (iv (addV (grownB l) (grownB l2).poss).next), .d (.sl 7 ((addV (grownB l) (grownB l2).poss).trades.map tradeC)), .d (.sl 4 ((addV (grownB l) (grownB l2).poss).poss.map posC))]]⟩ : ARow))]) ?_ ?_ ?_ ?_) ⟨[], (grownB l2).poss, rfl, rfl, rfl⟩ ?_
      · simp only [leV, look_cons, Nat.reduceBEq, cond_true, cond_false]; exact ⟨(by first | exact VLe.still rfl | exact VLe.nil_ (by decide) | exact VLe.nild_ | exact VLe.refl _ | exact VLe.ptrE (by simp) (by rfl) | exact VLe.refE (by simp) (by rfl) (by first | rfl | (simp; done) | (simp; omega)) | exact VLe.dE (by first | rfl | simp)), (by first | exact VLe.still rfl | exact VLe.nil_ (by decide) | exact VLe.nild_ | exact VLe.refl _ | exact VLe.ptrE (by simp) (by rfl) | exact VLe.refE (by simp) (by rfl) (by first | rfl | (simp; done) | (simp; omega)) | exact VLe.dE (by first | rfl | simp)), (by first | exact VLe.still rfl | exact VLe.nil_ (by decide) | exact VLe.nild_ | exact VLe.refl _ | exact VLe.ptrE (by simp) (by rfl) | exact VLe.refE (by simp) (by rfl) (by first | rfl | (simp; done) | (simp; omega)) | exact VLe.dE (by first | rfl | simp)), (by first | exact VLe.still rfl | exact VLe.nil_ (by decide) | exact VLe.nild_ | exact VLe.refl _ | exact VLe.ptrE (by simp) (by rfl) | exact VLe.refE (by simp) (by rfl) (by first | rfl | (simp; done) | (simp; omega)) | exact VLe.dE (by first | rfl | simp)), (by first | exact VLe.still rfl | exact VLe.nil_ (by decide) | exact VLe.nild_ | exact VLe.refl _ | exact VLe.ptrE (by simp) (by rfl) | exact VLe.refE (by simp) (by rfl) (by first | rfl | (simp; done) | (simp; omega)) | exact VLe.dE (by first | rfl | simp)), trivial⟩
      · exact ⟨fun _ => ⟨_, rfl, (by first | exact RowLe.data_ (by first | rfl | simp) | exact RowLe.uq2 (by first | rfl | simp) (by simp) ids_data | exact RowLe.still (by simp [AV.idsL, AV.ids]) | exact RowLe.same (by simp) (by simp [AV.idsL, AV.ids]))⟩, fun h => by simp at h, fun _ => ⟨_, rfl, (by first | exact RowLe.data_ (by first | rfl | simp) | exact RowLe.uq2 (by first | rfl | simp) (by simp) ids_data | exact RowLe.still (by simp [AV.idsL, AV.ids]) | exact RowLe.same (by simp) (by simp [AV.idsL, AV.ids]))⟩, fun h => by simp at h, fun _ => ⟨_, rfl, (by first | exact RowLe.data_ (by first | rfl | simp) | exact RowLe.uq2 (by first | rfl | simp) (by simp) ids_data | exact RowLe.still (by simp [AV.idsL, AV.ids]) | exact RowLe.same (by simp) (by simp [AV.idsL, AV.ids]))⟩, fun h => by simp at h, trivial⟩
      · simp [wfV, AV.ids, AV.idsL, lookR, grow]
      · exact ⟨by simp [AV.idsL, AV.ids, lookR], by simp [AV.idsL, AV.ids, lookR], by simp [AV.idsL, AV.ids, lookR], trivial⟩
      rintro m s ⟨pre, post, hsp, rfl, rfl⟩
      have hspl := congrArg List.length hsp
      simp only [List.length_append] at hspl
      refine awp_seq fun K2 hK2 => ?_
      refine awp_seq fun K3 hK3 => ?_
      refine awp_plain F_mixed [some 38, some 39, some 40, some 41] rfl ?_
      simp only [List.nil_append, List.cons_append, true_and, and_true, zz0, true_implies, Nat.reduceLT, Nat.reduceLeDiff, zzI, look_nil, Nat.reduceBEq, implies_true, evS_move, evS_call, zz12, F_sl23, Option.isSome_some, zz21, gr_v, zz22, poss, len_map, zz6, Nat.reduceEqDiff, ↓reduceIte]
      refine hK3 _ ?_; try clear hK3 K3
      refine awp_keepL [5, 6, 7, 8, 10, 41] ?_
      simp only [zz20, zzI, look_nil, Nat.reduceBEq]
      refine awp_condS _ (by decide) (by simp only [look_cons, Nat.reduceBEq, cond_true, cond_false]; rfl) ?_ ?_
      · intro hb
        obtain ⟨x, post2, rfl⟩ : ∃ x t, post = x :: t := by
          cases post with
          | nil => have := of_decide_eq_true hb; simp at hspl; omega
          | cons x t => exact ⟨x, t, rfl⟩
        clear hb
        simp only [List.length_cons] at hspl
        have gx : ((grownB l2).poss.map posC).getD pre.length [] = [iv x.who, iv x.inst, iv x.qty, iv x.cost] := by
          rw [hsp, List.map_append]; exact gd_mid' (A := pre.map posC) _ _ (by simp)
        have bx := ltI (show pre.length < (grownB l2).poss.length by omega)
        have hwx : IntKind.wrap .i64 ((pre.length : Int) + 1) = ((pre ++ [x]).length : Int) := by rw [wrapI (by omega) (by omega)]; simp
        obtain ⟨a1, a2, a3, a4⟩ := f1 x (by rw [hsp]; simp)
        refine awp_skip ?_
        simp only [zz6, Nat.reduceEqDiff, ↓reduceIte]
        refine hK2 _ ?_; try clear hK2 K2
        refine awp_keepL [5, 6, 7, 8, 10] ?_
        simp only [zz20, zzI, look_nil, Nat.reduceBEq]
        refine awp_seq fun K2 hK2 => ?_
        refine awp_block ?_
        refine awp_seq fun K3 hK3 => ?_
        refine awp_draw F_mixed [some 44, some 45, some 46, some 47, some 48, some 49, some 50, some 11, none] rfl (by kernel_rfl) ?_
        simp only [List.nil_append, List.cons_append, true_and, and_true, zz0, true_implies, Nat.reduceLT, Nat.reduceLeDiff, zzI, look_nil, Nat.reduceBEq, implies_true, F_ok25, F_ag25, F_sz25, zz8, zz23, zzD, Nat.reduceAdd, Nat.zero_add, zzF, zzB, zzE, zz16, Option.some.injEq, exists_eq_left', exists_eq_left, Option.map_some, eq_self, reduceCtorEq, and_self, evS_move, evS_indexAddr, zz24, F_sl23, F_sz51, zz19, F_off51_0, F_ok44, F_ag44, F_sz44, evS_call, evC_value, zz32, newRow1, F_zero51, zz10, zz18, F_ok51, splice, List.append_nil, zz1, zzG, posA, poss, bookC, tradesB, poss, tradeC, D.agg.injEq, gx, bx, hwx, len_map, ge0, Int.toNat_natCast, D.agg.injEq, zz6, Nat.reduceEqDiff, ↓reduceIte]
        refine call_go F_go23 (fun hG => bOfF (grownB l) x.who x.inst (by omega)) (by simp [AV.ids, AV.idsL, posA]) (by simp) ?_
        simp only [List.nil_append, List.cons_append, true_and, and_true, zz0, true_implies, Nat.reduceLT, Nat.reduceLeDiff, zzI, look_nil, Nat.reduceBEq, implies_true, F_ok25, F_ag25, F_sz25, zz8, zz23, zzD, Nat.reduceAdd, Nat.zero_add, zzF, zzB, zzE, zz16, Option.some.injEq, exists_eq_left', exists_eq_left, Option.map_some, eq_self, reduceCtorEq, and_self, evS_move, evS_indexAddr, zz24, F_sl23, F_sz51, zz19, F_off51_0, F_ok44, F_ag44, F_sz44, evS_call, evC_value, zz32, newRow1, F_zero51, zz10, zz18, F_ok51, splice, List.append_nil, zz1, zzG, posA, poss, bookC, tradesB, poss, tradeC, D.agg.injEq, gx, bx, hwx, len_map, ge0, Int.toNat_natCast, D.agg.injEq, zz6, Nat.reduceEqDiff, ↓reduceIte, atsL, oksG, freeN, AV.ren, AV.renL, addRows, ORow.row, Nat.reduceMul, Nat.reduceAdd, zz9, Option.bind_some, Option.map_some, forall_eq', D.sl.injEq, S_mem, Option.some.injEq, exists_eq_left', exists_eq_left, exists_eq', exists_eq, List.length_cons, zz2]
        refine hK3 _ ?_; try clear hK3 K3
        refine awp_keepL [5, 6, 7, 8, 10, 11] ?_
        simp only [zz20, zzI, look_nil, Nat.reduceBEq]
        refine awp_seq fun K3 hK3 => ?_
        refine awp_draw F_mixed [some 51, some 52, some 53, some 54, some 55, some 56, some 57, some 12, none] rfl (by kernel_rfl) ?_
        simp only [List.nil_append, List.cons_append, true_and, and_true, zz0, true_implies, Nat.reduceLT, Nat.reduceLeDiff, zzI, look_nil, Nat.reduceBEq, implies_true, F_ok25, F_ag25, F_sz25, zz8, zz23, zzD, Nat.reduceAdd, Nat.zero_add, zzF, zzB, zzE, zz16, Option.some.injEq, exists_eq_left', exists_eq_left, Option.map_some, eq_self, reduceCtorEq, and_self, evS_move, evS_indexAddr, zz24, F_sl23, F_sz51, zz19, F_off51_0, F_ok44, F_ag44, F_sz44, evS_call, evC_value, zz32, newRow1, F_zero51, zz10, zz18, F_ok51, splice, List.append_nil, zz1, zzG, posA, poss, bookC, tradesB, poss, tradeC, D.agg.injEq, gx, bx, hwx, len_map, ge0, Int.toNat_natCast, D.agg.injEq, zz6, Nat.reduceEqDiff, ↓reduceIte]
        refine call_go F_go23 (fun hG => bOfF (addV (grownB l) (grownB l2).poss) x.who x.inst (by omega)) (by simp [AV.ids, AV.idsL, posA]) (by simp) ?_
        simp only [List.nil_append, List.cons_append, true_and, and_true, zz0, true_implies, Nat.reduceLT, Nat.reduceLeDiff, zzI, look_nil, Nat.reduceBEq, implies_true, F_ok25, F_ag25, F_sz25, zz8, zz23, zzD, Nat.reduceAdd, Nat.zero_add, zzF, zzB, zzE, zz16, Option.some.injEq, exists_eq_left', exists_eq_left, Option.map_some, eq_self, reduceCtorEq, and_self, evS_move, evS_indexAddr, zz24, F_sl23, F_sz51, zz19, F_off51_0, F_ok44, F_ag44, F_sz44, evS_call, evC_value, zz32, newRow1, F_zero51, zz10, zz18, F_ok51, splice, List.append_nil, zz1, zzG, posA, poss, bookC, tradesB, poss, tradeC, D.agg.injEq, gx, bx, hwx, len_map, ge0, Int.toNat_natCast, D.agg.injEq, zz6, Nat.reduceEqDiff, ↓reduceIte, atsL, oksG, freeN, AV.ren, AV.renL, addRows, ORow.row, Nat.reduceMul, Nat.reduceAdd, zz9, Option.bind_some, Option.map_some, forall_eq', D.sl.injEq, S_mem, Option.some.injEq, exists_eq_left', exists_eq_left, exists_eq', exists_eq, List.length_cons, zz2]
        refine hK3 _ ?_; try clear hK3 K3
        refine awp_keepL [5, 6, 7, 8, 10, 11, 12] ?_
        simp only [zz20, zzI, look_nil, Nat.reduceBEq]
        refine awp_seq fun K3 hK3 => ?_
        refine awp_draw F_mixed [some 58, some 59, some 60, some 61, some 62, some 63, some 64, some 65, some 66, some 67, some 68, some 69, some 70, some 71, some 72, some 73, some 74, some 75, some 76, some 77, some 78, some 79, some 80, some 81] rfl (by kernel_rfl) ?_
        simp only [List.nil_append, List.cons_append, true_and, and_true, zz0, true_implies, Nat.reduceLT, Nat.reduceLeDiff, zzI, look_nil, Nat.reduceBEq, implies_true, Nat.reduceSub, S_getD, zz5, and_imp, imp_and, imp_self, and_self, zz19, zz23, F_off51_1, zzB, Nat.zero_add, Nat.reduceAdd, F_ok3, F_ag3, F_sz3, zz8, zzD, zzF, zzE, zz16, Option.some.injEq, exists_eq_left', exists_eq_left, Option.map_some, eq_self, reduceCtorEq, evS_move, evS_indexAddr, zz24, F_sl23, F_sz51, zz21, gr_v, zz26, zz28, F_off51_2, zz13, pickK_l, pickK_r, poss, bookC, tradesB, poss, tradeC, D.agg.injEq, gx, bx, hwx, len_map, ge0, Int.toNat_natCast, D.agg.injEq, a1, a2, a3, a4, bne_self_eq_false, zz6, Nat.reduceEqDiff, ↓reduceIte]
        refine hK3 _ ?_; try clear hK3 K3
        refine awp_keepL [5, 6, 7, 8, 10, 81] ?_
        simp only [zz20, zzI, look_nil, Nat.reduceBEq]
        refine awp_condS _ (by decide) (by simp only [look_cons, Nat.reduceBEq, cond_true, cond_false]; rfl) ?_ ?_
        · intro hb
          first | cases hb | simp at hb
        · intro hb
          clear hb
          refine awp_skip ?_
          simp only [zz6, Nat.reduceEqDiff, ↓reduceIte]
          refine hK2 _ ?_; try clear hK2 K2
          refine awp_keepL [5, 6, 7, 8, 10] ?_
          simp only [zz20, zzI, look_nil, Nat.reduceBEq]
          refine awp_plain F_mixed [some 42, some 43, some 10] rfl ?_
          simp only [List.nil_append, List.cons_append, true_and, and_true, zz0, true_implies, Nat.reduceLT, Nat.reduceLeDiff, zzI, look_nil, Nat.reduceBEq, implies_true, evS_move, zz21, gr_v, zz26, evS_assign, hwx, zz6, Nat.reduceEqDiff, ↓reduceIte]
          refine ⟨post2.length, _, by simp, le_SK id [] rfl (l' := [(5, .ptr 5 0 0), (6, .ptr 6 0 0), (7, .d (poss (grownB l2).poss)), (8, .ptr 8 0 0), (10, .d (iv (pre ++ [x]).length))]) (m' := [(5, (⟨True, 25, 3, true, false, 5, [[.d (iv (grownB l).next), .d (.sl 7 ((grownB l).trades.map tradeC)), .d (.sl 4 ((grownB l).poss.map posC))]]⟩ : ARow)), (6, (⟨True, 25, 3, true, false, 6, [[.d (iv (grownB l2).next), .d (.sl 7 ((grownB l2).trades.map tradeC)), .d (.sl 4 ((grownB l2).poss.map posC))]]⟩ : ARow)), (8, (⟨True, 25, 3, true, false, 8, [[.d (iv (addV (grownB l) (grownB l2).poss).next), .d (.sl 7 ((addV (grownB l) (grownB l2).poss).trades.map tradeC)), .d (.sl 4 ((addV (grownB l) (grownB l2).poss).poss.map posC))]]⟩ : ARow))]) ?_ ?_ ?_ ?_, (pre ++ [x]), post2, by simp [hsp], rfl, rfl⟩
          · simp only [leV, look_cons, Nat.reduceBEq, cond_true, cond_false, hwx]; exact ⟨(by first | exact VLe.still rfl | exact VLe.nil_ (by decide) | exact VLe.nild_ | exact VLe.refl _ | exact VLe.ptrE (by simp) (by rfl) | exact VLe.refE (by simp) (by rfl) (by first | rfl | (simp; done) | (simp; omega)) | exact VLe.dE (by first | rfl | simp)), (by first | exact VLe.still rfl | exact VLe.nil_ (by decide) | exact VLe.nild_ | exact VLe.refl _ | exact VLe.ptrE (by simp) (by rfl) | exact VLe.refE (by simp) (by rfl) (by first | rfl | (simp; done) | (simp; omega)) | exact VLe.dE (by first | rfl | simp)), (by first | exact VLe.still rfl | exact VLe.nil_ (by decide) | exact VLe.nild_ | exact VLe.refl _ | exact VLe.ptrE (by simp) (by rfl) | exact VLe.refE (by simp) (by rfl) (by first | rfl | (simp; done) | (simp; omega)) | exact VLe.dE (by first | rfl | simp)), (by first | exact VLe.still rfl | exact VLe.nil_ (by decide) | exact VLe.nild_ | exact VLe.refl _ | exact VLe.ptrE (by simp) (by rfl) | exact VLe.refE (by simp) (by rfl) (by first | rfl | (simp; done) | (simp; omega)) | exact VLe.dE (by first | rfl | simp)), (by first | exact VLe.still rfl | exact VLe.nil_ (by decide) | exact VLe.nild_ | exact VLe.refl _ | exact VLe.ptrE (by simp) (by rfl) | exact VLe.refE (by simp) (by rfl) (by first | rfl | (simp; done) | (simp; omega)) | exact VLe.dE (by first | rfl | simp)), trivial⟩
          · exact ⟨fun _ => ⟨_, rfl, (by first | exact RowLe.data_ (by first | rfl | simp) | exact RowLe.uq2 (by first | rfl | simp) (by simp) ids_data | exact RowLe.still (by simp [AV.idsL, AV.ids]) | exact RowLe.same (by simp) (by simp [AV.idsL, AV.ids]))⟩, fun h => by simp at h, fun _ => ⟨_, rfl, (by first | exact RowLe.data_ (by first | rfl | simp) | exact RowLe.uq2 (by first | rfl | simp) (by simp) ids_data | exact RowLe.still (by simp [AV.idsL, AV.ids]) | exact RowLe.same (by simp) (by simp [AV.idsL, AV.ids]))⟩, fun h => by simp at h, fun _ => ⟨_, rfl, (by first | exact RowLe.data_ (by first | rfl | simp) | exact RowLe.uq2 (by first | rfl | simp) (by simp) ids_data | exact RowLe.still (by simp [AV.idsL, AV.ids]) | exact RowLe.same (by simp) (by simp [AV.idsL, AV.ids]))⟩, fun h => by simp at h, trivial⟩
          · simp [wfV, AV.ids, AV.idsL, lookR, grow]
          · exact ⟨by simp [AV.idsL, AV.ids, lookR], by simp [AV.idsL, AV.ids, lookR], by simp [AV.idsL, AV.ids, lookR], trivial⟩
      · intro hb
        obtain rfl : post = [] := by
          cases post with
          | nil => rfl
          | cons x t => have := of_decide_eq_false hb; simp at hspl; omega
        clear hb
        simp only [List.append_nil] at hsp
        
        refine awp_exit ?_
        simp only [zz6, Nat.reduceEqDiff, ↓reduceIte]
        refine hK0 _ ?_; try clear hK0 K0
        refine awp_keepL [5, 6, 8] ?_
        simp only [zz20, zzI, look_nil, Nat.reduceBEq]
        refine awp_seq fun K0 hK0 => ?_
        refine awp_seq fun K1 hK1 => ?_
        refine awp_plain F_mixed [some 13] rfl ?_
        simp only [List.nil_append, List.cons_append, true_and, and_true, zz0, true_implies, Nat.reduceLT, Nat.reduceLeDiff, zzI, look_nil, Nat.reduceBEq, implies_true, evS_assign, zz6, Nat.reduceEqDiff, ↓reduceIte]
        refine hK1 _ ?_; try clear hK1 K1
        refine awp_keepL [5, 6, 8, 13] ?_
        simp only [zz20, zzI, look_nil, Nat.reduceBEq]
        refine awp_block ?_
        refine awp_loop (fun m s => ∃ (pre : List PosV) (post : List PosV), ((grownB l).poss = pre ++ post) ∧ m = post.length ∧ s = S 147 [(5, .ptr 5 0 0), (6, .ptr 6 0 0), (8, .ptr 8 0 0), (13, .d (iv pre.length))] [(5, (⟨True, 25, 3, true, false, 5, [[.d (iv (grownB l).next), .d (.sl 7 ((grownB l).trades.map tradeC)), .d (.sl 4 ((grownB l).poss.map posC))]]⟩ : ARow)), (6, (⟨True, 25, 3, true, false, 6, [[.d (iv (grownB l2).next), .d (.sl 7 ((grownB l2).trades.map tradeC)), .d (.sl 4 ((grownB l2).poss.map posC))]]⟩ : ARow)), (8, (⟨True, 25, 3, true, false, 8, [[.d (iv (addV (grownB l) (grownB l2).poss).next), .d (.sl 7 ((addV (grownB l) (grownB l2).poss).trades.map tradeC)), .d (.sl 4 ((addV (grownB l) (grownB l2).poss).poss.map posC))]]⟩ : ARow))]) ((grownB l).poss.length) _ (le_SK id [] rfl (l' := [(5, .ptr 5 0 0), (6, .ptr 6 0 0), (8, .ptr 8 0 0), (13, .d (iv [].length))]) (m' := [(5, (⟨True, 25, 3, true, false, 5, [[.d (iv (grownB l).next), .d (.sl 7 ((grownB l).trades.map tradeC)), .d (.sl 4 ((grownB l).poss.map posC))]]⟩ : ARow)), (6, (⟨True, 25, 3, true, false, 6, [[.d (iv (grownB l2).next), .d (.sl 7 ((grownB l2).trades.map tradeC)), .d (.sl 4 ((grownB l2).poss.map posC))]]⟩ : ARow)), (8, (⟨True, 25, 3, true, false, 8, [[.d (iv (addV (grownB l) (grownB l2).poss).next), .d (.sl 7 ((addV (grownB l) (grownB l2).poss).trades.map tradeC)), .d (.sl 4 ((addV (grownB l) (grownB l2).poss).poss.map posC))]]⟩ : ARow))]) ?_ ?_ ?_ ?_) ⟨[], (grownB l).poss, rfl, rfl, rfl⟩ ?_
        · simp only [leV, look_cons, Nat.reduceBEq, cond_true, cond_false]; exact ⟨(by first | exact VLe.still rfl | exact VLe.nil_ (by decide) | exact VLe.nild_ | exact VLe.refl _ | exact VLe.ptrE (by simp) (by rfl) | exact VLe.refE (by simp) (by rfl) (by first | rfl | (simp; done) | (simp; omega)) | exact VLe.dE (by first | rfl | simp)), (by first | exact VLe.still rfl | exact VLe.nil_ (by decide) | exact VLe.nild_ | exact VLe.refl _ | exact VLe.ptrE (by simp) (by rfl) | exact VLe.refE (by simp) (by rfl) (by first | rfl | (simp; done) | (simp; omega)) | exact VLe.dE (by first | rfl | simp)), (by first | exact VLe.still rfl | exact VLe.nil_ (by decide) | exact VLe.nild_ | exact VLe.refl _ | exact VLe.ptrE (by simp) (by rfl) | exact VLe.refE (by simp) (by rfl) (by first | rfl | (simp; done) | (simp; omega)) | exact VLe.dE (by first | rfl | simp)), (by first | exact VLe.still rfl | exact VLe.nil_ (by decide) | exact VLe.nild_ | exact VLe.refl _ | exact VLe.ptrE (by simp) (by rfl) | exact VLe.refE (by simp) (by rfl) (by first | rfl | (simp; done) | (simp; omega)) | exact VLe.dE (by first | rfl | simp)), trivial⟩
        · exact ⟨fun _ => ⟨_, rfl, (by first | exact RowLe.data_ (by first | rfl | simp) | exact RowLe.uq2 (by first | rfl | simp) (by simp) ids_data | exact RowLe.still (by simp [AV.idsL, AV.ids]) | exact RowLe.same (by simp) (by simp [AV.idsL, AV.ids]))⟩, fun h => by simp at h, fun _ => ⟨_, rfl, (by first | exact RowLe.data_ (by first | rfl | simp) | exact RowLe.uq2 (by first | rfl | simp) (by simp) ids_data | exact RowLe.still (by simp [AV.idsL, AV.ids]) | exact RowLe.same (by simp) (by simp [AV.idsL, AV.ids]))⟩, fun h => by simp at h, fun _ => ⟨_, rfl, (by first | exact RowLe.data_ (by first | rfl | simp) | exact RowLe.uq2 (by first | rfl | simp) (by simp) ids_data | exact RowLe.still (by simp [AV.idsL, AV.ids]) | exact RowLe.same (by simp) (by simp [AV.idsL, AV.ids]))⟩, fun h => by simp at h, trivial⟩
        · simp [wfV, AV.ids, AV.idsL, lookR, grow]
        · exact ⟨by simp [AV.idsL, AV.ids, lookR], by simp [AV.idsL, AV.ids, lookR], by simp [AV.idsL, AV.ids, lookR], trivial⟩
        rintro m s ⟨pre, post, hsp, rfl, rfl⟩
        have hspl := congrArg List.length hsp
        simp only [List.length_append] at hspl
        refine awp_seq fun K2 hK2 => ?_
        refine awp_seq fun K3 hK3 => ?_
        refine awp_plain F_mixed [some 82, some 83, some 84, some 85, some 86] rfl ?_
        simp only [List.nil_append, List.cons_append, true_and, and_true, zz0, true_implies, Nat.reduceLT, Nat.reduceLeDiff, zzI, look_nil, Nat.reduceBEq, implies_true, evS_move, zz19, zz23, F_off25_2, zzB, Nat.zero_add, Nat.reduceAdd, F_ok23, F_ag23, F_sz23, zz8, zzD, zzF, zzE, zz16, Option.some.injEq, exists_eq_left', exists_eq_left, Option.map_some, eq_self, reduceCtorEq, and_self, evS_call, zz12, F_sl23, Option.isSome_some, zz21, gr_v, zz22, bookC, tradesB, poss, tradeC, D.agg.injEq, len_map, zz6, Nat.reduceEqDiff, ↓reduceIte]
        refine hK3 _ ?_; try clear hK3 K3
        refine awp_keepL [5, 6, 8, 13, 86] ?_
        simp only [zz20, zzI, look_nil, Nat.reduceBEq]
        refine awp_condS _ (by decide) (by simp only [look_cons, Nat.reduceBEq, cond_true, cond_false]; rfl) ?_ ?_
        · intro hb
          obtain ⟨x, post2, rfl⟩ : ∃ x t, post = x :: t := by
            cases post with
            | nil => have := of_decide_eq_true hb; simp at hspl; omega
            | cons x t => exact ⟨x, t, rfl⟩
          clear hb
          simp only [List.length_cons] at hspl
          have gx : ((grownB l).poss.map posC).getD pre.length [] = [iv x.who, iv x.inst, iv x.qty, iv x.cost] := by
            rw [hsp, List.map_append]; exact gd_mid' (A := pre.map posC) _ _ (by simp)
          have bx := ltI (show pre.length < (grownB l).poss.length by omega)
          have hwx : IntKind.wrap .i64 ((pre.length : Int) + 1) = ((pre ++ [x]).length : Int) := by rw [wrapI (by omega) (by omega)]; simp
          have a1 := f2 x (by rw [hsp]; simp)
          refine awp_skip ?_
          simp only [zz6, Nat.reduceEqDiff, ↓reduceIte]
          refine hK2 _ ?_; try clear hK2 K2
          refine awp_keepL [5, 6, 8, 13] ?_
          simp only [zz20, zzI, look_nil, Nat.reduceBEq]
          refine awp_seq fun K2 hK2 => ?_
          refine awp_block ?_
          refine awp_seq fun K3 hK3 => ?_
          refine awp_draw F_mixed [some 89, some 90, some 91, some 92, some 93, some 94, some 95, some 96, some 97, some 98, some 99, some 100, some 101, some 102, some 103, some 104, some 105, some 106, some 107, some 108, some 109, some 110, some 111, some 112, some 113, some 114, some 115, some 116, some 117, some 118, some 119, some 120, some 121, some 122, some 123, some 124, some 125, some 126, some 127] rfl (by kernel_rfl) ?_
          simp only [List.nil_append, List.cons_append, true_and, and_true, zz0, true_implies, Nat.reduceLT, Nat.reduceLeDiff, zzI, look_nil, Nat.reduceBEq, implies_true, Nat.reduceSub, S_getD, zz5, and_imp, imp_and, imp_self, and_self, F_ok25, F_ag25, F_sz25, zz8, zz23, zzD, Nat.reduceAdd, Nat.zero_add, zzF, zzB, zzE, zz16, Option.some.injEq, exists_eq_left', exists_eq_left, Option.map_some, eq_self, reduceCtorEq, zz19, F_off25_2, F_ok23, F_ag23, F_sz23, evS_move, evS_indexAddr, zz24, F_sl23, F_sz51, F_off51_0, F_ok44, F_ag44, F_sz44, evS_call, evC_value, evS_field, fdK_some, fdV_ag, fdV_agg, fdC_one, fdC_agg, F_field51_1, F_ok3, F_ag3, F_sz3, zz21, gr_v, zz34, F_field51_2, zz13, pickK_l, pickK_r, F_ok51, F_ag51, zz29, zz30, posA, posC, bookC, tradesB, poss, tradeC, D.agg.injEq, gx, bx, hwx, len_map, ge0, Int.toNat_natCast, D.agg.injEq, zz6, Nat.reduceEqDiff, ↓reduceIte]
          refine call_go F_go23 (fun hG => bOfF (grownB l2) x.who x.inst (by omega)) (by simp [AV.ids, AV.idsL, posA]) (by simp) ?_
          simp only [List.nil_append, List.cons_append, true_and, and_true, zz0, true_implies, Nat.reduceLT, Nat.reduceLeDiff, zzI, look_nil, Nat.reduceBEq, implies_true, Nat.reduceSub, S_getD, zz5, and_imp, imp_and, imp_self, and_self, F_ok25, F_ag25, F_sz25, zz8, zz23, zzD, Nat.reduceAdd, Nat.zero_add, zzF, zzB, zzE, zz16, Option.some.injEq, exists_eq_left', exists_eq_left, Option.map_some, eq_self, reduceCtorEq, zz19, F_off25_2, F_ok23, F_ag23, F_sz23, evS_move, evS_indexAddr, zz24, F_sl23, F_sz51, F_off51_0, F_ok44, F_ag44, F_sz44, evS_call, evC_value, evS_field, fdK_some, fdV_ag, fdV_agg, fdC_one, fdC_agg, F_field51_1, F_ok3, F_ag3, F_sz3, zz21, gr_v, zz34, F_field51_2, zz13, pickK_l, pickK_r, F_ok51, F_ag51, zz29, zz30, posA, posC, bookC, tradesB, poss, tradeC, D.agg.injEq, gx, bx, hwx, len_map, ge0, Int.toNat_natCast, D.agg.injEq, zz6, Nat.reduceEqDiff, ↓reduceIte, atsL, oksG, freeN, AV.ren, AV.renL, addRows, ORow.row, Nat.reduceMul, Nat.reduceAdd, zz9, Option.bind_some, Option.map_some, forall_eq', D.sl.injEq, S_mem, Option.some.injEq, exists_eq_left', exists_eq_left, exists_eq', exists_eq, List.length_cons, zz2]
          refine call_go F_go23 (fun hG => bOfF (grownB l2) x.who x.inst (by omega)) (by simp [AV.ids, AV.idsL, posA]) (by simp) ?_
          simp only [List.nil_append, List.cons_append, true_and, and_true, zz0, true_implies, Nat.reduceLT, Nat.reduceLeDiff, zzI, look_nil, Nat.reduceBEq, implies_true, Nat.reduceSub, S_getD, zz5, and_imp, imp_and, imp_self, and_self, F_ok25, F_ag25, F_sz25, zz8, zz23, zzD, Nat.reduceAdd, Nat.zero_add, zzF, zzB, zzE, zz16, Option.some.injEq, exists_eq_left', exists_eq_left, Option.map_some, eq_self, reduceCtorEq, zz19, F_off25_2, F_ok23, F_ag23, F_sz23, evS_move, evS_indexAddr, zz24, F_sl23, F_sz51, F_off51_0, F_ok44, F_ag44, F_sz44, evS_call, evC_value, evS_field, fdK_some, fdV_ag, fdV_agg, fdC_one, fdC_agg, F_field51_1, F_ok3, F_ag3, F_sz3, zz21, gr_v, zz34, F_field51_2, zz13, pickK_l, pickK_r, F_ok51, F_ag51, zz29, zz30, posA, posC, bookC, tradesB, poss, tradeC, D.agg.injEq, gx, bx, hwx, len_map, ge0, Int.toNat_natCast, D.agg.injEq, zz6, Nat.reduceEqDiff, ↓reduceIte, atsL, oksG, freeN, AV.ren, AV.renL, addRows, ORow.row, Nat.reduceMul, Nat.reduceAdd, zz9, Option.bind_some, Option.map_some, forall_eq', D.sl.injEq, S_mem, Option.some.injEq, exists_eq_left', exists_eq_left, exists_eq', exists_eq, List.length_cons, zz2]
          refine call_go F_go23 (fun hG => bOfF (addV (grownB l) (grownB l2).poss) x.who x.inst (by omega)) (by simp [AV.ids, AV.idsL, posA]) (by simp) ?_
          simp only [List.nil_append, List.cons_append, true_and, and_true, zz0, true_implies, Nat.reduceLT, Nat.reduceLeDiff, zzI, look_nil, Nat.reduceBEq, implies_true, Nat.reduceSub, S_getD, zz5, and_imp, imp_and, imp_self, and_self, F_ok25, F_ag25, F_sz25, zz8, zz23, zzD, Nat.reduceAdd, Nat.zero_add, zzF, zzB, zzE, zz16, Option.some.injEq, exists_eq_left', exists_eq_left, Option.map_some, eq_self, reduceCtorEq, zz19, F_off25_2, F_ok23, F_ag23, F_sz23, evS_move, evS_indexAddr, zz24, F_sl23, F_sz51, F_off51_0, F_ok44, F_ag44, F_sz44, evS_call, evC_value, evS_field, fdK_some, fdV_ag, fdV_agg, fdC_one, fdC_agg, F_field51_1, F_ok3, F_ag3, F_sz3, zz21, gr_v, zz34, F_field51_2, zz13, pickK_l, pickK_r, F_ok51, F_ag51, zz29, zz30, posA, posC, bookC, tradesB, poss, tradeC, D.agg.injEq, gx, bx, hwx, len_map, ge0, Int.toNat_natCast, D.agg.injEq, zz6, Nat.reduceEqDiff, ↓reduceIte, atsL, oksG, freeN, AV.ren, AV.renL, addRows, ORow.row, Nat.reduceMul, Nat.reduceAdd, zz9, Option.bind_some, Option.map_some, forall_eq', D.sl.injEq, S_mem, Option.some.injEq, exists_eq_left', exists_eq_left, exists_eq', exists_eq, List.length_cons, zz2]
          refine call_go F_go22 (fun hG => kPosG_ (ofP x.who x.inst (addV (grownB l) (grownB l2).poss).poss) x) (by simp [AV.ids, AV.idsL, posA]) (by simp) ?_
          simp only [List.nil_append, List.cons_append, true_and, and_true, zz0, true_implies, Nat.reduceLT, Nat.reduceLeDiff, zzI, look_nil, Nat.reduceBEq, implies_true, Nat.reduceSub, S_getD, zz5, and_imp, imp_and, imp_self, and_self, F_ok25, F_ag25, F_sz25, zz8, zz23, zzD, Nat.reduceAdd, Nat.zero_add, zzF, zzB, zzE, zz16, Option.some.injEq, exists_eq_left', exists_eq_left, Option.map_some, eq_self, reduceCtorEq, zz19, F_off25_2, F_ok23, F_ag23, F_sz23, evS_move, evS_indexAddr, zz24, F_sl23, F_sz51, F_off51_0, F_ok44, F_ag44, F_sz44, evS_call, evC_value, evS_field, fdK_some, fdV_ag, fdV_agg, fdC_one, fdC_agg, F_field51_1, F_ok3, F_ag3, F_sz3, zz21, gr_v, zz34, F_field51_2, zz13, pickK_l, pickK_r, F_ok51, F_ag51, zz29, zz30, posA, posC, bookC, tradesB, poss, tradeC, D.agg.injEq, gx, bx, hwx, len_map, ge0, Int.toNat_natCast, D.agg.injEq, zz6, Nat.reduceEqDiff, ↓reduceIte, atsL, oksG, freeN, AV.ren, AV.renL, addRows, ORow.row, Nat.reduceMul, Nat.reduceAdd, zz9, Option.bind_some, Option.map_some, forall_eq', D.sl.injEq, S_mem, Option.some.injEq, exists_eq_left', exists_eq_left, exists_eq', exists_eq, List.length_cons, zz2]
          refine hK3 _ ?_; try clear hK3 K3
          refine awp_keepL [5, 6, 8, 13, 127] ?_
          simp only [zz20, zzI, look_nil, Nat.reduceBEq]
          refine awp_condS _ (by decide) (by simp only [look_cons, Nat.reduceBEq, cond_true, cond_false]; rfl) ?_ ?_
          · intro hb
            exfalso
            simp only [Bool.and_eq_true, beq_iff_eq, Bool.not_eq_true'] at hb
            rw [a1 hb.1.1 hb.1.2, posEq_refl] at hb
            cases hb.2
          · intro hb
            clear hb
            refine awp_skip ?_
            simp only [zz6, Nat.reduceEqDiff, ↓reduceIte]
            refine hK2 _ ?_; try clear hK2 K2
            refine awp_keepL [5, 6, 8, 13] ?_
            simp only [zz20, zzI, look_nil, Nat.reduceBEq]
            refine awp_plain F_mixed [some 87, some 88, some 13] rfl ?_
            simp only [List.nil_append, List.cons_append, true_and, and_true, zz0, true_implies, Nat.reduceLT, Nat.reduceLeDiff, zzI, look_nil, Nat.reduceBEq, implies_true, evS_move, zz21, gr_v, zz26, evS_assign, hwx, zz6, Nat.reduceEqDiff, ↓reduceIte]
            refine ⟨post2.length, _, by simp, le_SK id [] rfl (l' := [(5, .ptr 5 0 0), (6, .ptr 6 0 0), (8, .ptr 8 0 0), (13, .d (iv (pre ++ [x]).length))]) (m' := [(5, (⟨True, 25, 3, true, false, 5, [[.d (iv (grownB l).next), .d (.sl 7 ((grownB l).trades.map tradeC)), .d (.sl 4 ((grownB l).poss.map posC))]]⟩ : ARow)), (6, (⟨True, 25, 3, true, false, 6, [[.d (iv (grownB l2).next), .d (.sl 7 ((grownB l2).trades.map tradeC)), .d (.sl 4 ((grownB l2).poss.map posC))]]⟩ : ARow)), (8, (⟨True, 25, 3, true, false, 8, [[.d (iv (addV (grownB l) (grownB l2).poss).next), .d (.sl 7 ((addV (grownB l) (grownB l2).poss).trades.map tradeC)), .d (.sl 4 ((addV (grownB l) (grownB l2).poss).poss.map posC))]]⟩ : ARow))]) ?_ ?_ ?_ ?_, (pre ++ [x]), post2, by simp [hsp], rfl, rfl⟩
            · simp only [leV, look_cons, Nat.reduceBEq, cond_true, cond_false, hwx]; exact ⟨(by first | exact VLe.still rfl | exact VLe.nil_ (by decide) | exact VLe.nild_ | exact VLe.refl _ | exact VLe.ptrE (by simp) (by rfl) | exact VLe.refE (by simp) (by rfl) (by first | rfl | (simp; done) | (simp; omega)) | exact VLe.dE (by first | rfl | simp)), (by first | exact VLe.still rfl | exact VLe.nil_ (by decide) | exact VLe.nild_ | exact VLe.refl _ | exact VLe.ptrE (by simp) (by rfl) | exact VLe.refE (by simp) (by rfl) (by first | rfl | (simp; done) | (simp; omega)) | exact VLe.dE (by first | rfl | simp)), (by first | exact VLe.still rfl | exact VLe.nil_ (by decide) | exact VLe.nild_ | exact VLe.refl _ | exact VLe.ptrE (by simp) (by rfl) | exact VLe.refE (by simp) (by rfl) (by first | rfl | (simp; done) | (simp; omega)) | exact VLe.dE (by first | rfl | simp)), (by first | exact VLe.still rfl | exact VLe.nil_ (by decide) | exact VLe.nild_ | exact VLe.refl _ | exact VLe.ptrE (by simp) (by rfl) | exact VLe.refE (by simp) (by rfl) (by first | rfl | (simp; done) | (simp; omega)) | exact VLe.dE (by first | rfl | simp)), trivial⟩
            · exact ⟨fun _ => ⟨_, rfl, (by first | exact RowLe.data_ (by first | rfl | simp) | exact RowLe.uq2 (by first | rfl | simp) (by simp) ids_data | exact RowLe.still (by simp [AV.idsL, AV.ids]) | exact RowLe.same (by simp) (by simp [AV.idsL, AV.ids]))⟩, fun h => by simp at h, fun _ => ⟨_, rfl, (by first | exact RowLe.data_ (by first | rfl | simp) | exact RowLe.uq2 (by first | rfl | simp) (by simp) ids_data | exact RowLe.still (by simp [AV.idsL, AV.ids]) | exact RowLe.same (by simp) (by simp [AV.idsL, AV.ids]))⟩, fun h => by simp at h, fun _ => ⟨_, rfl, (by first | exact RowLe.data_ (by first | rfl | simp) | exact RowLe.uq2 (by first | rfl | simp) (by simp) ids_data | exact RowLe.still (by simp [AV.idsL, AV.ids]) | exact RowLe.same (by simp) (by simp [AV.idsL, AV.ids]))⟩, fun h => by simp at h, trivial⟩
            · simp [wfV, AV.ids, AV.idsL, lookR, grow]
            · exact ⟨by simp [AV.idsL, AV.ids, lookR], by simp [AV.idsL, AV.ids, lookR], by simp [AV.idsL, AV.ids, lookR], trivial⟩
        · intro hb
          obtain rfl : post = [] := by
            cases post with
            | nil => rfl
            | cons x t => have := of_decide_eq_false hb; simp at hspl; omega
          clear hb
          simp only [List.append_nil] at hsp
          
          refine awp_exit ?_
          simp only [zz6, Nat.reduceEqDiff, ↓reduceIte]
          refine hK0 _ ?_; try clear hK0 K0
          refine awp_keepL [5, 6, 8] ?_
          simp only [zz20, zzI, look_nil, Nat.reduceBEq]
          refine awp_seq fun K0 hK0 => ?_
          refine awp_plain F_mixed [some 129, some 130, some 131, some 132, some 128, some 133, some 134, some 14, none, some 9] rfl ?_
          simp only [List.nil_append, List.cons_append, true_and, and_true, zz0, true_implies, Nat.reduceLT, Nat.reduceLeDiff, zzI, look_nil, Nat.reduceBEq, implies_true, F_ok25, F_ag25, F_sz25, zz8, zz23, zzD, Nat.reduceAdd, Nat.zero_add, zzF, zzB, zzE, zz16, Option.some.injEq, exists_eq_left', exists_eq_left, Option.map_some, eq_self, reduceCtorEq, and_self, zz19, F_off25_2, F_ok23, F_ag23, F_sz23, evS_call, evC_value, evS_move, zz14, zz32, newRow1, F_zero25, zz10, zz18, splice, List.append_nil, zz1, zzG, evS_assign, bookC, tradesB, poss, tradeC, D.agg.injEq, zz6, Nat.reduceEqDiff, ↓reduceIte]
          refine call_go F_go25 (fun hG => addF (grownB l2) (grownB l).poss (by omega) (by omega) (by omega)) (by simp [AV.ids, AV.idsL]) (by simp) ?_
          simp only [List.nil_append, List.cons_append, true_and, and_true, zz0, true_implies, Nat.reduceLT, Nat.reduceLeDiff, zzI, look_nil, Nat.reduceBEq, implies_true, F_ok25, F_ag25, F_sz25, zz8, zz23, zzD, Nat.reduceAdd, Nat.zero_add, zzF, zzB, zzE, zz16, Option.some.injEq, exists_eq_left', exists_eq_left, Option.map_some, eq_self, reduceCtorEq, and_self, zz19, F_off25_2, F_ok23, F_ag23, F_sz23, evS_call, evC_value, evS_move, zz14, zz32, newRow1, F_zero25, zz10, zz18, splice, List.append_nil, zz1, zzG, evS_assign, bookC, tradesB, poss, tradeC, D.agg.injEq, zz6, Nat.reduceEqDiff, ↓reduceIte, atsL, oksG, freeN, AV.ren, AV.renL, addRows, ORow.row, Nat.reduceMul, Nat.reduceAdd, zz9, Option.bind_some, Option.map_some, forall_eq', D.sl.injEq, S_mem, Option.some.injEq, exists_eq_left', exists_eq_left, exists_eq', exists_eq, List.length_cons, zz2]
          refine hK0 _ ?_; try clear hK0 K0
          refine awp_keepL [8, 9, 14] ?_
          simp only [zz20, zzI, look_nil, Nat.reduceBEq]
          refine awp_seq fun K0 hK0 => ?_
          refine awp_plain F_mixed [some 135, some 136, some 137, some 138, some 139, some 140, some 141, some 142, some 143, some 144, some 145, some 146, some 4] rfl ?_
          simp only [List.nil_append, List.cons_append, true_and, and_true, zz0, true_implies, Nat.reduceLT, Nat.reduceLeDiff, zzI, look_nil, Nat.reduceBEq, implies_true, Nat.reduceSub, S_getD, zz5, and_imp, imp_and, imp_self, and_self, evS_move, zz21, gr_v, zz34, zz19, zz23, F_off25_2, zzB, Nat.zero_add, Nat.reduceAdd, F_ok23, F_ag23, F_sz23, zz8, zzD, zzF, zzE, zz16, Option.some.injEq, exists_eq_left', exists_eq_left, Option.map_some, eq_self, reduceCtorEq, evS_call, evC_value, zz13, pickK_l, pickK_r, evS_assign, bookC, tradesB, poss, tradeC, D.agg.injEq, f3, f4, zz6, Nat.reduceEqDiff, ↓reduceIte]
          refine call_go F_go10 (fun hG => kPoss_ (addV (grownB l) (grownB l2).poss).poss (by omega)) (by simp [AV.ids, AV.idsL]) (by simp) ?_
          simp only [List.nil_append, List.cons_append, true_and, and_true, zz0, true_implies, Nat.reduceLT, Nat.reduceLeDiff, zzI, look_nil, Nat.reduceBEq, implies_true, Nat.reduceSub, S_getD, zz5, and_imp, imp_and, imp_self, and_self, evS_move, zz21, gr_v, zz34, zz19, zz23, F_off25_2, zzB, Nat.zero_add, Nat.reduceAdd, F_ok23, F_ag23, F_sz23, zz8, zzD, zzF, zzE, zz16, Option.some.injEq, exists_eq_left', exists_eq_left, Option.map_some, eq_self, reduceCtorEq, evS_call, evC_value, zz13, pickK_l, pickK_r, evS_assign, bookC, tradesB, poss, tradeC, D.agg.injEq, f3, f4, zz6, Nat.reduceEqDiff, ↓reduceIte, atsL, oksG, freeN, AV.ren, AV.renL, addRows, ORow.row, Nat.reduceMul, Nat.reduceAdd, zz9, Option.bind_some, Option.map_some, forall_eq', D.sl.injEq, S_mem, Option.some.injEq, exists_eq_left', exists_eq_left, exists_eq', exists_eq, List.length_cons, zz2]
          refine call_go F_go11 (fun hG => wakes13_) (by simp [AV.ids, AV.idsL]) (by simp) ?_
          simp only [List.nil_append, List.cons_append, true_and, and_true, zz0, true_implies, Nat.reduceLT, Nat.reduceLeDiff, zzI, look_nil, Nat.reduceBEq, implies_true, Nat.reduceSub, S_getD, zz5, and_imp, imp_and, imp_self, and_self, evS_move, zz21, gr_v, zz34, zz19, zz23, F_off25_2, zzB, Nat.zero_add, Nat.reduceAdd, F_ok23, F_ag23, F_sz23, zz8, zzD, zzF, zzE, zz16, Option.some.injEq, exists_eq_left', exists_eq_left, Option.map_some, eq_self, reduceCtorEq, evS_call, evC_value, zz13, pickK_l, pickK_r, evS_assign, bookC, tradesB, poss, tradeC, D.agg.injEq, f3, f4, zz6, Nat.reduceEqDiff, ↓reduceIte, atsL, oksG, freeN, AV.ren, AV.renL, addRows, ORow.row, Nat.reduceMul, Nat.reduceAdd, zz9, Option.bind_some, Option.map_some, forall_eq', D.sl.injEq, S_mem, Option.some.injEq, exists_eq_left', exists_eq_left, exists_eq', exists_eq, List.length_cons, zz2]
          refine hK0 _ ?_; try clear hK0 K0
          refine awp_keepL [4] ?_
          simp only [zz20, zzI, look_nil, Nat.reduceBEq]
          refine awp_ret ?_
          simp only [zz6, Nat.reduceEqDiff, ↓reduceIte]
          refine done0 (by simp only [resCs, resC]; trivial) ?_ (by simp [flatA, flatAs, flatD]) (by simp [AV.ids, AV.idsL])
          simp only [List.map_cons, List.map_nil, resA, S_getD, Nat.reduceLT, Nat.reduceLeDiff, look_cons, Nat.reduceBEq, cond_true, cond_false, resAll]
          try simp
end Go.Proofs.Ytepphpbjgnapfaa
