import Derived.Test.YtfbpceolkhlifaaWpS
namespace Go.Proofs.Ytfbpceolkhlifaa
open Go.RowKit
set_option linter.unusedVariables false
set_option linter.unusedSimpArgs false
theorem F_go10 : goFn Try.prog 10 := ⟨_, Try.func10, rfl, rfl⟩
theorem F_go15 : goFn Try.prog 15 := ⟨_, Try.func15, rfl, rfl⟩
theorem F_go22 : goFn Try.prog 22 := ⟨_, Try.func22, rfl, rfl⟩
theorem F_go27 : goFn Try.prog 27 := ⟨_, Try.func27, rfl, rfl⟩
theorem F_go14 : goFn Try.prog 14 := ⟨_, Try.func14, rfl, rfl⟩
theorem kAcctG_ (a b : AcV) : ACalls Try.prog 12 [.agg (acC a), .agg (acC b)] [] (bv (acSame a b)) := by
  refine acalls_S (rs := [.tmp 4]) Try.func12 rfl rfl 24 [(0, .d (.agg (acC a))), (1, .d (.agg (acC b)))] rfl (by simp) rfl ?_
  refine awp_seq fun K0 hK0 => ?_
  refine awp_plain F_mixed [some 2, some 3, some 4] rfl ?_
  simp only [List.nil_append, List.cons_append, true_and, and_true, zz0, true_implies, Nat.reduceLT, Nat.reduceLeDiff, zzI, look_nil, Nat.reduceBEq, implies_true, zz35, newRow1, zz1, zzG, zzD, zz16, Option.some.injEq, exists_eq_left', exists_eq_left, Option.map_some, eq_self, reduceCtorEq, and_self, Nat.reduceAdd, Nat.zero_add, zzF, zzB, zzE, evS_assign, acC, zz6, Nat.reduceEqDiff, ↓reduceIte]
  refine hK0 _ ?_; try clear hK0 K0
  refine awp_keepL [2, 3] ?_
  simp only [zz20, zzI, look_nil, Nat.reduceBEq]
  refine awp_seq fun K0 hK0 => ?_
  refine awp_plain F_mixed [some 5, some 6, some 7, some 8, some 9, some 10, some 11, some 12, some 13, some 14, some 15, some 16, some 17, some 18, some 19, some 20, some 21, some 22, some 23, some 4] rfl ?_
  simp only [List.nil_append, List.cons_append, true_and, and_true, zz0, true_implies, Nat.reduceLT, Nat.reduceLeDiff, zzI, look_nil, Nat.reduceBEq, implies_true, Nat.reduceSub, S_getD, zz5, and_imp, imp_and, imp_self, and_self, zz19, zz23, F_off24_0, zzB, Nat.zero_add, Nat.reduceAdd, F_ok3, F_ag3, F_sz3, zz8, zzD, zzF, zzE, zz16, Option.some.injEq, exists_eq_left', exists_eq_left, Option.map_some, eq_self, reduceCtorEq, zz21, gr_v, zz34, evS_move, F_off24_1, zz13, pickK_l, pickK_r, F_off24_2, evS_assign, zz6, Nat.reduceEqDiff, ↓reduceIte]
  refine hK0 _ ?_; try clear hK0 K0
  refine awp_keepL [4] ?_
  simp only [zz20, zzI, look_nil, Nat.reduceBEq]
  refine awp_ret ?_
  simp only [zz6, Nat.reduceEqDiff, ↓reduceIte]
  refine done0 (by simp only [resCs, resC]; trivial) ?_ (by simp [flatA, flatAs, flatD]) (by simp [AV.ids, AV.idsL])
  simp only [List.map_cons, List.map_nil, resA, S_getD, Nat.reduceLT, Nat.reduceLeDiff, look_cons, Nat.reduceBEq, cond_true, cond_false, resAll]
  try rfl
theorem ledgerSound_ (l : List PstV) : ACalls Try.prog 8 [psts l] [] (bv true) := by
  refine acalls_S (rs := [.tmp 2]) Try.func8 rfl rfl 41 [(0, .d (psts l))] rfl (by simp) rfl ?_
  refine awp_seq fun K0 hK0 => ?_
  refine awp_plain F_mixed [some 2] rfl ?_
  simp only [List.nil_append, List.cons_append, true_and, and_true, zz0, true_implies, Nat.reduceLT, Nat.reduceLeDiff, zzI, look_nil, Nat.reduceBEq, implies_true, evS_assign, zz6, Nat.reduceEqDiff, ↓reduceIte]
  refine hK0 _ ?_; try clear hK0 K0
  refine awp_keepL [0] ?_
  simp only [zz20, zzI, look_nil, Nat.reduceBEq]
  refine awp_seq fun K0 hK0 => ?_
  refine awp_seq fun K1 hK1 => ?_
  refine awp_plain F_mixed [some 8, some 9] rfl ?_
  simp only [List.nil_append, List.cons_append, true_and, and_true, zz0, true_implies, Nat.reduceLT, Nat.reduceLeDiff, zzI, look_nil, Nat.reduceBEq, implies_true, evS_move, evS_call, evC_value, psts, zz6, Nat.reduceEqDiff, ↓reduceIte]
  refine call_go F_go10 (fun hG => heavy10_ l) (by simp [AV.ids, AV.idsL]) (by simp) ?_
  simp only [List.nil_append, List.cons_append, true_and, and_true, zz0, true_implies, Nat.reduceLT, Nat.reduceLeDiff, zzI, look_nil, Nat.reduceBEq, implies_true, evS_move, evS_call, evC_value, psts, zz6, Nat.reduceEqDiff, ↓reduceIte, atsL, oksG, freeN, AV.ren, AV.renL, addRows, ORow.row, Nat.reduceMul, Nat.reduceAdd, zz9, Option.bind_some, Option.map_some, forall_eq', D.sl.injEq, zz16, Option.some.injEq, exists_eq_left', exists_eq_left, exists_eq', exists_eq, zzD, zz2]
  refine hK1 _ ?_; try clear hK1 K1
  refine awp_keepL [0, 9] ?_
  simp only [zz20, zzI, look_nil, Nat.reduceBEq]
  refine awp_condS _ (by decide) (by simp only [look_cons, Nat.reduceBEq, cond_true, cond_false]; rfl) ?_ ?_
  · intro hb
    clear hb
    refine awp_seq fun K2 hK2 => ?_
    refine awp_plain F_mixed [some 2] rfl ?_
    simp only [List.nil_append, List.cons_append, true_and, and_true, zz0, true_implies, Nat.reduceLT, Nat.reduceLeDiff, zzI, look_nil, Nat.reduceBEq, implies_true, evS_assign, zz6, Nat.reduceEqDiff, ↓reduceIte]
    refine hK2 _ ?_; try clear hK2 K2
    refine awp_keepL [2] ?_
    simp only [zz20, zzI, look_nil, Nat.reduceBEq]
    refine awp_ret ?_
    simp only [zz6, Nat.reduceEqDiff, ↓reduceIte]
    refine done0 (by simp only [resCs, resC]; trivial) ?_ (by simp [flatA, flatAs, flatD]) (by simp [AV.ids, AV.idsL])
    simp only [List.map_cons, List.map_nil, resA, S_getD, Nat.reduceLT, Nat.reduceLeDiff, look_cons, Nat.reduceBEq, cond_true, cond_false, resAll]
    
  · intro hb
    have hf := few_of hb
    clear hb
    have hG := grown_good l
    have hGl := grown_len hf
    have hOk := (ledOk_iff _).2 hG
    have hE : ledE (grownV l) = 0 := (ledE_iff _).2 hG
    refine awp_skip ?_
    simp only [zz6, Nat.reduceEqDiff, ↓reduceIte]
    refine hK0 _ ?_; try clear hK0 K0
    refine awp_keepL [0] ?_
    simp only [zz20, zzI, look_nil, Nat.reduceBEq]
    refine awp_seq fun K0 hK0 => ?_
    refine awp_plain F_mixed [some 11, some 12, some 10, some 13, some 14, some 3, none, some 4] rfl ?_
    simp only [List.nil_append, List.cons_append, true_and, and_true, zz0, true_implies, Nat.reduceLT, Nat.reduceLeDiff, zzI, look_nil, Nat.reduceBEq, implies_true, evS_move, evS_call, evC_value, zz14, zzD, Nat.reduceAdd, Nat.zero_add, zzF, zz32, newRow1, F_zero28, zz16, Option.some.injEq, exists_eq_left', exists_eq_left, Option.map_some, eq_self, reduceCtorEq, and_self, zzB, zzE, zz10, zz18, F_ok28, F_sz28, splice, List.append_nil, zz1, zzG, evS_assign, psts, ledC, legs, zz6, Nat.reduceEqDiff, ↓reduceIte]
    refine call_go F_go15 (fun hG => grownF_ l hf) (by simp [AV.ids, AV.idsL]) (by simp) ?_
    simp only [List.nil_append, List.cons_append, true_and, and_true, zz0, true_implies, Nat.reduceLT, Nat.reduceLeDiff, zzI, look_nil, Nat.reduceBEq, implies_true, evS_move, evS_call, evC_value, zz14, zzD, Nat.reduceAdd, Nat.zero_add, zzF, zz32, newRow1, F_zero28, zz16, Option.some.injEq, exists_eq_left', exists_eq_left, Option.map_some, eq_self, reduceCtorEq, and_self, zzB, zzE, zz10, zz18, F_ok28, F_sz28, splice, List.append_nil, zz1, zzG, evS_assign, psts, ledC, legs, zz6, Nat.reduceEqDiff, ↓reduceIte, atsL, oksG, freeN, AV.ren, AV.renL, addRows, ORow.row, Nat.reduceMul, Nat.reduceAdd, zz9, Option.bind_some, Option.map_some, forall_eq', D.sl.injEq, S_mem, Option.some.injEq, exists_eq_left', exists_eq_left, exists_eq', exists_eq, List.length_cons, zz2]
    refine hK0 _ ?_; try clear hK0 K0
    refine awp_keepL [3] ?_
    simp only [zz20, zzI, look_nil, Nat.reduceBEq]
    refine awp_seq fun K0 hK0 => ?_
    refine awp_seq fun K1 hK1 => ?_
    refine awp_plain F_mixed [some 15, some 16, some 17, some 18, some 19, some 20, some 21, some 22] rfl ?_
    simp only [List.nil_append, List.cons_append, true_and, and_true, zz0, true_implies, Nat.reduceLT, Nat.reduceLeDiff, zzI, look_nil, Nat.reduceBEq, implies_true, Nat.reduceSub, S_getD, zz5, and_imp, imp_and, imp_self, and_self, F_ok28, F_ag28, F_sz28, zz8, zz23, zzD, Nat.reduceAdd, Nat.zero_add, zzF, zzB, zzE, zz16, Option.some.injEq, exists_eq_left', exists_eq_left, Option.map_some, eq_self, reduceCtorEq, evS_call, evC_value, zz29, gr_v, zz30, evS_move, zz21, zz28, zz13, pickK_l, pickK_r, ledC, legs, D.agg.injEq, hOk, hE, zz6, Nat.reduceEqDiff, ↓reduceIte]
    refine call_go F_go22 (fun hG => rLed_ (grownV l) (by omega)) (by simp [AV.ids, AV.idsL]) (by simp) ?_
    simp only [List.nil_append, List.cons_append, true_and, and_true, zz0, true_implies, Nat.reduceLT, Nat.reduceLeDiff, zzI, look_nil, Nat.reduceBEq, implies_true, Nat.reduceSub, S_getD, zz5, and_imp, imp_and, imp_self, and_self, F_ok28, F_ag28, F_sz28, zz8, zz23, zzD, Nat.reduceAdd, Nat.zero_add, zzF, zzB, zzE, zz16, Option.some.injEq, exists_eq_left', exists_eq_left, Option.map_some, eq_self, reduceCtorEq, evS_call, evC_value, zz29, gr_v, zz30, evS_move, zz21, zz28, zz13, pickK_l, pickK_r, ledC, legs, D.agg.injEq, hOk, hE, zz6, Nat.reduceEqDiff, ↓reduceIte, atsL, oksG, freeN, AV.ren, AV.renL, addRows, ORow.row, Nat.reduceMul, Nat.reduceAdd, zz9, Option.bind_some, Option.map_some, forall_eq', D.sl.injEq, S_mem, Option.some.injEq, exists_eq_left', exists_eq_left, exists_eq', exists_eq, List.length_cons, zz2]
    refine call_go F_go23 (fun hG => lchkS (grownV l) (by omega)) (by simp [AV.ids, AV.idsL]) (by simp) ?_
    simp only [List.nil_append, List.cons_append, true_and, and_true, zz0, true_implies, Nat.reduceLT, Nat.reduceLeDiff, zzI, look_nil, Nat.reduceBEq, implies_true, Nat.reduceSub, S_getD, zz5, and_imp, imp_and, imp_self, and_self, F_ok28, F_ag28, F_sz28, zz8, zz23, zzD, Nat.reduceAdd, Nat.zero_add, zzF, zzB, zzE, zz16, Option.some.injEq, exists_eq_left', exists_eq_left, Option.map_some, eq_self, reduceCtorEq, evS_call, evC_value, zz29, gr_v, zz30, evS_move, zz21, zz28, zz13, pickK_l, pickK_r, ledC, legs, D.agg.injEq, hOk, hE, zz6, Nat.reduceEqDiff, ↓reduceIte, atsL, oksG, freeN, AV.ren, AV.renL, addRows, ORow.row, Nat.reduceMul, Nat.reduceAdd, zz9, Option.bind_some, Option.map_some, forall_eq', D.sl.injEq, S_mem, Option.some.injEq, exists_eq_left', exists_eq_left, exists_eq', exists_eq, List.length_cons, zz2]
    refine hK1 _ ?_; try clear hK1 K1
    refine awp_keepL [3, 22] ?_
    simp only [zz20, zzI, look_nil, Nat.reduceBEq]
    refine awp_condS _ (by decide) (by simp only [look_cons, Nat.reduceBEq, cond_true, cond_false]; rfl) ?_ ?_
    · intro hb
      first | cases hb | simp at hb
    · intro hb
      clear hb
      refine awp_skip ?_
      simp only [zz6, Nat.reduceEqDiff, ↓reduceIte]
      refine hK0 _ ?_; try clear hK0 K0
      refine awp_keepL [3] ?_
      simp only [zz20, zzI, look_nil, Nat.reduceBEq]
      refine awp_seq fun K0 hK0 => ?_
      refine awp_seq fun K1 hK1 => ?_
      refine awp_plain F_mixed [some 5] rfl ?_
      simp only [List.nil_append, List.cons_append, true_and, and_true, zz0, true_implies, Nat.reduceLT, Nat.reduceLeDiff, zzI, look_nil, Nat.reduceBEq, implies_true, evS_assign, zz6, Nat.reduceEqDiff, ↓reduceIte]
      refine hK1 _ ?_; try clear hK1 K1
      refine awp_keepL [3, 5] ?_
      simp only [zz20, zzI, look_nil, Nat.reduceBEq]
      refine awp_block ?_
      refine awp_loop (fun m s => ∃ (c : Nat), (c ≤ 3) ∧ m = 3 - c ∧ s = S 41 [(3, .ptr 3 0 0), (5, .d (iv ((c : Nat) : Int)))] [(3, (⟨True, 28, 2, true, false, 3, [[.d (iv (grownV l).last), .d (.sl 4 ((grownV l).bal.map legC))]]⟩ : ARow))]) (3) _ (le_SK id [] rfl (l' := [(3, .ptr 3 0 0), (5, .d (iv ((0 : Nat) : Int)))]) (m' := [(3, (⟨True, 28, 2, true, false, 3, [[.d (iv (grownV l).last), .d (.sl 4 ((grownV l).bal.map legC))]]⟩ : ARow))]) ?_ ?_ ?_ ?_) ⟨0, by omega, rfl, rfl⟩ ?_
      · simp only [leV, look_cons, Nat.reduceBEq, cond_true, cond_false]; exact ⟨(by first | exact VLe.still rfl | exact VLe.nil_ (by decide) | exact VLe.nild_ | exact VLe.refl _ | exact VLe.ptrE (by simp) (by rfl) | exact VLe.refE (by simp) (by rfl) (by first | rfl | simp | (simp; omega)) | exact VLe.dE (by first | rfl | simp)), (by first | exact VLe.still rfl | exact VLe.nil_ (by decide) | exact VLe.nild_ | exact VLe.refl _ | exact VLe.ptrE (by simp) (by rfl) | exact VLe.refE (by simp) (by rfl) (by first | rfl | simp | (simp; omega)) | exact VLe.dE (by first | rfl | simp)), trivial⟩
      · exact ⟨fun _ => ⟨_, rfl, (by first | exact RowLe.data_ (by first | rfl | simp) | exact RowLe.uq2 (by first | rfl | simp) (by simp) ids_data | exact RowLe.still (by simp [AV.idsL, AV.ids]) | exact RowLe.same (by simp) (by simp [AV.idsL, AV.ids]))⟩, fun h => by simp at h, trivial⟩
      · simp [wfV, AV.ids, AV.idsL, lookR, grow]
      · exact ⟨by simp [AV.idsL, AV.ids, lookR], trivial⟩
      rintro m s ⟨c, hc3, rfl, rfl⟩
      refine awp_seq fun K2 hK2 => ?_
      refine awp_seq fun K3 hK3 => ?_
      refine awp_plain F_mixed [some 23, some 24] rfl ?_
      simp only [List.nil_append, List.cons_append, true_and, and_true, zz0, true_implies, Nat.reduceLT, Nat.reduceLeDiff, zzI, look_nil, Nat.reduceBEq, implies_true, evS_move, zz21, gr_v, zz22, zz6, Nat.reduceEqDiff, ↓reduceIte]
      refine hK3 _ ?_; try clear hK3 K3
      refine awp_keepL [3, 5, 24] ?_
      simp only [zz20, zzI, look_nil, Nat.reduceBEq]
      refine awp_condS _ (by decide) (by simp only [look_cons, Nat.reduceBEq, cond_true, cond_false]; rfl) ?_ ?_
      · intro hb
        have hlt : c < 3 := by have := of_decide_eq_true hb; omega
        clear hb
        have hwc : IntKind.wrap .i64 ((c : Int) + 1) = ((c + 1 : Nat) : Int) := by rw [wrapI (by omega) (by omega)]; omega
        obtain ⟨hs1, hs2⟩ := sound_law hG (c := (c : Int)) (by omega)
        refine awp_skip ?_
        simp only [zz6, Nat.reduceEqDiff, ↓reduceIte]
        refine hK2 _ ?_; try clear hK2 K2
        refine awp_keepL [3, 5] ?_
        simp only [zz20, zzI, look_nil, Nat.reduceBEq]
        refine awp_seq fun K2 hK2 => ?_
        refine awp_block ?_
        refine awp_seq fun K3 hK3 => ?_
        refine awp_plain F_mixed [some 28, some 29, some 30, some 31, some 27, some 32, some 33, some 6, some 7] rfl ?_
        simp only [List.nil_append, List.cons_append, true_and, and_true, zz0, true_implies, Nat.reduceLT, Nat.reduceLeDiff, zzI, look_nil, Nat.reduceBEq, implies_true, F_ok28, F_ag28, F_sz28, zz8, zz23, zzD, Nat.reduceAdd, Nat.zero_add, zzF, zzB, zzE, zz16, Option.some.injEq, exists_eq_left', exists_eq_left, Option.map_some, eq_self, reduceCtorEq, and_self, evS_move, F_sl50, F_zero3, F_sz3, zz3, newRow1, zz1, zzG, maxLen_le, Nat.reduceMul, evS_call, evC_value, zz14, evS_assign, ledC, legs, ints, D.agg.injEq, List.map_cons, D.sl.injEq, zz6, Nat.reduceEqDiff, ↓reduceIte]
        refine call_go F_go27 (fun hG => tot10S (grownV l) (c : Int) [1, 2, 3, 4, 5, 6] (by omega) (by simp)) (by simp [AV.ids, AV.idsL]) (by simp) ?_
        simp only [List.nil_append, List.cons_append, true_and, and_true, zz0, true_implies, Nat.reduceLT, Nat.reduceLeDiff, zzI, look_nil, Nat.reduceBEq, implies_true, F_ok28, F_ag28, F_sz28, zz8, zz23, zzD, Nat.reduceAdd, Nat.zero_add, zzF, zzB, zzE, zz16, Option.some.injEq, exists_eq_left', exists_eq_left, Option.map_some, eq_self, reduceCtorEq, and_self, evS_move, F_sl50, F_zero3, F_sz3, zz3, newRow1, zz1, zzG, maxLen_le, Nat.reduceMul, evS_call, evC_value, zz14, evS_assign, ledC, legs, ints, D.agg.injEq, List.map_cons, D.sl.injEq, zz6, Nat.reduceEqDiff, ↓reduceIte, atsL, oksG, freeN, AV.ren, AV.renL, addRows, ORow.row, Nat.reduceMul, Nat.reduceAdd, zz9, Option.bind_some, Option.map_some, forall_eq', D.sl.injEq, S_mem, Option.some.injEq, exists_eq_left', exists_eq_left, exists_eq', exists_eq, List.length_cons, zz2]
        refine hK3 _ ?_; try clear hK3 K3
        refine awp_keepL [3, 5, 6, 7] ?_
        simp only [zz20, zzI, look_nil, Nat.reduceBEq]
        refine awp_seq fun K3 hK3 => ?_
        refine awp_plain F_mixed [some 34, some 35, some 36, some 37, some 38, some 39] rfl ?_
        simp only [List.nil_append, List.cons_append, true_and, and_true, zz0, true_implies, Nat.reduceLT, Nat.reduceLeDiff, zzI, look_nil, Nat.reduceBEq, implies_true, Nat.reduceSub, S_getD, zz5, and_imp, imp_and, imp_self, and_self, evS_move, zz21, gr_v, zz28, zz13, pickK_l, pickK_r, hs1, hs2, zz6, Nat.reduceEqDiff, ↓reduceIte]
        refine hK3 _ ?_; try clear hK3 K3
        refine awp_keepL [3, 5, 39] ?_
        simp only [zz20, zzI, look_nil, Nat.reduceBEq]
        refine awp_condS _ (by decide) (by simp only [look_cons, Nat.reduceBEq, cond_true, cond_false]; rfl) ?_ ?_
        · intro hb
          first | cases hb | simp at hb
        · intro hb
          clear hb
          refine awp_skip ?_
          simp only [zz6, Nat.reduceEqDiff, ↓reduceIte]
          refine hK2 _ ?_; try clear hK2 K2
          refine awp_keepL [3, 5] ?_
          simp only [zz20, zzI, look_nil, Nat.reduceBEq]
          refine awp_plain F_mixed [some 25, some 26, some 5] rfl ?_
          simp only [List.nil_append, List.cons_append, true_and, and_true, zz0, true_implies, Nat.reduceLT, Nat.reduceLeDiff, zzI, look_nil, Nat.reduceBEq, implies_true, evS_move, zz21, gr_v, zz26, evS_assign, hwc, zz6, Nat.reduceEqDiff, ↓reduceIte]
          refine ⟨3 - (c + 1), _, by omega, le_SK id [] rfl (l' := [(3, .ptr 3 0 0), (5, .d (iv (((c + 1) : Nat) : Int)))]) (m' := [(3, (⟨True, 28, 2, true, false, 3, [[.d (iv (grownV l).last), .d (.sl 4 ((grownV l).bal.map legC))]]⟩ : ARow))]) ?_ ?_ ?_ ?_, (c + 1), by omega, rfl, rfl⟩
          · simp only [leV, look_cons, Nat.reduceBEq, cond_true, cond_false, hwc]; exact ⟨(by first | exact VLe.still rfl | exact VLe.nil_ (by decide) | exact VLe.nild_ | exact VLe.refl _ | exact VLe.ptrE (by simp) (by rfl) | exact VLe.refE (by simp) (by rfl) (by first | rfl | simp | (simp; omega)) | exact VLe.dE (by first | rfl | simp)), (by first | exact VLe.still rfl | exact VLe.nil_ (by decide) | exact VLe.nild_ | exact VLe.refl _ | exact VLe.ptrE (by simp) (by rfl) | exact VLe.refE (by simp) (by rfl) (by first | rfl | simp | (simp; omega)) | exact VLe.dE (by first | rfl | simp)), trivial⟩
          · exact ⟨fun _ => ⟨_, rfl, (by first | exact RowLe.data_ (by first | rfl | simp) | exact RowLe.uq2 (by first | rfl | simp) (by simp) ids_data | exact RowLe.still (by simp [AV.idsL, AV.ids]) | exact RowLe.same (by simp) (by simp [AV.idsL, AV.ids]))⟩, fun h => by simp at h, trivial⟩
          · simp [wfV, AV.ids, AV.idsL, lookR, grow]
          · exact ⟨by simp [AV.idsL, AV.ids, lookR], trivial⟩
      · intro hb
        clear hb
        refine awp_exit ?_
        simp only [zz6, Nat.reduceEqDiff, ↓reduceIte]
        refine hK0 _ ?_; try clear hK0 K0
        refine awp_keepL [] ?_
        simp only [zz20, zzI, look_nil, Nat.reduceBEq]
        refine awp_seq fun K0 hK0 => ?_
        refine awp_plain F_mixed [some 40, some 2] rfl ?_
        simp only [List.nil_append, List.cons_append, true_and, and_true, zz0, true_implies, Nat.reduceLT, Nat.reduceLeDiff, zzI, look_nil, Nat.reduceBEq, implies_true, evS_call, evC_value, evS_assign, zz6, Nat.reduceEqDiff, ↓reduceIte]
        refine call_go F_go14 (fun hG => wakes10_) (by simp [AV.ids, AV.idsL]) (by simp) ?_
        simp only [List.nil_append, List.cons_append, true_and, and_true, zz0, true_implies, Nat.reduceLT, Nat.reduceLeDiff, zzI, look_nil, Nat.reduceBEq, implies_true, evS_call, evC_value, evS_assign, zz6, Nat.reduceEqDiff, ↓reduceIte, atsL, oksG, freeN, AV.ren, AV.renL, addRows, ORow.row, Nat.reduceMul, Nat.reduceAdd, zz9, Option.bind_some, Option.map_some, forall_eq', D.sl.injEq, zz16, Option.some.injEq, exists_eq_left', exists_eq_left, exists_eq', exists_eq, zzD, zz2]
        refine hK0 _ ?_; try clear hK0 K0
        refine awp_keepL [2] ?_
        simp only [zz20, zzI, look_nil, Nat.reduceBEq]
        refine awp_ret ?_
        simp only [zz6, Nat.reduceEqDiff, ↓reduceIte]
        refine done0 (by simp only [resCs, resC]; trivial) ?_ (by simp [flatA, flatAs, flatD]) (by simp [AV.ids, AV.idsL])
        simp only [List.map_cons, List.map_nil, resA, S_getD, Nat.reduceLT, Nat.reduceLeDiff, look_cons, Nat.reduceBEq, cond_true, cond_false, resAll]
        
set_option maxRecDepth 100000 in
set_option maxHeartbeats 4000000 in
theorem ledgerOnce_ (l : List PstV) (a : AcV) : ACalls Try.prog 3 [psts l, .agg (acC a)] [] (bv true) := by
  refine acalls_S (rs := [.tmp 4]) Try.func3 rfl rfl 108 [(0, .d (psts l)), (1, .d (.agg (acC a)))] rfl (by simp) rfl ?_
  refine awp_seq fun K0 hK0 => ?_
  refine awp_plain F_mixed [some 3, some 4] rfl ?_
  simp only [List.nil_append, List.cons_append, true_and, and_true, zz0, true_implies, Nat.reduceLT, Nat.reduceLeDiff, zzI, look_nil, Nat.reduceBEq, implies_true, zz35, newRow1, zz1, zzG, zzD, zz16, Option.some.injEq, exists_eq_left', exists_eq_left, Option.map_some, eq_self, reduceCtorEq, and_self, Nat.reduceAdd, Nat.zero_add, zzF, zzB, zzE, evS_assign, acC, zz6, Nat.reduceEqDiff, ↓reduceIte]
  refine hK0 _ ?_; try clear hK0 K0
  refine awp_keepL [0, 3] ?_
  simp only [zz20, zzI, look_nil, Nat.reduceBEq]
  refine awp_seq fun K0 hK0 => ?_
  refine awp_seq fun K1 hK1 => ?_
  refine awp_plain F_mixed [some 12, some 13] rfl ?_
  simp only [List.nil_append, List.cons_append, true_and, and_true, zz0, true_implies, Nat.reduceLT, Nat.reduceLeDiff, zzI, look_nil, Nat.reduceBEq, implies_true, evS_move, evS_call, evC_value, psts, zz6, Nat.reduceEqDiff, ↓reduceIte]
  refine call_go F_go10 (fun hG => heavy10_ l) (by simp [AV.ids, AV.idsL]) (by simp) ?_
  simp only [List.nil_append, List.cons_append, true_and, and_true, zz0, true_implies, Nat.reduceLT, Nat.reduceLeDiff, zzI, look_nil, Nat.reduceBEq, implies_true, evS_move, evS_call, evC_value, psts, zz6, Nat.reduceEqDiff, ↓reduceIte, atsL, oksG, freeN, AV.ren, AV.renL, addRows, ORow.row, Nat.reduceMul, Nat.reduceAdd, zz9, Option.bind_some, Option.map_some, forall_eq', D.sl.injEq, zz16, Option.some.injEq, exists_eq_left', exists_eq_left, exists_eq', exists_eq, zzD, zz2]
  refine hK1 _ ?_; try clear hK1 K1
  refine awp_keepL [0, 3, 13] ?_
  simp only [zz20, zzI, look_nil, Nat.reduceBEq]
  refine awp_condS _ (by decide) (by simp only [look_cons, Nat.reduceBEq, cond_true, cond_false]; rfl) ?_ ?_
  · intro hb
    clear hb
    refine awp_seq fun K2 hK2 => ?_
    refine awp_plain F_mixed [some 4] rfl ?_
    simp only [List.nil_append, List.cons_append, true_and, and_true, zz0, true_implies, Nat.reduceLT, Nat.reduceLeDiff, zzI, look_nil, Nat.reduceBEq, implies_true, evS_assign, zz6, Nat.reduceEqDiff, ↓reduceIte]
    refine hK2 _ ?_; try clear hK2 K2
    refine awp_keepL [4] ?_
    simp only [zz20, zzI, look_nil, Nat.reduceBEq]
    refine awp_ret ?_
    simp only [zz6, Nat.reduceEqDiff, ↓reduceIte]
    refine done0 (by simp only [resCs, resC]; trivial) ?_ (by simp [flatA, flatAs, flatD]) (by simp [AV.ids, AV.idsL])
    simp only [List.map_cons, List.map_nil, resA, S_getD, Nat.reduceLT, Nat.reduceLeDiff, look_cons, Nat.reduceBEq, cond_true, cond_false, resAll]
    
  · intro hb
    have h := few_of hb
    clear hb
    refine awp_skip ?_
    simp only [zz6, Nat.reduceEqDiff, ↓reduceIte]
    refine hK0 _ ?_; try clear hK0 K0
    refine awp_keepL [0, 3] ?_
    simp only [zz20, zzI, look_nil, Nat.reduceBEq]
    refine awp_seq fun K0 hK0 => ?_
    refine awp_plain F_mixed [some 14, some 5, none] rfl ?_
    simp only [List.nil_append, List.cons_append, true_and, and_true, zz0, true_implies, Nat.reduceLT, Nat.reduceLeDiff, zzI, look_nil, Nat.reduceBEq, implies_true, F_zero28, F_bld28, zz7, splice, Option.getD_some, List.append_nil, zz1, zzG, zzD, zz16, Option.some.injEq, exists_eq_left', exists_eq_left, Option.map_some, eq_self, reduceCtorEq, and_self, Nat.reduceAdd, Nat.zero_add, zzF, zzB, zzE, zz10, zz32, newRow1, zz18, F_ok28, F_sz28, zz6, Nat.reduceEqDiff, ↓reduceIte]
    refine hK0 _ ?_; try clear hK0 K0
    refine awp_keepL [0, 3, 5] ?_
    simp only [zz20, zzI, look_nil, Nat.reduceBEq]
    refine awp_seq fun K0 hK0 => ?_
    refine awp_plain F_mixed [some 6] rfl ?_
    simp only [List.nil_append, List.cons_append, true_and, and_true, zz0, true_implies, Nat.reduceLT, Nat.reduceLeDiff, zzI, look_nil, Nat.reduceBEq, implies_true, evS_assign, zz6, Nat.reduceEqDiff, ↓reduceIte]
    refine hK0 _ ?_; try clear hK0 K0
    refine awp_keepL [0, 3, 5, 6] ?_
    simp only [zz20, zzI, look_nil, Nat.reduceBEq]
    refine awp_seq fun K0 hK0 => ?_
    refine awp_plain F_mixed [some 7] rfl ?_
    simp only [List.nil_append, List.cons_append, true_and, and_true, zz0, true_implies, Nat.reduceLT, Nat.reduceLeDiff, zzI, look_nil, Nat.reduceBEq, implies_true, evS_assign, zz6, Nat.reduceEqDiff, ↓reduceIte]
    refine hK0 _ ?_; try clear hK0 K0
    refine awp_keepL [0, 3, 5, 6, 7] ?_
    simp only [zz20, zzI, look_nil, Nat.reduceBEq]
    refine awp_seq fun K0 hK0 => ?_
    refine awp_seq fun K1 hK1 => ?_
    refine awp_plain F_mixed [some 8] rfl ?_
    simp only [List.nil_append, List.cons_append, true_and, and_true, zz0, true_implies, Nat.reduceLT, Nat.reduceLeDiff, zzI, look_nil, Nat.reduceBEq, implies_true, evS_assign, zz6, Nat.reduceEqDiff, ↓reduceIte]
    refine hK1 _ ?_; try clear hK1 K1
    refine awp_keepL [0, 3, 5, 6, 7, 8] ?_
    simp only [zz20, zzI, look_nil, Nat.reduceBEq]
    refine awp_block ?_
    refine awp_loop (fun m s => ∃ (pre : List PstV) (post : List PstV), (l = pre ++ post) ∧ (pre.length ≤ 40) ∧ m = post.length ∧ s = S 108 [(0, .d (psts l)), (3, .ptr 3 0 0), (5, .ptr 5 0 0), (6, .d (iv (sumA a (growF pre).bal))), (7, .d (iv (growF pre).last)), (8, .d (iv pre.length))] [(3, (⟨True, 24, 3, true, false, 3, [[.d (iv a.kind), .d (iv a.who), .d (iv a.cur)]]⟩ : ARow)), (5, (⟨True, 28, 2, true, false, 5, [[.d (iv (growF pre).last), .d (.sl 4 ((growF pre).bal.map legC))]]⟩ : ARow))]) (l.length) _ (le_SK id [] rfl (l' := [(0, .d (psts l)), (3, .ptr 3 0 0), (5, .ptr 5 0 0), (6, .d (iv (sumA a (growF []).bal))), (7, .d (iv (growF []).last)), (8, .d (iv [].length))]) (m' := [(3, (⟨True, 24, 3, true, false, 3, [[.d (iv a.kind), .d (iv a.who), .d (iv a.cur)]]⟩ : ARow)), (5, (⟨True, 28, 2, true, false, 5, [[.d (iv (growF []).last), .d (.sl 4 ((growF []).bal.map legC))]]⟩ : ARow))]) ?_ ?_ ?_ ?_) ⟨[], l, rfl, by simp, rfl, rfl⟩ ?_
    · simp only [leV, look_cons, Nat.reduceBEq, cond_true, cond_false]; exact ⟨(by first | exact VLe.still rfl | exact VLe.nil_ (by decide) | exact VLe.nild_ | exact VLe.refl _ | exact VLe.ptrE (by simp) (by rfl) | exact VLe.refE (by simp) (by rfl) (by first | rfl | simp | (simp; omega)) | exact VLe.dE (by first | rfl | simp)), (by first | exact VLe.still rfl | exact VLe.nil_ (by decide) | exact VLe.nild_ | exact VLe.refl _ | exact VLe.ptrE (by simp) (by rfl) | exact VLe.refE (by simp) (by rfl) (by first | rfl | simp | (simp; omega)) | exact VLe.dE (by first | rfl | simp)), (by first | exact VLe.still rfl | exact VLe.nil_ (by decide) | exact VLe.nild_ | exact VLe.refl _ | exact VLe.ptrE (by simp) (by rfl) | exact VLe.refE (by simp) (by rfl) (by first | rfl | simp | (simp; omega)) | exact VLe.dE (by first | rfl | simp)), VLe.dE rfl, VLe.dE rfl, (by first | exact VLe.still rfl | exact VLe.nil_ (by decide) | exact VLe.nild_ | exact VLe.refl _ | exact VLe.ptrE (by simp) (by rfl) | exact VLe.refE (by simp) (by rfl) (by first | rfl | simp | (simp; omega)) | exact VLe.dE (by first | rfl | simp)), trivial⟩
    · exact ⟨fun _ => ⟨_, rfl, (by first | exact RowLe.data_ (by first | rfl | simp) | exact RowLe.uq2 (by first | rfl | simp) (by simp) ids_data | exact RowLe.still (by simp [AV.idsL, AV.ids]) | exact RowLe.same (by simp) (by simp [AV.idsL, AV.ids]))⟩, fun h => by simp at h, fun _ => ⟨_, rfl, RowLe.cells (VLess.one_ (VLes.cons_ (VLe.dE rfl) (VLes.cons_ VLe.nild_ VLes.nil_)))⟩, fun h => by simp at h, trivial⟩
    · simp [wfV, AV.ids, AV.idsL, lookR, grow]
    · exact ⟨by simp [AV.idsL, AV.ids, lookR], by simp [AV.idsL, AV.ids, lookR], trivial⟩
    rintro m s ⟨pre, post, hsp, h40, rfl, rfl⟩
    have hspl := congrArg List.length hsp
    simp only [List.length_append] at hspl
    refine awp_seq fun K2 hK2 => ?_
    refine awp_seq fun K3 hK3 => ?_
    refine awp_plain F_mixed [some 15, some 16, some 17, some 18, some 19, some 20, some 21, some 22] rfl ?_
    simp only [List.nil_append, List.cons_append, true_and, and_true, zz0, true_implies, Nat.reduceLT, Nat.reduceLeDiff, zzI, look_nil, Nat.reduceBEq, implies_true, Nat.reduceSub, S_getD, zz5, and_imp, imp_and, imp_self, and_self, evS_move, evS_call, zz12, F_sl22, Option.isSome_some, zz21, gr_v, zz22, zz13, pickK_l, pickK_r, psts, len_map, zz6, Nat.reduceEqDiff, ↓reduceIte]
    refine hK3 _ ?_; try clear hK3 K3
    refine awp_keepL [0, 3, 5, 6, 7, 8, 22] ?_
    simp only [zz20, zzI, look_nil, Nat.reduceBEq]
    refine awp_condS _ (by decide) (by simp only [look_cons, Nat.reduceBEq, cond_true, cond_false]; rfl) ?_ ?_
    · intro hb
      have hb2 := hb
      clear hb
      simp only [Bool.and_eq_true, decide_eq_true_eq] at hb2
      obtain ⟨hb1, h41⟩ := hb2
      have hb := decide_eq_true hb1
      obtain ⟨x, post2, rfl⟩ : ∃ x t, post = x :: t := by
        cases post with
        | nil => have := of_decide_eq_true hb; simp at hspl; omega
        | cons x t => exact ⟨x, t, rfl⟩
      clear hb
      simp only [List.length_cons] at hspl
      have gx : (l.map pstC).getD pre.length [] = [iv x.id, legs x.legs] := by
        rw [hsp, List.map_append]; exact gd_mid' (A := pre.map pstC) _ _ (by simp)
      have bx := ltI (show pre.length < l.length by omega)
      have hwx : IntKind.wrap .i64 ((pre.length : Int) + 1) = ((pre ++ [x]).length : Int) := by rw [wrapI (by omega) (by omega)]; simp
      have hxl := h.2 x (by rw [hsp]; simp)
      have hgl : (growF pre).bal.length ≤ 8000 := by
        have := growF_len (l := pre) (s := ⟨0, []⟩) fun p hp => h.2 p (by rw [hsp]; simp [hp])
        simp only [List.length_nil] at this
        simp only [growF]; omega
      have hgc := growC_bd ⟨0, []⟩ pre
      have hGd := growF_good (l := pre) good0
      have hGd : Good (growF pre) := hGd
      have hpvl := postV_len (growF pre) x.id x.legs
      refine awp_skip ?_
      simp only [zz6, Nat.reduceEqDiff, ↓reduceIte]
      refine hK2 _ ?_; try clear hK2 K2
      refine awp_keepL [0, 3, 5, 6, 7, 8] ?_
      simp only [zz20, zzI, look_nil, Nat.reduceBEq]
      refine awp_seq fun K2 hK2 => ?_
      refine awp_block ?_
      refine awp_seq fun K3 hK3 => ?_
      refine awp_draw F_mixed [some 26, some 27, some 28, some 29, some 30, some 31, some 32, some 33, some 34, some 35, some 36, some 37, some 25, some 38, some 39, some 9, none, some 10] rfl (by kernel_rfl) ?_
      simp only [List.nil_append, List.cons_append, true_and, and_true, zz0, true_implies, Nat.reduceLT, Nat.reduceLeDiff, zzI, look_nil, Nat.reduceBEq, implies_true, F_ok28, F_ag28, F_sz28, zz8, zz23, zzD, Nat.reduceAdd, Nat.zero_add, zzF, zzB, zzE, zz16, Option.some.injEq, exists_eq_left', exists_eq_left, Option.map_some, eq_self, reduceCtorEq, and_self, evS_move, evS_indexAddr, zz24, F_sl22, F_sz34, zz19, F_off34_0, F_ok3, F_ag3, F_sz3, F_off34_1, F_ok32, F_ag32, F_sz32, evS_call, evC_value, zz14, zz32, newRow1, F_zero28, zz10, zz18, splice, List.append_nil, zz1, zzG, evS_assign, psts, legs, ledC, gx, bx, hwx, len_map, ge0, Int.toNat_natCast, D.agg.injEq, zz6, Nat.reduceEqDiff, ↓reduceIte]
      refine call_go F_go11 (fun hG => PostF (growF pre) x.id x.legs (by omega) (by omega)) (by simp [AV.ids, AV.idsL]) (by simp) ?_
      simp only [List.nil_append, List.cons_append, true_and, and_true, zz0, true_implies, Nat.reduceLT, Nat.reduceLeDiff, zzI, look_nil, Nat.reduceBEq, implies_true, F_ok28, F_ag28, F_sz28, zz8, zz23, zzD, Nat.reduceAdd, Nat.zero_add, zzF, zzB, zzE, zz16, Option.some.injEq, exists_eq_left', exists_eq_left, Option.map_some, eq_self, reduceCtorEq, and_self, evS_move, evS_indexAddr, zz24, F_sl22, F_sz34, zz19, F_off34_0, F_ok3, F_ag3, F_sz3, F_off34_1, F_ok32, F_ag32, F_sz32, evS_call, evC_value, zz14, zz32, newRow1, F_zero28, zz10, zz18, splice, List.append_nil, zz1, zzG, evS_assign, psts, legs, ledC, gx, bx, hwx, len_map, ge0, Int.toNat_natCast, D.agg.injEq, zz6, Nat.reduceEqDiff, ↓reduceIte, atsL, oksG, freeN, AV.ren, AV.renL, addRows, ORow.row, Nat.reduceMul, Nat.reduceAdd, zz9, Option.bind_some, Option.map_some, forall_eq', D.sl.injEq, S_mem, Option.some.injEq, exists_eq_left', exists_eq_left, exists_eq', exists_eq, List.length_cons, zz2]
      refine hK3 _ ?_; try clear hK3 K3
      refine awp_keepL [0, 3, 5, 6, 7, 8, 9, 10] ?_
      simp only [zz20, zzI, look_nil, Nat.reduceBEq]
      refine awp_seq fun K3 hK3 => ?_
      refine awp_seq fun K4 hK4 => ?_
      refine awp_plain F_mixed [some 40, some 41] rfl ?_
      simp only [List.nil_append, List.cons_append, true_and, and_true, zz0, true_implies, Nat.reduceLT, Nat.reduceLeDiff, zzI, look_nil, Nat.reduceBEq, implies_true, evS_move, zz21, gr_v, zz28, zz6, Nat.reduceEqDiff, ↓reduceIte]
      refine hK4 _ ?_; try clear hK4 K4
      refine awp_keepL [0, 3, 5, 6, 7, 8, 9, 41] ?_
      simp only [zz20, zzI, look_nil, Nat.reduceBEq]
      refine awp_condS _ (by decide) (by simp only [look_cons, Nat.reduceBEq, cond_true, cond_false]; rfl) ?_ ?_
      · intro hb
        have he : postE (growF pre) x.id x.legs ≠ 0 := by simpa using hb
        clear hb
        have hev := post_no he
        have hgr : growF (pre ++ [x]) = growF pre := by rw [growF_snoc, grow1, show (postE (growF pre) x.id x.legs == 0) = false by simpa using he]; rfl
        refine awp_seq fun K5 hK5 => ?_
        refine awp_seq fun K6 hK6 => ?_
        refine awp_plain F_mixed [some 42, some 43, some 44, some 45, some 46, some 47, some 48, some 49, some 50] rfl ?_
        simp only [List.nil_append, List.cons_append, true_and, and_true, zz0, true_implies, Nat.reduceLT, Nat.reduceLeDiff, zzI, look_nil, Nat.reduceBEq, implies_true, Nat.reduceSub, S_getD, zz5, and_imp, imp_and, imp_self, and_self, zz19, zz23, F_off28_0, zzB, Nat.zero_add, Nat.reduceAdd, F_ok3, F_ag3, F_sz3, zz8, zzD, zzF, zzE, zz16, Option.some.injEq, exists_eq_left', exists_eq_left, Option.map_some, eq_self, reduceCtorEq, zz21, gr_v, zz28, evS_move, F_off28_1, F_ok26, F_ag26, F_sz26, evS_call, zz12, F_sl26, Option.isSome_some, zz25, zz13, pickK_l, pickK_r, hev, legs, len_map, List.map_nil, zz6, Nat.reduceEqDiff, ↓reduceIte]
        refine hK6 _ ?_; try clear hK6 K6
        refine awp_keepL [0, 3, 5, 6, 7, 8, 50] ?_
        simp only [zz20, zzI, look_nil, Nat.reduceBEq]
        refine awp_condS _ (by decide) (by simp only [look_cons, Nat.reduceBEq, cond_true, cond_false]; rfl) ?_ ?_
        · intro hb
          first | cases hb | simp at hb
        · intro hb
          clear hb
          refine awp_skip ?_
          simp only [zz6, Nat.reduceEqDiff, ↓reduceIte]
          refine hK5 _ ?_; try clear hK5 K5
          refine awp_keepL [0, 3, 5, 6, 7, 8] ?_
          simp only [zz20, zzI, look_nil, Nat.reduceBEq]
          refine awp_exit ?_
          simp only [zz6, Nat.reduceEqDiff, ↓reduceIte]
          refine hK2 _ ?_; try clear hK2 K2
          refine awp_keepL [0, 3, 5, 6, 7, 8] ?_
          simp only [zz20, zzI, look_nil, Nat.reduceBEq]
          refine awp_plain F_mixed [some 23, some 24, some 8] rfl ?_
          simp only [List.nil_append, List.cons_append, true_and, and_true, zz0, true_implies, Nat.reduceLT, Nat.reduceLeDiff, zzI, look_nil, Nat.reduceBEq, implies_true, evS_move, zz21, gr_v, zz26, evS_assign, hwx, zz6, Nat.reduceEqDiff, ↓reduceIte]
          refine ⟨post2.length, _, by simp, le_SK id [] rfl (l' := [(0, .d (psts l)), (3, .ptr 3 0 0), (5, .ptr 5 0 0), (6, .d (iv (sumA a (growF (pre ++ [x])).bal))), (7, .d (iv (growF (pre ++ [x])).last)), (8, .d (iv (pre ++ [x]).length))]) (m' := [(3, (⟨True, 24, 3, true, false, 3, [[.d (iv a.kind), .d (iv a.who), .d (iv a.cur)]]⟩ : ARow)), (5, (⟨True, 28, 2, true, false, 5, [[.d (iv (growF (pre ++ [x])).last), .d (.sl 4 ((growF (pre ++ [x])).bal.map legC))]]⟩ : ARow))]) ?_ ?_ ?_ ?_, (pre ++ [x]), post2, by simp [hsp], by simp; omega, rfl, rfl⟩
          · simp only [leV, look_cons, Nat.reduceBEq, cond_true, cond_false, hwx, hgr]; exact ⟨(by first | exact VLe.still rfl | exact VLe.nil_ (by decide) | exact VLe.nild_ | exact VLe.refl _ | exact VLe.ptrE (by simp) (by rfl) | exact VLe.refE (by simp) (by rfl) (by first | rfl | simp | (simp; omega)) | exact VLe.dE (by first | rfl | simp)), (by first | exact VLe.still rfl | exact VLe.nil_ (by decide) | exact VLe.nild_ | exact VLe.refl _ | exact VLe.ptrE (by simp) (by rfl) | exact VLe.refE (by simp) (by rfl) (by first | rfl | simp | (simp; omega)) | exact VLe.dE (by first | rfl | simp)), (by first | exact VLe.still rfl | exact VLe.nil_ (by decide) | exact VLe.nild_ | exact VLe.refl _ | exact VLe.ptrE (by simp) (by rfl) | exact VLe.refE (by simp) (by rfl) (by first | rfl | simp | (simp; omega)) | exact VLe.dE (by first | rfl | simp)), (by first | exact VLe.still rfl | exact VLe.nil_ (by decide) | exact VLe.nild_ | exact VLe.refl _ | exact VLe.ptrE (by simp) (by rfl) | exact VLe.refE (by simp) (by rfl) (by first | rfl | simp | (simp; omega)) | exact VLe.dE (by first | rfl | simp)), (by first | exact VLe.still rfl | exact VLe.nil_ (by decide) | exact VLe.nild_ | exact VLe.refl _ | exact VLe.ptrE (by simp) (by rfl) | exact VLe.refE (by simp) (by rfl) (by first | rfl | simp | (simp; omega)) | exact VLe.dE (by first | rfl | simp)), (by first | exact VLe.still rfl | exact VLe.nil_ (by decide) | exact VLe.nild_ | exact VLe.refl _ | exact VLe.ptrE (by simp) (by rfl) | exact VLe.refE (by simp) (by rfl) (by first | rfl | simp | (simp; omega)) | exact VLe.dE (by first | rfl | simp)), trivial⟩
          · exact ⟨fun _ => ⟨_, rfl, (by first | exact RowLe.data_ (by first | rfl | simp) | exact RowLe.uq2 (by first | rfl | simp) (by simp) ids_data | exact RowLe.still (by simp [AV.idsL, AV.ids]) | exact RowLe.same (by simp) (by simp [AV.idsL, AV.ids]))⟩, fun h => by simp at h, fun _ => ⟨_, rfl, (by rw [hgr]; exact RowLe.still (by simp [AV.idsL, AV.ids]))⟩, fun h => by simp at h, trivial⟩
          · simp [wfV, AV.ids, AV.idsL, lookR, grow]
          · exact ⟨by simp [AV.idsL, AV.ids, lookR], by simp [AV.idsL, AV.ids, lookR], trivial⟩
      · intro hb
        have he : postE (growF pre) x.id x.legs = 0 := by simpa using hb
        clear hb
        have hgr : growF (pre ++ [x]) = (postV (growF pre) x.id x.legs) := by rw [growF_snoc, grow1, he]; rfl
        refine awp_skip ?_
        simp only [zz6, Nat.reduceEqDiff, ↓reduceIte]
        refine hK3 _ ?_; try clear hK3 K3
        refine awp_keepL [0, 3, 5, 6, 7, 8, 9] ?_
        simp only [zz20, zzI, look_nil, Nat.reduceBEq]
        refine awp_seq fun K3 hK3 => ?_
        refine awp_seq fun K4 hK4 => ?_
        refine awp_plain F_mixed [some 51, some 52, some 53, some 54, some 55, some 56, some 57] rfl ?_
        simp only [List.nil_append, List.cons_append, true_and, and_true, zz0, true_implies, Nat.reduceLT, Nat.reduceLeDiff, zzI, look_nil, Nat.reduceBEq, implies_true, evS_move, evS_indexAddr, zz23, zz24, F_sl22, F_sz34, Option.map_some, zz16, Option.some.injEq, exists_eq_left', exists_eq_left, eq_self, reduceCtorEq, and_self, zz19, F_off34_0, zzB, Nat.zero_add, Nat.reduceAdd, F_ok3, F_ag3, F_sz3, zz8, zzD, zzF, zzE, zz21, gr_v, b_leq, pure_leq, psts, legs, gx, bx, hwx, len_map, ge0, Int.toNat_natCast, D.agg.injEq, zz6, Nat.reduceEqDiff, ↓reduceIte]
        refine hK4 _ ?_; try clear hK4 K4
        refine awp_keepL [0, 3, 5, 6, 8, 9, 57] ?_
        simp only [zz20, zzI, look_nil, Nat.reduceBEq]
        refine awp_condS _ (by decide) (by simp only [look_cons, Nat.reduceBEq, cond_true, cond_false]; rfl) ?_ ?_
        · intro hb
          exact absurd (of_decide_eq_true hb) (once_id he)
        · intro hb
          clear hb
          have hof := once_of he a
          have hlt := post_last he
          have hrt := once_rt he a
          have hsum : sumA a (postV (growF pre) x.id x.legs).bal = sumA a x.legs + sumA a (growF pre).bal := post_sum he a
          have hw0 : sumA a (growF pre).bal = IntKind.wrap .i64 (sumA a (growF pre).bal + sumA a []) := by
            have := good_rt hGd a
            have := right_iff.1 this
            simp only [sumA]; rw [wrapI (by omega) (by omega)]; omega
          refine awp_skip ?_
          simp only [zz6, Nat.reduceEqDiff, ↓reduceIte]
          refine hK3 _ ?_; try clear hK3 K3
          refine awp_keepL [0, 3, 5, 6, 8, 9] ?_
          simp only [zz20, zzI, look_nil, Nat.reduceBEq]
          refine awp_seq fun K3 hK3 => ?_
          refine awp_plain F_mixed [some 58, some 59, some 60, some 61, some 62, some 7] rfl ?_
          simp only [List.nil_append, List.cons_append, true_and, and_true, zz0, true_implies, Nat.reduceLT, Nat.reduceLeDiff, zzI, look_nil, Nat.reduceBEq, implies_true, evS_move, evS_indexAddr, zz23, zz24, F_sl22, F_sz34, Option.map_some, zz16, Option.some.injEq, exists_eq_left', exists_eq_left, eq_self, reduceCtorEq, and_self, zz19, F_off34_0, zzB, Nat.zero_add, Nat.reduceAdd, F_ok3, F_ag3, F_sz3, zz8, zzD, zzF, zzE, evS_assign, psts, legs, gx, bx, hwx, len_map, ge0, Int.toNat_natCast, D.agg.injEq, zz6, Nat.reduceEqDiff, ↓reduceIte]
          refine hK3 _ ?_; try clear hK3 K3
          refine awp_keepL [0, 3, 5, 6, 7, 8, 9] ?_
          simp only [zz20, zzI, look_nil, Nat.reduceBEq]
          refine awp_seq fun K3 hK3 => ?_
          refine awp_seq fun K4 hK4 => ?_
          refine awp_plain F_mixed [some 11] rfl ?_
          simp only [List.nil_append, List.cons_append, true_and, and_true, zz0, true_implies, Nat.reduceLT, Nat.reduceLeDiff, zzI, look_nil, Nat.reduceBEq, implies_true, evS_assign, zz6, Nat.reduceEqDiff, ↓reduceIte]
          refine hK4 _ ?_; try clear hK4 K4
          refine awp_keepL [0, 3, 5, 6, 7, 8, 9, 11] ?_
          simp only [zz20, zzI, look_nil, Nat.reduceBEq]
          refine awp_block ?_
          refine awp_loop (fun m s => ∃ (gp : List LegV) (gq : List LegV), (x.legs = gp ++ gq) ∧ m = gq.length ∧ s = S 108 [(0, .d (psts l)), (3, .ptr 3 0 0), (5, .ptr 5 0 0), (6, .d (iv (IntKind.wrap .i64 (sumA a (growF pre).bal + sumA a gp)))), (7, .d (iv x.id)), (8, .d (iv pre.length)), (9, .ptr 9 0 0), (11, .d (iv gp.length))] [(3, (⟨True, 24, 3, true, false, 3, [[.d (iv a.kind), .d (iv a.who), .d (iv a.cur)]]⟩ : ARow)), (5, (⟨True, 28, 2, true, false, 5, [[.d (iv (growF pre).last), .d (.sl 4 ((growF pre).bal.map legC))]]⟩ : ARow)), (9, (⟨True, 28, 2, true, false, 9, [[.d (iv (postV (growF pre) x.id x.legs).last), .d (.sl 4 ((postV (growF pre) x.id x.legs).bal.map legC))]]⟩ : ARow))]) (x.legs.length) _ (le_SK id [] rfl (l' := [(0, .d (psts l)), (3, .ptr 3 0 0), (5, .ptr 5 0 0), (6, .d (iv (IntKind.wrap .i64 (sumA a (growF pre).bal + sumA a [])))), (7, .d (iv x.id)), (8, .d (iv pre.length)), (9, .ptr 9 0 0), (11, .d (iv [].length))]) (m' := [(3, (⟨True, 24, 3, true, false, 3, [[.d (iv a.kind), .d (iv a.who), .d (iv a.cur)]]⟩ : ARow)), (5, (⟨True, 28, 2, true, false, 5, [[.d (iv (growF pre).last), .d (.sl 4 ((growF pre).bal.map legC))]]⟩ : ARow)), (9, (⟨True, 28, 2, true, false, 9, [[.d (iv (postV (growF pre) x.id x.legs).last), .d (.sl 4 ((postV (growF pre) x.id x.legs).bal.map legC))]]⟩ : ARow))]) ?_ ?_ ?_ ?_) ⟨[], x.legs, rfl, rfl, rfl⟩ ?_
          · simp only [leV, look_cons, Nat.reduceBEq, cond_true, cond_false, hlt]; exact ⟨(by first | exact VLe.still rfl | exact VLe.nil_ (by decide) | exact VLe.nild_ | exact VLe.refl _ | exact VLe.ptrE (by simp) (by rfl) | exact VLe.refE (by simp) (by rfl) (by first | rfl | simp | (simp; omega)) | exact VLe.dE (by first | rfl | simp)), (by first | exact VLe.still rfl | exact VLe.nil_ (by decide) | exact VLe.nild_ | exact VLe.refl _ | exact VLe.ptrE (by simp) (by rfl) | exact VLe.refE (by simp) (by rfl) (by first | rfl | simp | (simp; omega)) | exact VLe.dE (by first | rfl | simp)), (by first | exact VLe.still rfl | exact VLe.nil_ (by decide) | exact VLe.nild_ | exact VLe.refl _ | exact VLe.ptrE (by simp) (by rfl) | exact VLe.refE (by simp) (by rfl) (by first | rfl | simp | (simp; omega)) | exact VLe.dE (by first | rfl | simp)), VLe.dE (congrArg iv hw0), (by first | exact VLe.still rfl | exact VLe.nil_ (by decide) | exact VLe.nild_ | exact VLe.refl _ | exact VLe.ptrE (by simp) (by rfl) | exact VLe.refE (by simp) (by rfl) (by first | rfl | simp | (simp; omega)) | exact VLe.dE (by first | rfl | simp)), (by first | exact VLe.still rfl | exact VLe.nil_ (by decide) | exact VLe.nild_ | exact VLe.refl _ | exact VLe.ptrE (by simp) (by rfl) | exact VLe.refE (by simp) (by rfl) (by first | rfl | simp | (simp; omega)) | exact VLe.dE (by first | rfl | simp)), (by first | exact VLe.still rfl | exact VLe.nil_ (by decide) | exact VLe.nild_ | exact VLe.refl _ | exact VLe.ptrE (by simp) (by rfl) | exact VLe.refE (by simp) (by rfl) (by first | rfl | simp | (simp; omega)) | exact VLe.dE (by first | rfl | simp)), (by first | exact VLe.still rfl | exact VLe.nil_ (by decide) | exact VLe.nild_ | exact VLe.refl _ | exact VLe.ptrE (by simp) (by rfl) | exact VLe.refE (by simp) (by rfl) (by first | rfl | simp | (simp; omega)) | exact VLe.dE (by first | rfl | simp)), trivial⟩
          · exact ⟨fun _ => ⟨_, rfl, (by first | exact RowLe.data_ (by first | rfl | simp) | exact RowLe.uq2 (by first | rfl | simp) (by simp) ids_data | exact RowLe.still (by simp [AV.idsL, AV.ids]) | exact RowLe.same (by simp) (by simp [AV.idsL, AV.ids]))⟩, fun h => by simp at h, fun _ => ⟨_, rfl, (by first | exact RowLe.data_ (by first | rfl | simp) | exact RowLe.uq2 (by first | rfl | simp) (by simp) ids_data | exact RowLe.still (by simp [AV.idsL, AV.ids]) | exact RowLe.same (by simp) (by simp [AV.idsL, AV.ids]))⟩, fun h => by simp at h, fun _ => ⟨_, rfl, (by first | exact RowLe.data_ (by first | rfl | simp) | exact RowLe.uq2 (by first | rfl | simp) (by simp) ids_data | exact RowLe.still (by simp [AV.idsL, AV.ids]) | exact RowLe.same (by simp) (by simp [AV.idsL, AV.ids]))⟩, fun h => by simp at h, trivial⟩
          · simp [wfV, AV.ids, AV.idsL, lookR, grow]
          · exact ⟨by simp [AV.idsL, AV.ids, lookR], by simp [AV.idsL, AV.ids, lookR], by simp [AV.idsL, AV.ids, lookR], trivial⟩
          rintro m s ⟨gp, gq, hgs, rfl, rfl⟩
          have hgsl := congrArg List.length hgs
          simp only [List.length_append] at hgsl
          refine awp_seq fun K5 hK5 => ?_
          refine awp_seq fun K6 hK6 => ?_
          refine awp_plain F_mixed [some 63, some 64, some 65, some 66, some 67, some 68, some 69, some 70] rfl ?_
          simp only [List.nil_append, List.cons_append, true_and, and_true, zz0, true_implies, Nat.reduceLT, Nat.reduceLeDiff, zzI, look_nil, Nat.reduceBEq, implies_true, evS_move, evS_indexAddr, zz23, zz24, F_sl22, F_sz34, Option.map_some, zz16, Option.some.injEq, exists_eq_left', exists_eq_left, eq_self, reduceCtorEq, and_self, zz19, F_off34_1, zzB, Nat.zero_add, Nat.reduceAdd, F_ok32, F_ag32, F_sz32, zz8, zzD, zzF, zzE, evS_call, zz12, F_sl32, Option.isSome_some, zz21, gr_v, zz22, psts, legs, gx, bx, hwx, len_map, ge0, Int.toNat_natCast, D.agg.injEq, zz6, Nat.reduceEqDiff, ↓reduceIte]
          refine hK6 _ ?_; try clear hK6 K6
          refine awp_keepL [0, 3, 5, 6, 7, 8, 9, 11, 70] ?_
          simp only [zz20, zzI, look_nil, Nat.reduceBEq]
          refine awp_condS _ (by decide) (by simp only [look_cons, Nat.reduceBEq, cond_true, cond_false]; rfl) ?_ ?_
          · intro hb
            obtain ⟨y, gq2, rfl⟩ : ∃ x t, gq = x :: t := by
              cases gq with
              | nil => have := of_decide_eq_true hb; simp at hgsl; omega
              | cons x t => exact ⟨x, t, rfl⟩
            clear hb
            simp only [List.length_cons] at hgsl
            have gy : (x.legs.map legC).getD gp.length [] = [iv y.ac.kind, iv y.ac.who, iv y.ac.cur, iv y.amt] := by
              rw [hgs, List.map_append]; exact gd_mid' (A := gp.map legC) _ _ (by simp)
            have by_ := ltI (show gp.length < x.legs.length by omega)
            have hwy : IntKind.wrap .i64 ((gp.length : Int) + 1) = ((gp ++ [y]).length : Int) := by rw [wrapI (by omega) (by omega)]; simp
            refine awp_skip ?_
            simp only [zz6, Nat.reduceEqDiff, ↓reduceIte]
            refine hK5 _ ?_; try clear hK5 K5
            refine awp_keepL [0, 3, 5, 6, 7, 8, 9, 11] ?_
            simp only [zz20, zzI, look_nil, Nat.reduceBEq]
            refine awp_seq fun K5 hK5 => ?_
            refine awp_block ?_
            refine awp_seq fun K6 hK6 => ?_
            refine awp_draw F_mixed [some 73, some 74, some 75, some 76, some 77, some 78, some 79, some 80, some 81, some 82, some 83] rfl (by kernel_rfl) ?_
            simp only [List.nil_append, List.cons_append, true_and, and_true, zz0, true_implies, Nat.reduceLT, Nat.reduceLeDiff, zzI, look_nil, Nat.reduceBEq, implies_true, evS_move, evS_indexAddr, zz23, zz24, F_sl22, F_sz34, Option.map_some, zz16, Option.some.injEq, exists_eq_left', exists_eq_left, eq_self, reduceCtorEq, and_self, zz19, F_off34_1, zzB, Nat.zero_add, Nat.reduceAdd, F_ok32, F_ag32, F_sz32, zz8, zzD, zzF, zzE, F_sl32, F_sz37, F_off37_0, F_ok24, F_ag24, F_sz24, evS_call, evC_value, psts, legs, gy, by_, hwy, legC, acC, gx, bx, hwx, len_map, ge0, Int.toNat_natCast, D.agg.injEq, zz6, Nat.reduceEqDiff, ↓reduceIte]
            refine call_go F_go12 (fun hG => kAcctG_ y.ac a) (by simp [AV.ids, AV.idsL]) (by simp) ?_
            simp only [List.nil_append, List.cons_append, true_and, and_true, zz0, true_implies, Nat.reduceLT, Nat.reduceLeDiff, zzI, look_nil, Nat.reduceBEq, implies_true, evS_move, evS_indexAddr, zz23, zz24, F_sl22, F_sz34, Option.map_some, zz16, Option.some.injEq, exists_eq_left', exists_eq_left, eq_self, reduceCtorEq, and_self, zz19, F_off34_1, zzB, Nat.zero_add, Nat.reduceAdd, F_ok32, F_ag32, F_sz32, zz8, zzD, zzF, zzE, F_sl32, F_sz37, F_off37_0, F_ok24, F_ag24, F_sz24, evS_call, evC_value, psts, legs, gy, by_, hwy, legC, acC, gx, bx, hwx, len_map, ge0, Int.toNat_natCast, D.agg.injEq, zz6, Nat.reduceEqDiff, ↓reduceIte, atsL, oksG, freeN, AV.ren, AV.renL, addRows, ORow.row, Nat.reduceMul, Nat.reduceAdd, zz9, Option.bind_some, Option.map_some, forall_eq', D.sl.injEq, S_mem, Option.some.injEq, exists_eq_left', exists_eq_left, exists_eq', exists_eq, List.length_cons, zz2]
            refine hK6 _ ?_; try clear hK6 K6
            refine awp_keepL [0, 3, 5, 6, 7, 8, 9, 11, 83] ?_
            simp only [zz20, zzI, look_nil, Nat.reduceBEq]
            refine awp_condS _ (by decide) (by simp only [look_cons, Nat.reduceBEq, cond_true, cond_false]; rfl) ?_ ?_
            · intro hb
              have hs : acSame y.ac a = true := hb
              clear hb
              have hsy : IntKind.wrap .i64 (IntKind.wrap .i64 (sumA a (growF pre).bal + sumA a gp) + y.amt) = IntKind.wrap .i64 (sumA a (growF pre).bal + sumA a (gp ++ [y])) := by
                rw [wrap_add, sumA_snoc, hs, cond_true, Int.add_assoc]
              refine awp_plain F_mixed [some 84, some 85, some 86, some 87, some 88, some 89, some 90, some 91, some 92, some 93, some 94, some 6] rfl ?_
              simp only [List.nil_append, List.cons_append, true_and, and_true, zz0, true_implies, Nat.reduceLT, Nat.reduceLeDiff, zzI, look_nil, Nat.reduceBEq, implies_true, evS_move, evS_indexAddr, zz23, zz24, F_sl22, F_sz34, Option.map_some, zz16, Option.some.injEq, exists_eq_left', exists_eq_left, eq_self, reduceCtorEq, and_self, zz19, F_off34_1, zzB, Nat.zero_add, Nat.reduceAdd, F_ok32, F_ag32, F_sz32, zz8, zzD, zzF, zzE, F_sl32, F_sz37, F_off37_1, F_ok3, F_ag3, F_sz3, zz21, gr_v, zz26, evS_assign, psts, legs, gy, by_, hwy, legC, acC, gx, bx, hwx, len_map, ge0, Int.toNat_natCast, D.agg.injEq, zz6, Nat.reduceEqDiff, ↓reduceIte]
              refine hK5 _ ?_; try clear hK5 K5
              refine awp_keepL [0, 3, 5, 6, 7, 8, 9, 11] ?_
              simp only [zz20, zzI, look_nil, Nat.reduceBEq]
              refine awp_plain F_mixed [some 71, some 72, some 11] rfl ?_
              simp only [List.nil_append, List.cons_append, true_and, and_true, zz0, true_implies, Nat.reduceLT, Nat.reduceLeDiff, zzI, look_nil, Nat.reduceBEq, implies_true, evS_move, zz21, gr_v, zz26, evS_assign, hwy, zz6, Nat.reduceEqDiff, ↓reduceIte]
              refine ⟨gq2.length, _, by simp, le_SK id [] rfl (l' := [(0, .d (psts l)), (3, .ptr 3 0 0), (5, .ptr 5 0 0), (6, .d (iv (IntKind.wrap .i64 (sumA a (growF pre).bal + sumA a (gp ++ [y]))))), (7, .d (iv x.id)), (8, .d (iv pre.length)), (9, .ptr 9 0 0), (11, .d (iv (gp ++ [y]).length))]) (m' := [(3, (⟨True, 24, 3, true, false, 3, [[.d (iv a.kind), .d (iv a.who), .d (iv a.cur)]]⟩ : ARow)), (5, (⟨True, 28, 2, true, false, 5, [[.d (iv (growF pre).last), .d (.sl 4 ((growF pre).bal.map legC))]]⟩ : ARow)), (9, (⟨True, 28, 2, true, false, 9, [[.d (iv (postV (growF pre) x.id x.legs).last), .d (.sl 4 ((postV (growF pre) x.id x.legs).bal.map legC))]]⟩ : ARow))]) ?_ ?_ ?_ ?_, (gp ++ [y]), gq2, by simp [hgs], rfl, rfl⟩
              · simp only [leV, look_cons, Nat.reduceBEq, cond_true, cond_false, hwy, hsy]; exact ⟨(by first | exact VLe.still rfl | exact VLe.nil_ (by decide) | exact VLe.nild_ | exact VLe.refl _ | exact VLe.ptrE (by simp) (by rfl) | exact VLe.refE (by simp) (by rfl) (by first | rfl | simp | (simp; omega)) | exact VLe.dE (by first | rfl | simp)), (by first | exact VLe.still rfl | exact VLe.nil_ (by decide) | exact VLe.nild_ | exact VLe.refl _ | exact VLe.ptrE (by simp) (by rfl) | exact VLe.refE (by simp) (by rfl) (by first | rfl | simp | (simp; omega)) | exact VLe.dE (by first | rfl | simp)), (by first | exact VLe.still rfl | exact VLe.nil_ (by decide) | exact VLe.nild_ | exact VLe.refl _ | exact VLe.ptrE (by simp) (by rfl) | exact VLe.refE (by simp) (by rfl) (by first | rfl | simp | (simp; omega)) | exact VLe.dE (by first | rfl | simp)), (by first | exact VLe.still rfl | exact VLe.nil_ (by decide) | exact VLe.nild_ | exact VLe.refl _ | exact VLe.ptrE (by simp) (by rfl) | exact VLe.refE (by simp) (by rfl) (by first | rfl | simp | (simp; omega)) | exact VLe.dE (by first | rfl | simp)), (by first | exact VLe.still rfl | exact VLe.nil_ (by decide) | exact VLe.nild_ | exact VLe.refl _ | exact VLe.ptrE (by simp) (by rfl) | exact VLe.refE (by simp) (by rfl) (by first | rfl | simp | (simp; omega)) | exact VLe.dE (by first | rfl | simp)), (by first | exact VLe.still rfl | exact VLe.nil_ (by decide) | exact VLe.nild_ | exact VLe.refl _ | exact VLe.ptrE (by simp) (by rfl) | exact VLe.refE (by simp) (by rfl) (by first | rfl | simp | (simp; omega)) | exact VLe.dE (by first | rfl | simp)), (by first | exact VLe.still rfl | exact VLe.nil_ (by decide) | exact VLe.nild_ | exact VLe.refl _ | exact VLe.ptrE (by simp) (by rfl) | exact VLe.refE (by simp) (by rfl) (by first | rfl | simp | (simp; omega)) | exact VLe.dE (by first | rfl | simp)), (by first | exact VLe.still rfl | exact VLe.nil_ (by decide) | exact VLe.nild_ | exact VLe.refl _ | exact VLe.ptrE (by simp) (by rfl) | exact VLe.refE (by simp) (by rfl) (by first | rfl | simp | (simp; omega)) | exact VLe.dE (by first | rfl | simp)), trivial⟩
              · exact ⟨fun _ => ⟨_, rfl, (by first | exact RowLe.data_ (by first | rfl | simp) | exact RowLe.uq2 (by first | rfl | simp) (by simp) ids_data | exact RowLe.still (by simp [AV.idsL, AV.ids]) | exact RowLe.same (by simp) (by simp [AV.idsL, AV.ids]))⟩, fun h => by simp at h, fun _ => ⟨_, rfl, (by first | exact RowLe.data_ (by first | rfl | simp) | exact RowLe.uq2 (by first | rfl | simp) (by simp) ids_data | exact RowLe.still (by simp [AV.idsL, AV.ids]) | exact RowLe.same (by simp) (by simp [AV.idsL, AV.ids]))⟩, fun h => by simp at h, fun _ => ⟨_, rfl, (by first | exact RowLe.data_ (by first | rfl | simp) | exact RowLe.uq2 (by first | rfl | simp) (by simp) ids_data | exact RowLe.still (by simp [AV.idsL, AV.ids]) | exact RowLe.same (by simp) (by simp [AV.idsL, AV.ids]))⟩, fun h => by simp at h, trivial⟩
              · simp [wfV, AV.ids, AV.idsL, lookR, grow]
              · exact ⟨by simp [AV.idsL, AV.ids, lookR], by simp [AV.idsL, AV.ids, lookR], by simp [AV.idsL, AV.ids, lookR], trivial⟩
            · intro hb
              have hs : acSame y.ac a = false := hb
              clear hb
              have hsy : IntKind.wrap .i64 (sumA a (growF pre).bal + sumA a gp) = IntKind.wrap .i64 (sumA a (growF pre).bal + sumA a (gp ++ [y])) := by
                rw [sumA_snoc, hs, cond_false, Int.add_zero]
              refine awp_skip ?_
              simp only [zz6, Nat.reduceEqDiff, ↓reduceIte]
              refine hK5 _ ?_; try clear hK5 K5
              refine awp_keepL [0, 3, 5, 6, 7, 8, 9, 11] ?_
              simp only [zz20, zzI, look_nil, Nat.reduceBEq]
              refine awp_plain F_mixed [some 71, some 72, some 11] rfl ?_
              simp only [List.nil_append, List.cons_append, true_and, and_true, zz0, true_implies, Nat.reduceLT, Nat.reduceLeDiff, zzI, look_nil, Nat.reduceBEq, implies_true, evS_move, zz21, gr_v, zz26, evS_assign, hwy, zz6, Nat.reduceEqDiff, ↓reduceIte]
              refine ⟨gq2.length, _, by simp, le_SK id [] rfl (l' := [(0, .d (psts l)), (3, .ptr 3 0 0), (5, .ptr 5 0 0), (6, .d (iv (IntKind.wrap .i64 (sumA a (growF pre).bal + sumA a (gp ++ [y]))))), (7, .d (iv x.id)), (8, .d (iv pre.length)), (9, .ptr 9 0 0), (11, .d (iv (gp ++ [y]).length))]) (m' := [(3, (⟨True, 24, 3, true, false, 3, [[.d (iv a.kind), .d (iv a.who), .d (iv a.cur)]]⟩ : ARow)), (5, (⟨True, 28, 2, true, false, 5, [[.d (iv (growF pre).last), .d (.sl 4 ((growF pre).bal.map legC))]]⟩ : ARow)), (9, (⟨True, 28, 2, true, false, 9, [[.d (iv (postV (growF pre) x.id x.legs).last), .d (.sl 4 ((postV (growF pre) x.id x.legs).bal.map legC))]]⟩ : ARow))]) ?_ ?_ ?_ ?_, (gp ++ [y]), gq2, by simp [hgs], rfl, rfl⟩
              · simp only [leV, look_cons, Nat.reduceBEq, cond_true, cond_false, hwy, hsy]; exact ⟨(by first | exact VLe.still rfl | exact VLe.nil_ (by decide) | exact VLe.nild_ | exact VLe.refl _ | exact VLe.ptrE (by simp) (by rfl) | exact VLe.refE (by simp) (by rfl) (by first | rfl | simp | (simp; omega)) | exact VLe.dE (by first | rfl | simp)), (by first | exact VLe.still rfl | exact VLe.nil_ (by decide) | exact VLe.nild_ | exact VLe.refl _ | exact VLe.ptrE (by simp) (by rfl) | exact VLe.refE (by simp) (by rfl) (by first | rfl | simp | (simp; omega)) | exact VLe.dE (by first | rfl | simp)), (by first | exact VLe.still rfl | exact VLe.nil_ (by decide) | exact VLe.nild_ | exact VLe.refl _ | exact VLe.ptrE (by simp) (by rfl) | exact VLe.refE (by simp) (by rfl) (by first | rfl | simp | (simp; omega)) | exact VLe.dE (by first | rfl | simp)), (by first | exact VLe.still rfl | exact VLe.nil_ (by decide) | exact VLe.nild_ | exact VLe.refl _ | exact VLe.ptrE (by simp) (by rfl) | exact VLe.refE (by simp) (by rfl) (by first | rfl | simp | (simp; omega)) | exact VLe.dE (by first | rfl | simp)), (by first | exact VLe.still rfl | exact VLe.nil_ (by decide) | exact VLe.nild_ | exact VLe.refl _ | exact VLe.ptrE (by simp) (by rfl) | exact VLe.refE (by simp) (by rfl) (by first | rfl | simp | (simp; omega)) | exact VLe.dE (by first | rfl | simp)), (by first | exact VLe.still rfl | exact VLe.nil_ (by decide) | exact VLe.nild_ | exact VLe.refl _ | exact VLe.ptrE (by simp) (by rfl) | exact VLe.refE (by simp) (by rfl) (by first | rfl | simp | (simp; omega)) | exact VLe.dE (by first | rfl | simp)), (by first | exact VLe.still rfl | exact VLe.nil_ (by decide) | exact VLe.nild_ | exact VLe.refl _ | exact VLe.ptrE (by simp) (by rfl) | exact VLe.refE (by simp) (by rfl) (by first | rfl | simp | (simp; omega)) | exact VLe.dE (by first | rfl | simp)), (by first | exact VLe.still rfl | exact VLe.nil_ (by decide) | exact VLe.nild_ | exact VLe.refl _ | exact VLe.ptrE (by simp) (by rfl) | exact VLe.refE (by simp) (by rfl) (by first | rfl | simp | (simp; omega)) | exact VLe.dE (by first | rfl | simp)), trivial⟩
              · exact ⟨fun _ => ⟨_, rfl, (by first | exact RowLe.data_ (by first | rfl | simp) | exact RowLe.uq2 (by first | rfl | simp) (by simp) ids_data | exact RowLe.still (by simp [AV.idsL, AV.ids]) | exact RowLe.same (by simp) (by simp [AV.idsL, AV.ids]))⟩, fun h => by simp at h, fun _ => ⟨_, rfl, (by first | exact RowLe.data_ (by first | rfl | simp) | exact RowLe.uq2 (by first | rfl | simp) (by simp) ids_data | exact RowLe.still (by simp [AV.idsL, AV.ids]) | exact RowLe.same (by simp) (by simp [AV.idsL, AV.ids]))⟩, fun h => by simp at h, fun _ => ⟨_, rfl, (by first | exact RowLe.data_ (by first | rfl | simp) | exact RowLe.uq2 (by first | rfl | simp) (by simp) ids_data | exact RowLe.still (by simp [AV.idsL, AV.ids]) | exact RowLe.same (by simp) (by simp [AV.idsL, AV.ids]))⟩, fun h => by simp at h, trivial⟩
              · simp [wfV, AV.ids, AV.idsL, lookR, grow]
              · exact ⟨by simp [AV.idsL, AV.ids, lookR], by simp [AV.idsL, AV.ids, lookR], by simp [AV.idsL, AV.ids, lookR], trivial⟩
          · intro hb
            obtain rfl : gq = [] := by
              cases gq with
              | nil => rfl
              | cons x t => have := of_decide_eq_false hb; simp at hgsl; omega
            clear hb
            simp only [List.append_nil] at hgs
            rw [← hgs]; clear hgs
            refine awp_exit ?_
            simp only [zz6, Nat.reduceEqDiff, ↓reduceIte]
            refine hK3 _ ?_; try clear hK3 K3
            refine awp_keepL [0, 3, 5, 6, 7, 8, 9] ?_
            simp only [zz20, zzI, look_nil, Nat.reduceBEq]
            refine awp_seq fun K3 hK3 => ?_
            refine awp_plain F_mixed [some 95, none] rfl ?_
            simp only [List.nil_append, List.cons_append, true_and, and_true, zz0, true_implies, Nat.reduceLT, Nat.reduceLeDiff, zzI, look_nil, Nat.reduceBEq, implies_true, F_ok28, F_ag28, F_sz28, zz8, zz23, zzD, Nat.reduceAdd, Nat.zero_add, zzF, zzB, zzE, zz16, Option.some.injEq, exists_eq_left', exists_eq_left, Option.map_some, eq_self, reduceCtorEq, and_self, zz18, splice, List.append_nil, zz1, zzG, ledC, legs, zz6, Nat.reduceEqDiff, ↓reduceIte]
            refine hK3 _ ?_; try clear hK3 K3
            refine awp_keepL [0, 3, 5, 6, 7, 8] ?_
            simp only [zz20, zzI, look_nil, Nat.reduceBEq]
            refine awp_seq fun K3 hK3 => ?_
            refine awp_plain F_mixed [some 96, some 97, some 98, some 99, some 100, some 101, some 102, some 103, some 104, some 105, some 106] rfl ?_
            simp only [List.nil_append, List.cons_append, true_and, and_true, zz0, true_implies, Nat.reduceLT, Nat.reduceLeDiff, zzI, look_nil, Nat.reduceBEq, implies_true, Nat.reduceSub, S_getD, zz5, and_imp, imp_and, imp_self, and_self, zz19, zz23, F_off28_0, zzB, Nat.zero_add, Nat.reduceAdd, F_ok3, F_ag3, F_sz3, zz8, zzD, zzF, zzE, zz16, Option.some.injEq, exists_eq_left', exists_eq_left, Option.map_some, eq_self, reduceCtorEq, evS_move, zz21, gr_v, zz28, F_ok28, F_ag28, F_sz28, F_ok24, F_ag24, F_sz24, evS_call, evC_value, zz13, pickK_l, pickK_r, ledC, legs, acC, D.agg.injEq, hlt, hof, hrt, zz6, Nat.reduceEqDiff, ↓reduceIte]
            refine call_go F_go13 (fun hG => of10S (postV (growF pre) x.id x.legs) a (by omega)) (by simp [AV.ids, AV.idsL]) (by simp) ?_
            simp only [List.nil_append, List.cons_append, true_and, and_true, zz0, true_implies, Nat.reduceLT, Nat.reduceLeDiff, zzI, look_nil, Nat.reduceBEq, implies_true, Nat.reduceSub, S_getD, zz5, and_imp, imp_and, imp_self, and_self, zz19, zz23, F_off28_0, zzB, Nat.zero_add, Nat.reduceAdd, F_ok3, F_ag3, F_sz3, zz8, zzD, zzF, zzE, zz16, Option.some.injEq, exists_eq_left', exists_eq_left, Option.map_some, eq_self, reduceCtorEq, evS_move, zz21, gr_v, zz28, F_ok28, F_ag28, F_sz28, F_ok24, F_ag24, F_sz24, evS_call, evC_value, zz13, pickK_l, pickK_r, ledC, legs, acC, D.agg.injEq, hlt, hof, hrt, zz6, Nat.reduceEqDiff, ↓reduceIte, atsL, oksG, freeN, AV.ren, AV.renL, addRows, ORow.row, Nat.reduceMul, Nat.reduceAdd, zz9, Option.bind_some, Option.map_some, forall_eq', D.sl.injEq, S_mem, Option.some.injEq, exists_eq_left', exists_eq_left, exists_eq', exists_eq, List.length_cons, zz2]
            refine hK3 _ ?_; try clear hK3 K3
            refine awp_keepL [0, 3, 5, 6, 7, 8, 106] ?_
            simp only [zz20, zzI, look_nil, Nat.reduceBEq]
            refine awp_condS _ (by decide) (by simp only [look_cons, Nat.reduceBEq, cond_true, cond_false]; rfl) ?_ ?_
            · intro hb
              first | cases hb | simp [hof, hrt] at hb
            · intro hb
              clear hb
              refine awp_skip ?_
              simp only [zz6, Nat.reduceEqDiff, ↓reduceIte]
              refine hK2 _ ?_; try clear hK2 K2
              refine awp_keepL [0, 3, 5, 6, 7, 8] ?_
              simp only [zz20, zzI, look_nil, Nat.reduceBEq]
              refine awp_plain F_mixed [some 23, some 24, some 8] rfl ?_
              simp only [List.nil_append, List.cons_append, true_and, and_true, zz0, true_implies, Nat.reduceLT, Nat.reduceLeDiff, zzI, look_nil, Nat.reduceBEq, implies_true, evS_move, zz21, gr_v, zz26, evS_assign, hwx, zz6, Nat.reduceEqDiff, ↓reduceIte]
              refine ⟨post2.length, _, by simp, le_SK id [] rfl (l' := [(0, .d (psts l)), (3, .ptr 3 0 0), (5, .ptr 5 0 0), (6, .d (iv (sumA a (growF (pre ++ [x])).bal))), (7, .d (iv (growF (pre ++ [x])).last)), (8, .d (iv (pre ++ [x]).length))]) (m' := [(3, (⟨True, 24, 3, true, false, 3, [[.d (iv a.kind), .d (iv a.who), .d (iv a.cur)]]⟩ : ARow)), (5, (⟨True, 28, 2, true, false, 5, [[.d (iv (growF (pre ++ [x])).last), .d (.sl 4 ((growF (pre ++ [x])).bal.map legC))]]⟩ : ARow))]) ?_ ?_ ?_ ?_, (pre ++ [x]), post2, by simp [hsp], by simp; omega, rfl, rfl⟩
              · simp only [leV, look_cons, Nat.reduceBEq, cond_true, cond_false, hwx, hgr, hsum, hlt]; exact ⟨(by first | exact VLe.still rfl | exact VLe.nil_ (by decide) | exact VLe.nild_ | exact VLe.refl _ | exact VLe.ptrE (by simp) (by rfl) | exact VLe.refE (by simp) (by rfl) (by first | rfl | simp | (simp; omega)) | exact VLe.dE (by first | rfl | simp)), (by first | exact VLe.still rfl | exact VLe.nil_ (by decide) | exact VLe.nild_ | exact VLe.refl _ | exact VLe.ptrE (by simp) (by rfl) | exact VLe.refE (by simp) (by rfl) (by first | rfl | simp | (simp; omega)) | exact VLe.dE (by first | rfl | simp)), (by first | exact VLe.still rfl | exact VLe.nil_ (by decide) | exact VLe.nild_ | exact VLe.refl _ | exact VLe.ptrE (by simp) (by rfl) | exact VLe.refE (by simp) (by rfl) (by first | rfl | simp | (simp; omega)) | exact VLe.dE (by first | rfl | simp)), (by first | exact VLe.still rfl | exact VLe.nil_ (by decide) | exact VLe.nild_ | exact VLe.refl _ | exact VLe.ptrE (by simp) (by rfl) | exact VLe.refE (by simp) (by rfl) (by first | rfl | simp | (simp; omega)) | exact VLe.dE (by first | rfl | simp)), (by first | exact VLe.still rfl | exact VLe.nil_ (by decide) | exact VLe.nild_ | exact VLe.refl _ | exact VLe.ptrE (by simp) (by rfl) | exact VLe.refE (by simp) (by rfl) (by first | rfl | simp | (simp; omega)) | exact VLe.dE (by first | rfl | simp)), (by first | exact VLe.still rfl | exact VLe.nil_ (by decide) | exact VLe.nild_ | exact VLe.refl _ | exact VLe.ptrE (by simp) (by rfl) | exact VLe.refE (by simp) (by rfl) (by first | rfl | simp | (simp; omega)) | exact VLe.dE (by first | rfl | simp)), trivial⟩
              · exact ⟨fun _ => ⟨_, rfl, (by first | exact RowLe.data_ (by first | rfl | simp) | exact RowLe.uq2 (by first | rfl | simp) (by simp) ids_data | exact RowLe.still (by simp [AV.idsL, AV.ids]) | exact RowLe.same (by simp) (by simp [AV.idsL, AV.ids]))⟩, fun h => by simp at h, fun _ => ⟨_, rfl, (by rw [hgr, hlt]; exact RowLe.still (by simp [AV.idsL, AV.ids]))⟩, fun h => by simp at h, trivial⟩
              · simp [wfV, AV.ids, AV.idsL, lookR, grow]
              · exact ⟨by simp [AV.idsL, AV.ids, lookR], by simp [AV.idsL, AV.ids, lookR], trivial⟩
    · intro hb
      clear hb
      refine awp_exit ?_
      simp only [zz6, Nat.reduceEqDiff, ↓reduceIte]
      refine hK0 _ ?_; try clear hK0 K0
      refine awp_keepL [] ?_
      simp only [zz20, zzI, look_nil, Nat.reduceBEq]
      refine awp_seq fun K0 hK0 => ?_
      refine awp_plain F_mixed [some 107, some 4] rfl ?_
      simp only [List.nil_append, List.cons_append, true_and, and_true, zz0, true_implies, Nat.reduceLT, Nat.reduceLeDiff, zzI, look_nil, Nat.reduceBEq, implies_true, evS_call, evC_value, evS_assign, zz6, Nat.reduceEqDiff, ↓reduceIte]
      refine call_go F_go14 (fun hG => wakes10_) (by simp [AV.ids, AV.idsL]) (by simp) ?_
      simp only [List.nil_append, List.cons_append, true_and, and_true, zz0, true_implies, Nat.reduceLT, Nat.reduceLeDiff, zzI, look_nil, Nat.reduceBEq, implies_true, evS_call, evC_value, evS_assign, zz6, Nat.reduceEqDiff, ↓reduceIte, atsL, oksG, freeN, AV.ren, AV.renL, addRows, ORow.row, Nat.reduceMul, Nat.reduceAdd, zz9, Option.bind_some, Option.map_some, forall_eq', D.sl.injEq, zz16, Option.some.injEq, exists_eq_left', exists_eq_left, exists_eq', exists_eq, zzD, zz2]
      refine hK0 _ ?_; try clear hK0 K0
      refine awp_keepL [4] ?_
      simp only [zz20, zzI, look_nil, Nat.reduceBEq]
      refine awp_ret ?_
      simp only [zz6, Nat.reduceEqDiff, ↓reduceIte]
      refine done0 (by simp only [resCs, resC]; trivial) ?_ (by simp [flatA, flatAs, flatD]) (by simp [AV.ids, AV.idsL])
      simp only [List.map_cons, List.map_nil, resA, S_getD, Nat.reduceLT, Nat.reduceLeDiff, look_cons, Nat.reduceBEq, cond_true, cond_false, resAll]
      
end Go.Proofs.Ytfbpceolkhlifaa
