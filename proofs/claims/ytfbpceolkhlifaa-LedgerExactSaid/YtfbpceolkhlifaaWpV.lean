import Derived.Test.YtfbpceolkhlifaaWpM
import Derived.Test.YtfbpceolkhlifaaWpS
namespace Go.Proofs.Ytfbpceolkhlifaa
open Go.RowKit
set_option linter.unusedVariables false
set_option linter.unusedSimpArgs false
theorem F_go22 : goFn Try.prog 22 := ⟨_, Try.func22, rfl, rfl⟩
theorem F_go43 : goFn Try.prog 43 := ⟨_, Try.func43, rfl, rfl⟩
theorem F_go44 : goFn Try.prog 44 := ⟨_, Try.func44, rfl, rfl⟩
theorem F_go24 : goFn Try.prog 24 := ⟨_, Try.func24, rfl, rfl⟩
theorem F_go21 : goFn Try.prog 21 := ⟨_, Try.func21, rfl, rfl⟩
theorem F_bool4 : Try.prog.underlying 4 = some .bool := by kernel_rfl
theorem F_go25 : goFn Try.prog 25 := ⟨_, Try.func25, rfl, rfl⟩
theorem F_go17 : goFn Try.prog 17 := ⟨_, Try.func17, rfl, rfl⟩
theorem F_go26 : goFn Try.prog 26 := ⟨_, Try.func26, rfl, rfl⟩
theorem F_go27 : goFn Try.prog 27 := ⟨_, Try.func27, rfl, rfl⟩
theorem F_go14 : goFn Try.prog 14 := ⟨_, Try.func14, rfl, rfl⟩
def acs (l : List AcV) : D := .sl 3 (l.map acC)
theorem rAllF : ACalls Try.prog 44 [ints [1, 2, 3, 4, 5, 6]] [] (.d (acs allAc)) := rAll_.freeze (by simp [frzOk])
set_option maxRecDepth 100000 in
set_option maxHeartbeats 4000000 in
theorem rPost_ (nx id_ : Int) (l g : List LegV) (hl : l.length ≤ 400000) (hg : g.length ≤ 400000) : ACalls Try.prog 25 [.agg (ledC ⟨nx, l⟩), iv id_, legs g] [⟨65, 4, (postV ⟨nx, l⟩ id_ g).bal.map legC⟩] (.tp [.ag [.d (iv (postV ⟨nx, l⟩ id_ g).last), .ref 0 (postV ⟨nx, l⟩ id_ g).bal.length], .d (iv (postE ⟨nx, l⟩ id_ g))]) := by
  refine acalls_S (rs := [.cell 6 28, .tmp 7]) Try.func25 rfl rfl 116 [(0, .d (.agg (ledC ⟨nx, l⟩))), (1, .d (iv id_)), (2, .d (legs g))] rfl (by simp) rfl ?_
  refine awp_seq fun K0 hK0 => ?_
  refine awp_plain F_mixed [some 3, some 6, some 7] rfl ?_
  simp only [List.nil_append, List.cons_append, true_and, and_true, zz0, true_implies, Nat.reduceLT, Nat.reduceLeDiff, zzI, look_nil, Nat.reduceBEq, implies_true, zz35, newRow1, zz1, zzG, zzD, zz16, Option.some.injEq, exists_eq_left', exists_eq_left, Option.map_some, eq_self, reduceCtorEq, and_self, Nat.reduceAdd, Nat.zero_add, zzF, zzB, zzE, zz32, F_zero28, zz10, evS_assign, ledC, legs, zz6, Nat.reduceEqDiff, ↓reduceIte]
  refine hK0 _ ?_; try clear hK0 K0
  refine awp_keepL [1, 2, 3, 6] ?_
  simp only [zz20, zzI, look_nil, Nat.reduceBEq]
  refine awp_seq fun K0 hK0 => ?_
  refine awp_plain F_mixed [some 18, some 8, none] rfl ?_
  simp only [List.nil_append, List.cons_append, true_and, and_true, zz0, true_implies, Nat.reduceLT, Nat.reduceLeDiff, zzI, look_nil, Nat.reduceBEq, implies_true, F_zero28, F_bld28, zz7, splice, Option.getD_some, List.append_nil, zz1, zzG, zzD, zz16, Option.some.injEq, exists_eq_left', exists_eq_left, Option.map_some, eq_self, reduceCtorEq, and_self, Nat.reduceAdd, Nat.zero_add, zzF, zzB, zzE, zz10, zz32, newRow1, zz18, F_ok28, F_sz28, zz6, Nat.reduceEqDiff, ↓reduceIte]
  refine hK0 _ ?_; try clear hK0 K0
  refine awp_keepL [1, 2, 3, 6, 8] ?_
  simp only [zz20, zzI, look_nil, Nat.reduceBEq]
  refine awp_seq fun K0 hK0 => ?_
  refine awp_seq fun K1 hK1 => ?_
  refine awp_plain F_mixed [some 19, some 20, some 21] rfl ?_
  simp only [List.nil_append, List.cons_append, true_and, and_true, zz0, true_implies, Nat.reduceLT, Nat.reduceLeDiff, zzI, look_nil, Nat.reduceBEq, implies_true, F_ok28, F_ag28, F_sz28, zz8, zz23, zzD, Nat.reduceAdd, Nat.zero_add, zzF, zzB, zzE, zz16, Option.some.injEq, exists_eq_left', exists_eq_left, Option.map_some, eq_self, reduceCtorEq, and_self, evS_call, evC_value, zz29, gr_v, zz30, ledC, legs, D.agg.injEq, zz6, Nat.reduceEqDiff, ↓reduceIte]
  refine call_go F_go22 (fun hG => rLed_ ⟨nx, l⟩ (by simp only; omega)) (by simp [AV.ids, AV.idsL]) (by simp) ?_
  simp only [List.nil_append, List.cons_append, true_and, and_true, zz0, true_implies, Nat.reduceLT, Nat.reduceLeDiff, zzI, look_nil, Nat.reduceBEq, implies_true, F_ok28, F_ag28, F_sz28, zz8, zz23, zzD, Nat.reduceAdd, Nat.zero_add, zzF, zzB, zzE, zz16, Option.some.injEq, exists_eq_left', exists_eq_left, Option.map_some, eq_self, reduceCtorEq, and_self, evS_call, evC_value, zz29, gr_v, zz30, ledC, legs, D.agg.injEq, zz6, Nat.reduceEqDiff, ↓reduceIte, atsL, oksG, freeN, AV.ren, AV.renL, addRows, ORow.row, Nat.reduceMul, Nat.reduceAdd, zz9, Option.bind_some, Option.map_some, forall_eq', D.sl.injEq, S_mem, Option.some.injEq, exists_eq_left', exists_eq_left, exists_eq', exists_eq, List.length_cons, zz2]
  refine hK1 _ ?_; try clear hK1 K1
  refine awp_keepL [1, 2, 3, 6, 8, 21] ?_
  simp only [zz20, zzI, look_nil, Nat.reduceBEq]
  refine awp_condS _ (by decide) (by simp only [look_cons, Nat.reduceBEq, cond_true, cond_false]; rfl) ?_ ?_
  · intro hb
    have ho : ledOk ⟨nx, l⟩ = false := by simpa using hb
    clear hb
    refine awp_seq fun K2 hK2 => ?_
    refine awp_plain F_mixed [some 22, none, some 7] rfl ?_
    simp only [List.nil_append, List.cons_append, true_and, and_true, zz0, true_implies, Nat.reduceLT, Nat.reduceLeDiff, zzI, look_nil, Nat.reduceBEq, implies_true, F_ok28, F_ag28, F_sz28, zz8, zz23, zzD, Nat.reduceAdd, Nat.zero_add, zzF, zzB, zzE, zz16, Option.some.injEq, exists_eq_left', exists_eq_left, Option.map_some, eq_self, reduceCtorEq, and_self, zz18, splice, List.append_nil, zz1, zzG, evS_assign, zz6, Nat.reduceEqDiff, ↓reduceIte]
    refine hK2 _ ?_; try clear hK2 K2
    refine awp_keepL [6, 7] ?_
    simp only [zz20, zzI, look_nil, Nat.reduceBEq]
    have e : postE ⟨nx, l⟩ id_ g = 14 := by rw [postE_def, ho]; first | done | rfl | assumption
    have ev : postV ⟨nx, l⟩ id_ g = ⟨0, []⟩ := post_no (by rw [e]; first | decide | assumption)
    refine awp_le (le_SK id [0] rfl (l' := [(6, .ptr 6 0 0), (7, .d (iv 14))]) (m' := [(6, (⟨True, 28, 2, true, false, 6, [[.d (.v (.int .i64 0)), .ref 0 0]]⟩ : ARow)), (0, (⟨True, 65, 4, true, true, 0, []⟩ : ARow))]) ?_ ?_ ?_ ?_) ?_
    · simp only [leV, look_cons, Nat.reduceBEq, cond_true, cond_false]; exact ⟨VLe.ptr_ (f := id) (by decide), VLe.still rfl, trivial⟩
    · exact ⟨fun _ => ⟨_, rfl, RowLe.cells (VLess.one_ (VLes.cons_ (VLe.still rfl) (VLes.cons_ (VLe.nil_ (by decide)) VLes.nil_)))⟩, fun h => by simp at h, fun h => by simp at h, fun _ => rfl, trivial⟩
    · simp [wfV, AV.ids, lookR]
    · simp [wfR, AV.idsL, AV.ids, lookR]
    refine awp_ret ?_
    simp only [zz6, Nat.reduceEqDiff, ↓reduceIte]
    rw [ev, e]
    refine doneN [0] (by simp [resCs, resC, S, List.getD, look_cons, lookR, F_ag28, F_sz28, F_ok28]) ?_ (by simp [flatA, flatAs, flatD, ]) (by simp [AV.ids, AV.idsL, ]) (by decide) ?_
    · simp only [List.map_cons, List.map_nil, resA, S_getD, S_mem, lookR_cons, lookR_nil, Nat.reduceLT, Nat.reduceLeDiff, look_cons, Nat.reduceBEq, cond_true, cond_false, resAll, List.getD_cons_zero, List.getD_cons_succ, List.drop_zero, List.drop_succ_cons, List.take_succ_cons, List.take_zero, F_ag28, F_sz28, F_ok28]; rfl
    · exact ⟨⟨_, rfl, trivial, rfl, rfl, rfl, rfl⟩, by simp [flatDs, flatD, legC], trivial⟩
  · intro hb
    have ho : ledOk ⟨nx, l⟩ = true := by simpa using hb
    clear hb
    have hG := (ledOk_iff _).1 ho
    refine awp_skip ?_
    simp only [zz6, Nat.reduceEqDiff, ↓reduceIte]
    refine hK0 _ ?_; try clear hK0 K0
    refine awp_keepL [1, 2, 3, 6, 8] ?_
    simp only [zz20, zzI, look_nil, Nat.reduceBEq]
    refine awp_seq fun K0 hK0 => ?_
    refine awp_seq fun K1 hK1 => ?_
    refine awp_plain F_mixed [some 23, some 24, some 25, some 26, some 27, some 28] rfl ?_
    simp only [List.nil_append, List.cons_append, true_and, and_true, zz0, true_implies, Nat.reduceLT, Nat.reduceLeDiff, zzI, look_nil, Nat.reduceBEq, implies_true, Nat.reduceSub, S_getD, zz5, and_imp, imp_and, imp_self, and_self, evS_move, zz21, gr_v, zz22, zz25, zz13, pickK_l, pickK_r, zz6, Nat.reduceEqDiff, ↓reduceIte]
    refine hK1 _ ?_; try clear hK1 K1
    refine awp_keepL [1, 2, 3, 6, 8, 28] ?_
    simp only [zz20, zzI, look_nil, Nat.reduceBEq]
    refine awp_condS _ (by decide) (by simp only [look_cons, Nat.reduceBEq, cond_true, cond_false]; rfl) ?_ ?_
    · intro hb
      have hid : idBad id_ = true := hb
      clear hb
      refine awp_seq fun K2 hK2 => ?_
      refine awp_plain F_mixed [some 29, none, some 7] rfl ?_
      simp only [List.nil_append, List.cons_append, true_and, and_true, zz0, true_implies, Nat.reduceLT, Nat.reduceLeDiff, zzI, look_nil, Nat.reduceBEq, implies_true, F_ok28, F_ag28, F_sz28, zz8, zz23, zzD, Nat.reduceAdd, Nat.zero_add, zzF, zzB, zzE, zz16, Option.some.injEq, exists_eq_left', exists_eq_left, Option.map_some, eq_self, reduceCtorEq, and_self, zz18, splice, List.append_nil, zz1, zzG, evS_assign, zz6, Nat.reduceEqDiff, ↓reduceIte]
      refine hK2 _ ?_; try clear hK2 K2
      refine awp_keepL [6, 7] ?_
      simp only [zz20, zzI, look_nil, Nat.reduceBEq]
      have e : postE ⟨nx, l⟩ id_ g = 3 := by rw [postE_def, ho, hid]; first | done | rfl | assumption
      have ev : postV ⟨nx, l⟩ id_ g = ⟨0, []⟩ := post_no (by rw [e]; first | decide | assumption)
      refine awp_le (le_SK id [0] rfl (l' := [(6, .ptr 6 0 0), (7, .d (iv 3))]) (m' := [(6, (⟨True, 28, 2, true, false, 6, [[.d (.v (.int .i64 0)), .ref 0 0]]⟩ : ARow)), (0, (⟨True, 65, 4, true, true, 0, []⟩ : ARow))]) ?_ ?_ ?_ ?_) ?_
      · simp only [leV, look_cons, Nat.reduceBEq, cond_true, cond_false]; exact ⟨VLe.ptr_ (f := id) (by decide), VLe.still rfl, trivial⟩
      · exact ⟨fun _ => ⟨_, rfl, RowLe.cells (VLess.one_ (VLes.cons_ (VLe.still rfl) (VLes.cons_ (VLe.nil_ (by decide)) VLes.nil_)))⟩, fun h => by simp at h, fun h => by simp at h, fun _ => rfl, trivial⟩
      · simp [wfV, AV.ids, lookR]
      · simp [wfR, AV.idsL, AV.ids, lookR]
      refine awp_ret ?_
      simp only [zz6, Nat.reduceEqDiff, ↓reduceIte]
      rw [ev, e]
      refine doneN [0] (by simp [resCs, resC, S, List.getD, look_cons, lookR, F_ag28, F_sz28, F_ok28]) ?_ (by simp [flatA, flatAs, flatD, ]) (by simp [AV.ids, AV.idsL, ]) (by decide) ?_
      · simp only [List.map_cons, List.map_nil, resA, S_getD, S_mem, lookR_cons, lookR_nil, Nat.reduceLT, Nat.reduceLeDiff, look_cons, Nat.reduceBEq, cond_true, cond_false, resAll, List.getD_cons_zero, List.getD_cons_succ, List.drop_zero, List.drop_succ_cons, List.take_succ_cons, List.take_zero, F_ag28, F_sz28, F_ok28]; rfl
      · exact ⟨⟨_, rfl, trivial, rfl, rfl, rfl, rfl⟩, by simp [flatDs, flatD, legC], trivial⟩
    · intro hb
      have hid : idBad id_ = false := hb
      clear hb
      refine awp_skip ?_
      simp only [zz6, Nat.reduceEqDiff, ↓reduceIte]
      refine hK0 _ ?_; try clear hK0 K0
      refine awp_keepL [1, 2, 3, 6, 8] ?_
      simp only [zz20, zzI, look_nil, Nat.reduceBEq]
      refine awp_seq fun K0 hK0 => ?_
      refine awp_seq fun K1 hK1 => ?_
      refine awp_plain F_mixed [some 30, some 31, some 32, some 33] rfl ?_
      simp only [List.nil_append, List.cons_append, true_and, and_true, zz0, true_implies, Nat.reduceLT, Nat.reduceLeDiff, zzI, look_nil, Nat.reduceBEq, implies_true, evS_move, zz19, zz23, F_off28_0, zzB, Nat.zero_add, Nat.reduceAdd, F_ok3, F_ag3, F_sz3, zz8, zzD, zzF, zzE, zz16, Option.some.injEq, exists_eq_left', exists_eq_left, Option.map_some, eq_self, reduceCtorEq, and_self, zz21, gr_v, b_leq, pure_leq, zz6, Nat.reduceEqDiff, ↓reduceIte]
      refine hK1 _ ?_; try clear hK1 K1
      refine awp_keepL [1, 2, 3, 6, 8, 33] ?_
      simp only [zz20, zzI, look_nil, Nat.reduceBEq]
      refine awp_condS _ (by decide) (by simp only [look_cons, Nat.reduceBEq, cond_true, cond_false]; rfl) ?_ ?_
      · intro hb
        have hlt : decide (id_ ≤ nx) = true := hb
        clear hb
        refine awp_seq fun K2 hK2 => ?_
        refine awp_plain F_mixed [some 34, none, some 7] rfl ?_
        simp only [List.nil_append, List.cons_append, true_and, and_true, zz0, true_implies, Nat.reduceLT, Nat.reduceLeDiff, zzI, look_nil, Nat.reduceBEq, implies_true, F_ok28, F_ag28, F_sz28, zz8, zz23, zzD, Nat.reduceAdd, Nat.zero_add, zzF, zzB, zzE, zz16, Option.some.injEq, exists_eq_left', exists_eq_left, Option.map_some, eq_self, reduceCtorEq, and_self, zz18, splice, List.append_nil, zz1, zzG, evS_assign, zz6, Nat.reduceEqDiff, ↓reduceIte]
        refine hK2 _ ?_; try clear hK2 K2
        refine awp_keepL [6, 7] ?_
        simp only [zz20, zzI, look_nil, Nat.reduceBEq]
        have e : postE ⟨nx, l⟩ id_ g = 18 := by rw [postE_def, ho, hid, hlt]; first | done | rfl | assumption
        have ev : postV ⟨nx, l⟩ id_ g = ⟨0, []⟩ := post_no (by rw [e]; first | decide | assumption)
        refine awp_le (le_SK id [0] rfl (l' := [(6, .ptr 6 0 0), (7, .d (iv 18))]) (m' := [(6, (⟨True, 28, 2, true, false, 6, [[.d (.v (.int .i64 0)), .ref 0 0]]⟩ : ARow)), (0, (⟨True, 65, 4, true, true, 0, []⟩ : ARow))]) ?_ ?_ ?_ ?_) ?_
        · simp only [leV, look_cons, Nat.reduceBEq, cond_true, cond_false]; exact ⟨VLe.ptr_ (f := id) (by decide), VLe.still rfl, trivial⟩
        · exact ⟨fun _ => ⟨_, rfl, RowLe.cells (VLess.one_ (VLes.cons_ (VLe.still rfl) (VLes.cons_ (VLe.nil_ (by decide)) VLes.nil_)))⟩, fun h => by simp at h, fun h => by simp at h, fun _ => rfl, trivial⟩
        · simp [wfV, AV.ids, lookR]
        · simp [wfR, AV.idsL, AV.ids, lookR]
        refine awp_ret ?_
        simp only [zz6, Nat.reduceEqDiff, ↓reduceIte]
        rw [ev, e]
        refine doneN [0] (by simp [resCs, resC, S, List.getD, look_cons, lookR, F_ag28, F_sz28, F_ok28]) ?_ (by simp [flatA, flatAs, flatD, ]) (by simp [AV.ids, AV.idsL, ]) (by decide) ?_
        · simp only [List.map_cons, List.map_nil, resA, S_getD, S_mem, lookR_cons, lookR_nil, Nat.reduceLT, Nat.reduceLeDiff, look_cons, Nat.reduceBEq, cond_true, cond_false, resAll, List.getD_cons_zero, List.getD_cons_succ, List.drop_zero, List.drop_succ_cons, List.take_succ_cons, List.take_zero, F_ag28, F_sz28, F_ok28]; rfl
        · exact ⟨⟨_, rfl, trivial, rfl, rfl, rfl, rfl⟩, by simp [flatDs, flatD, legC], trivial⟩
      · intro hb
        have hlt : decide (id_ ≤ nx) = false := hb
        clear hb
        refine awp_skip ?_
        simp only [zz6, Nat.reduceEqDiff, ↓reduceIte]
        refine hK0 _ ?_; try clear hK0 K0
        refine awp_keepL [1, 2, 3, 6, 8] ?_
        simp only [zz20, zzI, look_nil, Nat.reduceBEq]
        refine awp_seq fun K0 hK0 => ?_
        refine awp_plain F_mixed [some 35, some 36, some 9] rfl ?_
        simp only [List.nil_append, List.cons_append, true_and, and_true, zz0, true_implies, Nat.reduceLT, Nat.reduceLeDiff, zzI, look_nil, Nat.reduceBEq, implies_true, evS_move, evS_call, evC_value, evS_assign, legs, zz6, Nat.reduceEqDiff, ↓reduceIte]
        refine call_go F_go43 (fun hG => rCheck_ g (by omega)) (by simp [AV.ids, AV.idsL]) (by simp) ?_
        simp only [List.nil_append, List.cons_append, true_and, and_true, zz0, true_implies, Nat.reduceLT, Nat.reduceLeDiff, zzI, look_nil, Nat.reduceBEq, implies_true, evS_move, evS_call, evC_value, evS_assign, legs, zz6, Nat.reduceEqDiff, ↓reduceIte, atsL, oksG, freeN, AV.ren, AV.renL, addRows, ORow.row, Nat.reduceMul, Nat.reduceAdd, zz9, Option.bind_some, Option.map_some, forall_eq', D.sl.injEq, zz16, Option.some.injEq, exists_eq_left', exists_eq_left, exists_eq', exists_eq, zzD, zz2]
        refine hK0 _ ?_; try clear hK0 K0
        refine awp_keepL [1, 2, 3, 6, 8, 9] ?_
        simp only [zz20, zzI, look_nil, Nat.reduceBEq]
        refine awp_seq fun K0 hK0 => ?_
        refine awp_seq fun K1 hK1 => ?_
        refine awp_plain F_mixed [some 37, some 38] rfl ?_
        simp only [List.nil_append, List.cons_append, true_and, and_true, zz0, true_implies, Nat.reduceLT, Nat.reduceLeDiff, zzI, look_nil, Nat.reduceBEq, implies_true, evS_move, zz21, gr_v, zz28, zz6, Nat.reduceEqDiff, ↓reduceIte]
        refine hK1 _ ?_; try clear hK1 K1
        refine awp_keepL [1, 2, 3, 6, 8, 9, 38] ?_
        simp only [zz20, zzI, look_nil, Nat.reduceBEq]
        refine awp_condS _ (by decide) (by simp only [look_cons, Nat.reduceBEq, cond_true, cond_false]; rfl) ?_ ?_
        · intro hb
          have hc : (chkE g != 0) = true := hb
          clear hb
          have hc2 : chkE g ≠ 0 := by simpa using hc
          refine awp_seq fun K2 hK2 => ?_
          refine awp_plain F_mixed [some 39, some 40, none, some 7] rfl ?_
          simp only [List.nil_append, List.cons_append, true_and, and_true, zz0, true_implies, Nat.reduceLT, Nat.reduceLeDiff, zzI, look_nil, Nat.reduceBEq, implies_true, F_ok28, F_ag28, F_sz28, zz8, zz23, zzD, Nat.reduceAdd, Nat.zero_add, zzF, zzB, zzE, zz16, Option.some.injEq, exists_eq_left', exists_eq_left, Option.map_some, eq_self, reduceCtorEq, and_self, evS_move, zz18, splice, List.append_nil, zz1, zzG, evS_assign, zz6, Nat.reduceEqDiff, ↓reduceIte]
          refine hK2 _ ?_; try clear hK2 K2
          refine awp_keepL [6, 7] ?_
          simp only [zz20, zzI, look_nil, Nat.reduceBEq]
          have e : postE ⟨nx, l⟩ id_ g = chkE g := by rw [postE_def, ho, hid, hlt, hc]; first | done | rfl | assumption
          have ev : postV ⟨nx, l⟩ id_ g = ⟨0, []⟩ := post_no (by rw [e]; first | decide | assumption)
          refine awp_le (le_SK id [0] rfl (l' := [(6, .ptr 6 0 0), (7, .d (iv (chkE g)))]) (m' := [(6, (⟨True, 28, 2, true, false, 6, [[.d (.v (.int .i64 0)), .ref 0 0]]⟩ : ARow)), (0, (⟨True, 65, 4, true, true, 0, []⟩ : ARow))]) ?_ ?_ ?_ ?_) ?_
          · simp only [leV, look_cons, Nat.reduceBEq, cond_true, cond_false]; exact ⟨VLe.ptr_ (f := id) (by decide), VLe.still rfl, trivial⟩
          · exact ⟨fun _ => ⟨_, rfl, RowLe.cells (VLess.one_ (VLes.cons_ (VLe.still rfl) (VLes.cons_ (VLe.nil_ (by decide)) VLes.nil_)))⟩, fun h => by simp at h, fun h => by simp at h, fun _ => rfl, trivial⟩
          · simp [wfV, AV.ids, lookR]
          · simp [wfR, AV.idsL, AV.ids, lookR]
          refine awp_ret ?_
          simp only [zz6, Nat.reduceEqDiff, ↓reduceIte]
          rw [ev, e]
          refine doneN [0] (by simp [resCs, resC, S, List.getD, look_cons, lookR, F_ag28, F_sz28, F_ok28]) ?_ (by simp [flatA, flatAs, flatD, ]) (by simp [AV.ids, AV.idsL, ]) (by decide) ?_
          · simp only [List.map_cons, List.map_nil, resA, S_getD, S_mem, lookR_cons, lookR_nil, Nat.reduceLT, Nat.reduceLeDiff, look_cons, Nat.reduceBEq, cond_true, cond_false, resAll, List.getD_cons_zero, List.getD_cons_succ, List.drop_zero, List.drop_succ_cons, List.take_succ_cons, List.take_zero, F_ag28, F_sz28, F_ok28]; rfl
          · exact ⟨⟨_, rfl, trivial, rfl, rfl, rfl, rfl⟩, by simp [flatDs, flatD, legC], trivial⟩
        · intro hb
          have hc : (chkE g != 0) = false := hb
          clear hb
          have hc2 : chkE g = 0 := by simpa using hc
          have hgk := ((chkE_iff g).1 hc2).2.2.1
          have hmk : (g ++ l).all legOk = true := all_app hgk hG.ok
          have hla : allAc.length ≤ 306 := kL_len 6
          refine awp_skip ?_
          simp only [zz6, Nat.reduceEqDiff, ↓reduceIte]
          refine hK0 _ ?_; try clear hK0 K0
          refine awp_keepL [1, 2, 3, 6, 8] ?_
          simp only [zz20, zzI, look_nil, Nat.reduceBEq]
          refine awp_seq fun K0 hK0 => ?_
          refine awp_plain F_mixed [some 41, some 42, some 10, none] rfl ?_
          simp only [List.nil_append, List.cons_append, true_and, and_true, zz0, true_implies, Nat.reduceLT, Nat.reduceLeDiff, zzI, look_nil, Nat.reduceBEq, implies_true, evS_move, F_zero28, F_bld28, zz7, splice, Option.getD_some, List.append_nil, zz1, zzG, zzD, zz16, Option.some.injEq, exists_eq_left', exists_eq_left, Option.map_some, eq_self, reduceCtorEq, and_self, Nat.reduceAdd, Nat.zero_add, zzF, zzB, zzE, zz10, F_fld28_0, zz32, newRow1, zz18, F_ok28, F_sz28, zz6, Nat.reduceEqDiff, ↓reduceIte]
          refine hK0 _ ?_; try clear hK0 K0
          refine awp_keepL [2, 3, 6, 8, 10] ?_
          simp only [zz20, zzI, look_nil, Nat.reduceBEq]
          refine awp_seq fun K0 hK0 => ?_
          refine awp_plain F_mixed [some 11] rfl ?_
          simp only [List.nil_append, List.cons_append, true_and, and_true, zz0, true_implies, Nat.reduceLT, Nat.reduceLeDiff, zzI, look_nil, Nat.reduceBEq, implies_true, evS_assign, zz6, Nat.reduceEqDiff, ↓reduceIte]
          refine hK0 _ ?_; try clear hK0 K0
          refine awp_keepL [2, 3, 6, 8, 10, 11] ?_
          simp only [zz20, zzI, look_nil, Nat.reduceBEq]
          refine awp_seq fun K0 hK0 => ?_
          refine awp_plain F_mixed [some 43, some 44, some 12] rfl ?_
          simp only [List.nil_append, List.cons_append, true_and, and_true, zz0, true_implies, Nat.reduceLT, Nat.reduceLeDiff, zzI, look_nil, Nat.reduceBEq, implies_true, F_sl50, F_zero3, F_sz3, zz3, newRow1, zz1, zzG, zzD, zz16, Option.some.injEq, exists_eq_left', exists_eq_left, Option.map_some, eq_self, reduceCtorEq, and_self, Nat.reduceAdd, Nat.zero_add, zzF, zzB, zzE, maxLen_le, Nat.reduceMul, evS_call, evC_value, evS_assign, ints, List.map_cons, D.sl.injEq, zz6, Nat.reduceEqDiff, ↓reduceIte]
          refine call_go F_go44 (fun hG => rAllF) (by simp [AV.ids, AV.idsL]) (by simp) ?_
          simp only [List.nil_append, List.cons_append, true_and, and_true, zz0, true_implies, Nat.reduceLT, Nat.reduceLeDiff, zzI, look_nil, Nat.reduceBEq, implies_true, F_sl50, F_zero3, F_sz3, zz3, newRow1, zz1, zzG, zzD, zz16, Option.some.injEq, exists_eq_left', exists_eq_left, Option.map_some, eq_self, reduceCtorEq, and_self, Nat.reduceAdd, Nat.zero_add, zzF, zzB, zzE, maxLen_le, Nat.reduceMul, evS_call, evC_value, evS_assign, ints, List.map_cons, D.sl.injEq, zz6, Nat.reduceEqDiff, ↓reduceIte, atsL, oksG, freeN, AV.ren, AV.renL, addRows, ORow.row, Nat.reduceMul, Nat.reduceAdd, zz9, Option.bind_some, Option.map_some, forall_eq', D.sl.injEq, S_mem, Option.some.injEq, exists_eq_left', exists_eq_left, exists_eq', exists_eq, List.length_cons, zz2]
          refine hK0 _ ?_; try clear hK0 K0
          refine awp_keepL [2, 3, 6, 8, 10, 11, 12] ?_
          simp only [zz20, zzI, look_nil, Nat.reduceBEq]
          refine awp_seq fun K0 hK0 => ?_
          refine awp_seq fun K1 hK1 => ?_
          refine awp_plain F_mixed [some 13] rfl ?_
          simp only [List.nil_append, List.cons_append, true_and, and_true, zz0, true_implies, Nat.reduceLT, Nat.reduceLeDiff, zzI, look_nil, Nat.reduceBEq, implies_true, evS_assign, zz6, Nat.reduceEqDiff, ↓reduceIte]
          refine hK1 _ ?_; try clear hK1 K1
          refine awp_keepL [2, 3, 6, 8, 10, 11, 12, 13] ?_
          simp only [zz20, zzI, look_nil, Nat.reduceBEq]
          refine awp_block ?_
          refine awp_loop (fun m s => ∃ (A : List AcV) (B : List AcV), (allAc = A ++ B) ∧ (∀ a ∈ A, rightN (sumA a (g ++ l)) = true) ∧ m = B.length ∧ s = S 116 [(2, .d (legs g)), (3, .ptr 3 0 0), (6, .ptr 6 0 0), (8, .ptr 8 0 0), (10, .ptr 10 0 0), (11, .d (.v (.bool (lowA (g ++ l) A)))), (12, .d (acs allAc)), (13, .d (iv A.length))] [(3, (⟨True, 28, 2, true, false, 3, [[.d (iv nx), .d (.sl 4 (l.map legC))]]⟩ : ARow)), (6, (⟨True, 28, 2, true, false, 6, [[.d (.v (.int .i64 0)), .d (.v (.slice none 0 0))]]⟩ : ARow)), (8, (⟨True, 28, 2, true, false, 8, [[.d (.v (.int .i64 0)), .d (.v (.slice none 0 0))]]⟩ : ARow)), (10, (⟨True, 28, 2, true, false, 10, [[.d (iv id_), .ref 500 (rOut (g ++ l) A).length]]⟩ : ARow)), (500, grow 65 4 500 ((rOut (g ++ l) A).map legC))]) (allAc.length) _ (le_SK id [500] rfl (l' := [(2, .d (legs g)), (3, .ptr 3 0 0), (6, .ptr 6 0 0), (8, .ptr 8 0 0), (10, .ptr 10 0 0), (11, .d (.v (.bool (lowA (g ++ l) [])))), (12, .d (acs allAc)), (13, .d (iv [].length))]) (m' := [(3, (⟨True, 28, 2, true, false, 3, [[.d (iv nx), .d (.sl 4 (l.map legC))]]⟩ : ARow)), (6, (⟨True, 28, 2, true, false, 6, [[.d (.v (.int .i64 0)), .d (.v (.slice none 0 0))]]⟩ : ARow)), (8, (⟨True, 28, 2, true, false, 8, [[.d (.v (.int .i64 0)), .d (.v (.slice none 0 0))]]⟩ : ARow)), (10, (⟨True, 28, 2, true, false, 10, [[.d (iv id_), .ref 500 (rOut (g ++ l) []).length]]⟩ : ARow)), (500, grow 65 4 500 ((rOut (g ++ l) []).map legC))]) ?_ ?_ ?_ ?_) ⟨[], allAc, rfl, by simp, rfl, rfl⟩ ?_
          · simp only [leV, look_cons, Nat.reduceBEq, cond_true, cond_false]; exact ⟨(by first | exact VLe.still rfl | exact VLe.nil_ (by decide) | exact VLe.nild_ | exact VLe.refl _ | exact VLe.ptrE (by simp) (by rfl) | exact VLe.refE (by simp) (by rfl) (by first | rfl | simp | (simp; omega)) | exact VLe.dE (by first | rfl | simp)), (by first | exact VLe.still rfl | exact VLe.nil_ (by decide) | exact VLe.nild_ | exact VLe.refl _ | exact VLe.ptrE (by simp) (by rfl) | exact VLe.refE (by simp) (by rfl) (by first | rfl | simp | (simp; omega)) | exact VLe.dE (by first | rfl | simp)), (by first | exact VLe.still rfl | exact VLe.nil_ (by decide) | exact VLe.nild_ | exact VLe.refl _ | exact VLe.ptrE (by simp) (by rfl) | exact VLe.refE (by simp) (by rfl) (by first | rfl | simp | (simp; omega)) | exact VLe.dE (by first | rfl | simp)), (by first | exact VLe.still rfl | exact VLe.nil_ (by decide) | exact VLe.nild_ | exact VLe.refl _ | exact VLe.ptrE (by simp) (by rfl) | exact VLe.refE (by simp) (by rfl) (by first | rfl | simp | (simp; omega)) | exact VLe.dE (by first | rfl | simp)), (by first | exact VLe.still rfl | exact VLe.nil_ (by decide) | exact VLe.nild_ | exact VLe.refl _ | exact VLe.ptrE (by simp) (by rfl) | exact VLe.refE (by simp) (by rfl) (by first | rfl | simp | (simp; omega)) | exact VLe.dE (by first | rfl | simp)), VLe.dE rfl, (by first | exact VLe.still rfl | exact VLe.nil_ (by decide) | exact VLe.nild_ | exact VLe.refl _ | exact VLe.ptrE (by simp) (by rfl) | exact VLe.refE (by simp) (by rfl) (by first | rfl | simp | (simp; omega)) | exact VLe.dE (by first | rfl | simp)), (by first | exact VLe.still rfl | exact VLe.nil_ (by decide) | exact VLe.nild_ | exact VLe.refl _ | exact VLe.ptrE (by simp) (by rfl) | exact VLe.refE (by simp) (by rfl) (by first | rfl | simp | (simp; omega)) | exact VLe.dE (by first | rfl | simp)), trivial⟩
          · exact ⟨fun _ => ⟨_, rfl, (by first | exact RowLe.data_ (by first | rfl | simp) | exact RowLe.uq2 (by first | rfl | simp) (by simp) ids_data | exact RowLe.still (by simp [AV.idsL, AV.ids]) | exact RowLe.same (by simp) (by simp [AV.idsL, AV.ids]))⟩, fun h => by simp at h, fun _ => ⟨_, rfl, (by first | exact RowLe.data_ (by first | rfl | simp) | exact RowLe.uq2 (by first | rfl | simp) (by simp) ids_data | exact RowLe.still (by simp [AV.idsL, AV.ids]) | exact RowLe.same (by simp) (by simp [AV.idsL, AV.ids]))⟩, fun h => by simp at h, fun _ => ⟨_, rfl, (by first | exact RowLe.data_ (by first | rfl | simp) | exact RowLe.uq2 (by first | rfl | simp) (by simp) ids_data | exact RowLe.still (by simp [AV.idsL, AV.ids]) | exact RowLe.same (by simp) (by simp [AV.idsL, AV.ids]))⟩, fun h => by simp at h, fun _ => ⟨_, rfl, RowLe.cells (VLess.one_ (VLes.cons_ (VLe.dE rfl) (VLes.cons_ (VLe.nil_ (by decide)) VLes.nil_)))⟩, fun h => by simp at h, fun h => by simp at h, fun _ => rfl, trivial⟩
          · simp [wfV, AV.ids, AV.idsL, lookR, grow]
          · exact ⟨by simp [AV.idsL, AV.ids, lookR], by simp [AV.idsL, AV.ids, lookR], by simp [AV.idsL, AV.ids, lookR], by simp [AV.idsL, AV.ids, lookR], wf_data _ _, trivial⟩
          rintro m s ⟨A, B, hAB, hra, rfl, rfl⟩
          have hABl := congrArg List.length hAB
          simp only [List.length_append] at hABl
          have hrl := rOut_len (g ++ l) A
          refine awp_seq fun K2 hK2 => ?_
          refine awp_seq fun K3 hK3 => ?_
          refine awp_plain F_mixed [some 45, some 46, some 47, some 48] rfl ?_
          simp only [List.nil_append, List.cons_append, true_and, and_true, zz0, true_implies, Nat.reduceLT, Nat.reduceLeDiff, zzI, look_nil, Nat.reduceBEq, implies_true, evS_move, evS_call, zz12, F_sl75, Option.isSome_some, zz21, gr_v, zz22, acs, len_map, zz6, Nat.reduceEqDiff, ↓reduceIte]
          refine hK3 _ ?_; try clear hK3 K3
          refine awp_keepL [2, 3, 6, 8, 10, 11, 12, 13, 48] ?_
          simp only [zz20, zzI, look_nil, Nat.reduceBEq]
          refine awp_condS _ (by decide) (by simp only [look_cons, Nat.reduceBEq, cond_true, cond_false]; rfl) ?_ ?_
          · intro hb
            obtain ⟨a, B2, rfl⟩ : ∃ x t, B = x :: t := by
              cases B with
              | nil => have := of_decide_eq_true hb; simp at hABl; omega
              | cons x t => exact ⟨x, t, rfl⟩
            clear hb
            simp only [List.length_cons] at hABl
            have ga : (allAc.map acC).getD A.length [] = [iv a.kind, iv a.who, iv a.cur] := by
              rw [hAB, List.map_append]; exact gd_mid' (A := A.map acC) _ _ (by simp)
            have ba := ltI (show A.length < allAc.length by omega)
            have hwa : IntKind.wrap .i64 ((A.length : Int) + 1) = ((A ++ [a]).length : Int) := by rw [wrapI (by omega) (by omega)]; simp
            have haA : a ∈ allAc := by rw [hAB]; simp
            have hrtB : ∀ x ∈ amtB a (ofL a l) g, -9223372036854775808 ≤ x ∧ x < 9223372036854775808 := amtB_rt (s := ⟨nx, l⟩) hG hgk a
            have hsumB : (amtB a (ofL a l) g).sum = sumA a (g ++ l) := amtB_sum (l := l) hG.asc a g
            have hal : (amtB a (ofL a l) g).length ≤ g.length + 1 := by have := amtA_len a g; simp only [amtB, List.length_cons]; omega
            refine awp_skip ?_
            simp only [zz6, Nat.reduceEqDiff, ↓reduceIte]
            refine hK2 _ ?_; try clear hK2 K2
            refine awp_keepL [2, 3, 6, 8, 10, 11, 12, 13] ?_
            simp only [zz20, zzI, look_nil, Nat.reduceBEq]
            refine awp_seq fun K2 hK2 => ?_
            refine awp_block ?_
            refine awp_seq fun K3 hK3 => ?_
            refine awp_draw F_mixed [some 51, some 52, some 53, some 54, some 55, some 56, some 57, some 14] rfl (by kernel_rfl) ?_
            simp only [List.nil_append, List.cons_append, true_and, and_true, zz0, true_implies, Nat.reduceLT, Nat.reduceLeDiff, zzI, look_nil, Nat.reduceBEq, implies_true, F_ok28, F_ag28, F_sz28, zz8, zz23, zzD, Nat.reduceAdd, Nat.zero_add, zzF, zzB, zzE, zz16, Option.some.injEq, exists_eq_left', exists_eq_left, Option.map_some, eq_self, reduceCtorEq, and_self, evS_move, evS_indexAddr, zz24, F_sl75, F_sz24, F_ok24, F_ag24, evS_call, evC_value, F_sl50, F_zero3, F_sz3, zz3, newRow1, zz1, zzG, maxLen_le, Nat.reduceMul, evS_assign, acs, acC, ledC, legs, ga, ba, hwa, len_map, ge0, Int.toNat_natCast, D.agg.injEq, zz6, Nat.reduceEqDiff, ↓reduceIte]
            refine call_go F_go24 (fun hG => rOf_ nx l a (by omega)) (by simp [AV.ids, AV.idsL]) (by simp) ?_
            simp only [List.nil_append, List.cons_append, true_and, and_true, zz0, true_implies, Nat.reduceLT, Nat.reduceLeDiff, zzI, look_nil, Nat.reduceBEq, implies_true, F_ok28, F_ag28, F_sz28, zz8, zz23, zzD, Nat.reduceAdd, Nat.zero_add, zzF, zzB, zzE, zz16, Option.some.injEq, exists_eq_left', exists_eq_left, Option.map_some, eq_self, reduceCtorEq, and_self, evS_move, evS_indexAddr, zz24, F_sl75, F_sz24, F_ok24, F_ag24, evS_call, evC_value, F_sl50, F_zero3, F_sz3, zz3, newRow1, zz1, zzG, maxLen_le, Nat.reduceMul, evS_assign, acs, acC, ledC, legs, ga, ba, hwa, len_map, ge0, Int.toNat_natCast, D.agg.injEq, zz6, Nat.reduceEqDiff, ↓reduceIte, atsL, oksG, freeN, AV.ren, AV.renL, addRows, ORow.row, Nat.reduceMul, Nat.reduceAdd, zz9, Option.bind_some, Option.map_some, forall_eq', D.sl.injEq, S_mem, Option.some.injEq, exists_eq_left', exists_eq_left, exists_eq', exists_eq, List.length_cons, zz2]
            refine hK3 _ ?_; try clear hK3 K3
            refine awp_keepL [2, 3, 6, 8, 10, 11, 12, 13, 14] ?_
            simp only [zz20, zzI, look_nil, Nat.reduceBEq]
            refine awp_seq fun K3 hK3 => ?_
            refine awp_seq fun K4 hK4 => ?_
            refine awp_plain F_mixed [some 15] rfl ?_
            simp only [List.nil_append, List.cons_append, true_and, and_true, zz0, true_implies, Nat.reduceLT, Nat.reduceLeDiff, zzI, look_nil, Nat.reduceBEq, implies_true, evS_assign, zz6, Nat.reduceEqDiff, ↓reduceIte]
            refine hK4 _ ?_; try clear hK4 K4
            refine awp_keepL [2, 3, 6, 8, 10, 11, 12, 13, 14, 15] ?_
            simp only [zz20, zzI, look_nil, Nat.reduceBEq]
            refine awp_block ?_
            refine awp_loop (fun m s => ∃ (gp : List LegV) (gq : List LegV), (g = gp ++ gq) ∧ m = gq.length ∧ s = S 116 [(2, .d (legs g)), (3, .ptr 3 0 0), (6, .ptr 6 0 0), (8, .ptr 8 0 0), (10, .ptr 10 0 0), (11, .d (.v (.bool (lowA (g ++ l) A)))), (12, .d (acs allAc)), (13, .d (iv A.length)), (14, .ref 14 (amtB a (ofL a l) gp).length), (15, .d (iv gp.length))] [(3, (⟨True, 28, 2, true, false, 3, [[.d (iv nx), .d (.sl 4 (l.map legC))]]⟩ : ARow)), (6, (⟨True, 28, 2, true, false, 6, [[.d (.v (.int .i64 0)), .d (.v (.slice none 0 0))]]⟩ : ARow)), (8, (⟨True, 28, 2, true, false, 8, [[.d (.v (.int .i64 0)), .d (.v (.slice none 0 0))]]⟩ : ARow)), (10, (⟨True, 28, 2, true, false, 10, [[.d (iv id_), .ref 500 (rOut (g ++ l) A).length]]⟩ : ARow)), (500, grow 65 4 500 ((rOut (g ++ l) A).map legC)), (14, grow 3 1 14 ((amtB a (ofL a l) gp).map fun n => [iv n]))]) (g.length) _ (le_SK (fun r => bif r == 14 then 57 else r) [] rfl (l' := [(2, .d (legs g)), (3, .ptr 3 0 0), (6, .ptr 6 0 0), (8, .ptr 8 0 0), (10, .ptr 10 0 0), (11, .d (.v (.bool (lowA (g ++ l) A)))), (12, .d (acs allAc)), (13, .d (iv A.length)), (14, .ref 14 (amtB a (ofL a l) []).length), (15, .d (iv [].length))]) (m' := [(3, (⟨True, 28, 2, true, false, 3, [[.d (iv nx), .d (.sl 4 (l.map legC))]]⟩ : ARow)), (6, (⟨True, 28, 2, true, false, 6, [[.d (.v (.int .i64 0)), .d (.v (.slice none 0 0))]]⟩ : ARow)), (8, (⟨True, 28, 2, true, false, 8, [[.d (.v (.int .i64 0)), .d (.v (.slice none 0 0))]]⟩ : ARow)), (10, (⟨True, 28, 2, true, false, 10, [[.d (iv id_), .ref 500 (rOut (g ++ l) A).length]]⟩ : ARow)), (500, grow 65 4 500 ((rOut (g ++ l) A).map legC)), (14, grow 3 1 14 ((amtB a (ofL a l) []).map fun n => [iv n]))]) ?_ ?_ ?_ ?_) ⟨[], g, rfl, rfl, rfl⟩ ?_
            · simp only [leV, look_cons, Nat.reduceBEq, cond_true, cond_false]; exact ⟨(by first | exact VLe.still rfl | exact VLe.nil_ (by decide) | exact VLe.nild_ | exact VLe.refl _ | exact VLe.ptrE (by simp) (by rfl) | exact VLe.refE (by simp) (by rfl) (by first | rfl | simp | (simp; omega)) | exact VLe.dE (by first | rfl | simp)), (by first | exact VLe.still rfl | exact VLe.nil_ (by decide) | exact VLe.nild_ | exact VLe.refl _ | exact VLe.ptrE (by simp) (by rfl) | exact VLe.refE (by simp) (by rfl) (by first | rfl | simp | (simp; omega)) | exact VLe.dE (by first | rfl | simp)), (by first | exact VLe.still rfl | exact VLe.nil_ (by decide) | exact VLe.nild_ | exact VLe.refl _ | exact VLe.ptrE (by simp) (by rfl) | exact VLe.refE (by simp) (by rfl) (by first | rfl | simp | (simp; omega)) | exact VLe.dE (by first | rfl | simp)), (by first | exact VLe.still rfl | exact VLe.nil_ (by decide) | exact VLe.nild_ | exact VLe.refl _ | exact VLe.ptrE (by simp) (by rfl) | exact VLe.refE (by simp) (by rfl) (by first | rfl | simp | (simp; omega)) | exact VLe.dE (by first | rfl | simp)), (by first | exact VLe.still rfl | exact VLe.nil_ (by decide) | exact VLe.nild_ | exact VLe.refl _ | exact VLe.ptrE (by simp) (by rfl) | exact VLe.refE (by simp) (by rfl) (by first | rfl | simp | (simp; omega)) | exact VLe.dE (by first | rfl | simp)), (by first | exact VLe.still rfl | exact VLe.nil_ (by decide) | exact VLe.nild_ | exact VLe.refl _ | exact VLe.ptrE (by simp) (by rfl) | exact VLe.refE (by simp) (by rfl) (by first | rfl | simp | (simp; omega)) | exact VLe.dE (by first | rfl | simp)), (by first | exact VLe.still rfl | exact VLe.nil_ (by decide) | exact VLe.nild_ | exact VLe.refl _ | exact VLe.ptrE (by simp) (by rfl) | exact VLe.refE (by simp) (by rfl) (by first | rfl | simp | (simp; omega)) | exact VLe.dE (by first | rfl | simp)), (by first | exact VLe.still rfl | exact VLe.nil_ (by decide) | exact VLe.nild_ | exact VLe.refl _ | exact VLe.ptrE (by simp) (by rfl) | exact VLe.refE (by simp) (by rfl) (by first | rfl | simp | (simp; omega)) | exact VLe.dE (by first | rfl | simp)), (by first | exact VLe.still rfl | exact VLe.nil_ (by decide) | exact VLe.nild_ | exact VLe.refl _ | exact VLe.ptrE (by simp) (by rfl) | exact VLe.refE (by simp) (by rfl) (by first | rfl | simp | (simp; omega)) | exact VLe.dE (by first | rfl | simp)), (by first | exact VLe.still rfl | exact VLe.nil_ (by decide) | exact VLe.nild_ | exact VLe.refl _ | exact VLe.ptrE (by simp) (by rfl) | exact VLe.refE (by simp) (by rfl) (by first | rfl | simp | (simp; omega)) | exact VLe.dE (by first | rfl | simp)), trivial⟩
            · exact ⟨fun _ => ⟨_, rfl, (by first | exact RowLe.data_ (by first | rfl | simp) | exact RowLe.uq2 (by first | rfl | simp) (by simp) ids_data | exact RowLe.still (by simp [AV.idsL, AV.ids]) | exact RowLe.same (by simp) (by simp [AV.idsL, AV.ids]))⟩, fun h => by simp at h, fun _ => ⟨_, rfl, (by first | exact RowLe.data_ (by first | rfl | simp) | exact RowLe.uq2 (by first | rfl | simp) (by simp) ids_data | exact RowLe.still (by simp [AV.idsL, AV.ids]) | exact RowLe.same (by simp) (by simp [AV.idsL, AV.ids]))⟩, fun h => by simp at h, fun _ => ⟨_, rfl, (by first | exact RowLe.data_ (by first | rfl | simp) | exact RowLe.uq2 (by first | rfl | simp) (by simp) ids_data | exact RowLe.still (by simp [AV.idsL, AV.ids]) | exact RowLe.same (by simp) (by simp [AV.idsL, AV.ids]))⟩, fun h => by simp at h, fun _ => ⟨_, rfl, RowLe.cells (VLess.one_ (VLes.cons_ (VLe.dE rfl) (VLes.cons_ (VLe.refE (by simp) rfl (rfl)) VLes.nil_)))⟩, fun h => by simp at h, fun _ => ⟨_, rfl, (by first | exact RowLe.data_ (by first | rfl | simp) | exact RowLe.uq2 (by first | rfl | simp) (by simp) ids_data | exact RowLe.still (by simp [AV.idsL, AV.ids]) | exact RowLe.same (by simp) (by simp [AV.idsL, AV.ids]))⟩, fun h => by simp at h, fun _ => ⟨_, rfl, RowLe.uq2 (by rfl) (by simp) (by simp [AV.idsL, AV.ids])⟩, fun h => by simp at h, trivial⟩
            · simp [wfV, AV.ids, AV.idsL, lookR, grow]
            · exact ⟨by simp [AV.idsL, AV.ids, lookR], by simp [AV.idsL, AV.ids, lookR], by simp [AV.idsL, AV.ids, lookR], by simp [AV.idsL, AV.ids, lookR], wf_data _ _, wf_data _ _, trivial⟩
            rintro m s ⟨gp, gq, hgs, rfl, rfl⟩
            have hgsl := congrArg List.length hgs
            simp only [List.length_append] at hgsl
            have hql : (amtB a (ofL a l) gp).length ≤ gp.length + 1 := by have := amtA_len a gp; simp only [amtB, List.length_cons]; omega
            refine awp_seq fun K5 hK5 => ?_
            refine awp_seq fun K6 hK6 => ?_
            refine awp_plain F_mixed [some 58, some 59, some 60, some 61] rfl ?_
            simp only [List.nil_append, List.cons_append, true_and, and_true, zz0, true_implies, Nat.reduceLT, Nat.reduceLeDiff, zzI, look_nil, Nat.reduceBEq, implies_true, evS_move, evS_call, zz12, F_sl32, Option.isSome_some, zz21, gr_v, zz22, legs, len_map, zz6, Nat.reduceEqDiff, ↓reduceIte]
            refine hK6 _ ?_; try clear hK6 K6
            refine awp_keepL [2, 3, 6, 8, 10, 11, 12, 13, 14, 15, 61] ?_
            simp only [zz20, zzI, look_nil, Nat.reduceBEq]
            refine awp_condS _ (by decide) (by simp only [look_cons, Nat.reduceBEq, cond_true, cond_false]; rfl) ?_ ?_
            · intro hb
              obtain ⟨y, gq2, rfl⟩ : ∃ x t, gq = x :: t := by
                cases gq with
                | nil => have := of_decide_eq_true hb; simp at hgsl; omega
                | cons x t => exact ⟨x, t, rfl⟩
              clear hb
              simp only [List.length_cons] at hgsl
              have gy : (g.map legC).getD gp.length [] = [iv y.ac.kind, iv y.ac.who, iv y.ac.cur, iv y.amt] := by
                rw [hgs, List.map_append]; exact gd_mid' (A := gp.map legC) _ _ (by simp)
              have by_ := ltI (show gp.length < g.length by omega)
              have hwy : IntKind.wrap .i64 ((gp.length : Int) + 1) = ((gp ++ [y]).length : Int) := by rw [wrapI (by omega) (by omega)]; simp
              refine awp_skip ?_
              simp only [zz6, Nat.reduceEqDiff, ↓reduceIte]
              refine hK5 _ ?_; try clear hK5 K5
              refine awp_keepL [2, 3, 6, 8, 10, 11, 12, 13, 14, 15] ?_
              simp only [zz20, zzI, look_nil, Nat.reduceBEq]
              refine awp_seq fun K5 hK5 => ?_
              refine awp_block ?_
              refine awp_seq fun K6 hK6 => ?_
              refine awp_draw F_mixed [some 64, some 65, some 66, some 67, some 68, some 69, some 70, some 71, some 72, some 73] rfl (by kernel_rfl) ?_
              simp only [List.nil_append, List.cons_append, true_and, and_true, zz0, true_implies, Nat.reduceLT, Nat.reduceLeDiff, zzI, look_nil, Nat.reduceBEq, implies_true, evS_move, evS_indexAddr, zz23, zz24, F_sl32, F_sz37, Option.map_some, zz16, Option.some.injEq, exists_eq_left', exists_eq_left, eq_self, reduceCtorEq, and_self, zz19, F_off37_0, zzB, Nat.zero_add, Nat.reduceAdd, F_ok24, F_ag24, F_sz24, zz8, zzD, zzF, zzE, F_sl75, evS_call, evC_value, legs, acs, gy, by_, hwy, ga, ba, legC, acC, len_map, ge0, Int.toNat_natCast, D.agg.injEq, zz6, Nat.reduceEqDiff, ↓reduceIte]
              refine call_go F_go42 (fun hG => rSame_ y.ac a) (by simp [AV.ids, AV.idsL]) (by simp) ?_
              simp only [List.nil_append, List.cons_append, true_and, and_true, zz0, true_implies, Nat.reduceLT, Nat.reduceLeDiff, zzI, look_nil, Nat.reduceBEq, implies_true, evS_move, evS_indexAddr, zz23, zz24, F_sl32, F_sz37, Option.map_some, zz16, Option.some.injEq, exists_eq_left', exists_eq_left, eq_self, reduceCtorEq, and_self, zz19, F_off37_0, zzB, Nat.zero_add, Nat.reduceAdd, F_ok24, F_ag24, F_sz24, zz8, zzD, zzF, zzE, F_sl75, evS_call, evC_value, legs, acs, gy, by_, hwy, ga, ba, legC, acC, len_map, ge0, Int.toNat_natCast, D.agg.injEq, zz6, Nat.reduceEqDiff, ↓reduceIte, atsL, oksG, freeN, AV.ren, AV.renL, addRows, ORow.row, Nat.reduceMul, Nat.reduceAdd, zz9, Option.bind_some, Option.map_some, forall_eq', D.sl.injEq, S_mem, Option.some.injEq, exists_eq_left', exists_eq_left, exists_eq', exists_eq, List.length_cons, zz2]
              refine hK6 _ ?_; try clear hK6 K6
              refine awp_keepL [2, 3, 6, 8, 10, 11, 12, 13, 14, 15, 73] ?_
              simp only [zz20, zzI, look_nil, Nat.reduceBEq]
              refine awp_condS _ (by decide) (by simp only [look_cons, Nat.reduceBEq, cond_true, cond_false]; rfl) ?_ ?_
              · intro hb
                have hs : acSame y.ac a = true := hb
                clear hb
                have hsl : amtB a (ofL a l) (gp ++ [y]) = amtB a (ofL a l) gp ++ [y.amt] := by simp only [amtB, amtA_snoc_yes hs gp, List.cons_append]
                refine awp_plain F_mixed [some 74, some 75, some 76, some 77, some 78, some 79, some 80, some 81, some 14] rfl ?_
                simp only [List.nil_append, List.cons_append, true_and, and_true, zz0, true_implies, Nat.reduceLT, Nat.reduceLeDiff, zzI, look_nil, Nat.reduceBEq, implies_true, evS_move, evS_indexAddr, zz23, zz24, F_sl32, F_sz37, Option.map_some, zz16, Option.some.injEq, exists_eq_left', exists_eq_left, eq_self, reduceCtorEq, and_self, zz19, F_off37_1, zzB, Nat.zero_add, Nat.reduceAdd, F_ok3, F_ag3, F_sz3, zz8, zzD, zzF, zzE, F_sl50, F_zero3, zz3, newRow1, zz1, zzG, maxLen_le, Nat.reduceMul, evS_call, F_by3, zz4, zz9, Option.bind_some, evS_assign, legs, gy, by_, hwy, legC, grow, unDs_map, len_map, ge0, Int.toNat_natCast, D.agg.injEq, zz6, Nat.reduceEqDiff, ↓reduceIte]
                have hm : (amtB a (ofL a l) gp).length + 1 ≤ 1000000 := by first | omega | (simp; omega)
                first | refine ⟨le_maxLen hm, by omega, ?_⟩ | refine ⟨by simp, le_maxLen hm, by omega, ?_⟩
                clear hm
                refine hK5 _ ?_; try clear hK5 K5
                refine awp_keepL [2, 3, 6, 8, 10, 11, 12, 13, 14, 15] ?_
                simp only [zz20, zzI, look_nil, Nat.reduceBEq]
                refine awp_plain F_mixed [some 62, some 63, some 15] rfl ?_
                simp only [List.nil_append, List.cons_append, true_and, and_true, zz0, true_implies, Nat.reduceLT, Nat.reduceLeDiff, zzI, look_nil, Nat.reduceBEq, implies_true, evS_move, zz21, gr_v, zz26, evS_assign, hwy, zz6, Nat.reduceEqDiff, ↓reduceIte]
                refine ⟨gq2.length, _, by simp, le_SK (fun r => bif r == 14 then 81 else r) [] rfl (l' := [(2, .d (legs g)), (3, .ptr 3 0 0), (6, .ptr 6 0 0), (8, .ptr 8 0 0), (10, .ptr 10 0 0), (11, .d (.v (.bool (lowA (g ++ l) A)))), (12, .d (acs allAc)), (13, .d (iv A.length)), (14, .ref 14 (amtB a (ofL a l) (gp ++ [y])).length), (15, .d (iv (gp ++ [y]).length))]) (m' := [(3, (⟨True, 28, 2, true, false, 3, [[.d (iv nx), .d (.sl 4 (l.map legC))]]⟩ : ARow)), (6, (⟨True, 28, 2, true, false, 6, [[.d (.v (.int .i64 0)), .d (.v (.slice none 0 0))]]⟩ : ARow)), (8, (⟨True, 28, 2, true, false, 8, [[.d (.v (.int .i64 0)), .d (.v (.slice none 0 0))]]⟩ : ARow)), (10, (⟨True, 28, 2, true, false, 10, [[.d (iv id_), .ref 500 (rOut (g ++ l) A).length]]⟩ : ARow)), (500, grow 65 4 500 ((rOut (g ++ l) A).map legC)), (14, grow 3 1 14 ((amtB a (ofL a l) (gp ++ [y])).map fun n => [iv n]))]) ?_ ?_ ?_ ?_, (gp ++ [y]), gq2, by simp [hgs], rfl, rfl⟩
                · simp only [leV, look_cons, Nat.reduceBEq, cond_true, cond_false, hwy, hsl]; exact ⟨(by first | exact VLe.still rfl | exact VLe.nil_ (by decide) | exact VLe.nild_ | exact VLe.refl _ | exact VLe.ptrE (by simp) (by rfl) | exact VLe.refE (by simp) (by rfl) (by first | rfl | simp | (simp; omega)) | exact VLe.dE (by first | rfl | simp)), (by first | exact VLe.still rfl | exact VLe.nil_ (by decide) | exact VLe.nild_ | exact VLe.refl _ | exact VLe.ptrE (by simp) (by rfl) | exact VLe.refE (by simp) (by rfl) (by first | rfl | simp | (simp; omega)) | exact VLe.dE (by first | rfl | simp)), (by first | exact VLe.still rfl | exact VLe.nil_ (by decide) | exact VLe.nild_ | exact VLe.refl _ | exact VLe.ptrE (by simp) (by rfl) | exact VLe.refE (by simp) (by rfl) (by first | rfl | simp | (simp; omega)) | exact VLe.dE (by first | rfl | simp)), (by first | exact VLe.still rfl | exact VLe.nil_ (by decide) | exact VLe.nild_ | exact VLe.refl _ | exact VLe.ptrE (by simp) (by rfl) | exact VLe.refE (by simp) (by rfl) (by first | rfl | simp | (simp; omega)) | exact VLe.dE (by first | rfl | simp)), (by first | exact VLe.still rfl | exact VLe.nil_ (by decide) | exact VLe.nild_ | exact VLe.refl _ | exact VLe.ptrE (by simp) (by rfl) | exact VLe.refE (by simp) (by rfl) (by first | rfl | simp | (simp; omega)) | exact VLe.dE (by first | rfl | simp)), (by first | exact VLe.still rfl | exact VLe.nil_ (by decide) | exact VLe.nild_ | exact VLe.refl _ | exact VLe.ptrE (by simp) (by rfl) | exact VLe.refE (by simp) (by rfl) (by first | rfl | simp | (simp; omega)) | exact VLe.dE (by first | rfl | simp)), (by first | exact VLe.still rfl | exact VLe.nil_ (by decide) | exact VLe.nild_ | exact VLe.refl _ | exact VLe.ptrE (by simp) (by rfl) | exact VLe.refE (by simp) (by rfl) (by first | rfl | simp | (simp; omega)) | exact VLe.dE (by first | rfl | simp)), (by first | exact VLe.still rfl | exact VLe.nil_ (by decide) | exact VLe.nild_ | exact VLe.refl _ | exact VLe.ptrE (by simp) (by rfl) | exact VLe.refE (by simp) (by rfl) (by first | rfl | simp | (simp; omega)) | exact VLe.dE (by first | rfl | simp)), (by first | exact VLe.still rfl | exact VLe.nil_ (by decide) | exact VLe.nild_ | exact VLe.refl _ | exact VLe.ptrE (by simp) (by rfl) | exact VLe.refE (by simp) (by rfl) (by first | rfl | simp | (simp; omega)) | exact VLe.dE (by first | rfl | simp)), (by first | exact VLe.still rfl | exact VLe.nil_ (by decide) | exact VLe.nild_ | exact VLe.refl _ | exact VLe.ptrE (by simp) (by rfl) | exact VLe.refE (by simp) (by rfl) (by first | rfl | simp | (simp; omega)) | exact VLe.dE (by first | rfl | simp)), trivial⟩
                · exact ⟨fun _ => ⟨_, rfl, (by first | exact RowLe.data_ (by first | rfl | simp) | exact RowLe.uq2 (by first | rfl | simp) (by simp) ids_data | exact RowLe.still (by simp [AV.idsL, AV.ids]) | exact RowLe.same (by simp) (by simp [AV.idsL, AV.ids]))⟩, fun h => by simp at h, fun _ => ⟨_, rfl, (by first | exact RowLe.data_ (by first | rfl | simp) | exact RowLe.uq2 (by first | rfl | simp) (by simp) ids_data | exact RowLe.still (by simp [AV.idsL, AV.ids]) | exact RowLe.same (by simp) (by simp [AV.idsL, AV.ids]))⟩, fun h => by simp at h, fun _ => ⟨_, rfl, (by first | exact RowLe.data_ (by first | rfl | simp) | exact RowLe.uq2 (by first | rfl | simp) (by simp) ids_data | exact RowLe.still (by simp [AV.idsL, AV.ids]) | exact RowLe.same (by simp) (by simp [AV.idsL, AV.ids]))⟩, fun h => by simp at h, fun _ => ⟨_, rfl, RowLe.cells (VLess.one_ (VLes.cons_ (VLe.dE rfl) (VLes.cons_ (VLe.refE (by simp) rfl (rfl)) VLes.nil_)))⟩, fun h => by simp at h, fun _ => ⟨_, rfl, (by first | exact RowLe.data_ (by first | rfl | simp) | exact RowLe.uq2 (by first | rfl | simp) (by simp) ids_data | exact RowLe.still (by simp [AV.idsL, AV.ids]) | exact RowLe.same (by simp) (by simp [AV.idsL, AV.ids]))⟩, fun h => by simp at h, fun _ => ⟨_, rfl, RowLe.data_ (by rw [hsl]; simp)⟩, fun h => by simp at h, trivial⟩
                · simp [wfV, AV.ids, AV.idsL, lookR, grow]
                · exact ⟨by simp [AV.idsL, AV.ids, lookR], by simp [AV.idsL, AV.ids, lookR], by simp [AV.idsL, AV.ids, lookR], by simp [AV.idsL, AV.ids, lookR], wf_data _ _, wf_data _ _, trivial⟩
              · intro hb
                have hs : acSame y.ac a = false := hb
                clear hb
                have hsl : amtB a (ofL a l) (gp ++ [y]) = amtB a (ofL a l) gp := by simp only [amtB, amtA_snoc_no hs gp]
                refine awp_skip ?_
                simp only [zz6, Nat.reduceEqDiff, ↓reduceIte]
                refine hK5 _ ?_; try clear hK5 K5
                refine awp_keepL [2, 3, 6, 8, 10, 11, 12, 13, 14, 15] ?_
                simp only [zz20, zzI, look_nil, Nat.reduceBEq]
                refine awp_plain F_mixed [some 62, some 63, some 15] rfl ?_
                simp only [List.nil_append, List.cons_append, true_and, and_true, zz0, true_implies, Nat.reduceLT, Nat.reduceLeDiff, zzI, look_nil, Nat.reduceBEq, implies_true, evS_move, zz21, gr_v, zz26, evS_assign, hwy, zz6, Nat.reduceEqDiff, ↓reduceIte]
                refine ⟨gq2.length, _, by simp, le_SK id [] rfl (l' := [(2, .d (legs g)), (3, .ptr 3 0 0), (6, .ptr 6 0 0), (8, .ptr 8 0 0), (10, .ptr 10 0 0), (11, .d (.v (.bool (lowA (g ++ l) A)))), (12, .d (acs allAc)), (13, .d (iv A.length)), (14, .ref 14 (amtB a (ofL a l) (gp ++ [y])).length), (15, .d (iv (gp ++ [y]).length))]) (m' := [(3, (⟨True, 28, 2, true, false, 3, [[.d (iv nx), .d (.sl 4 (l.map legC))]]⟩ : ARow)), (6, (⟨True, 28, 2, true, false, 6, [[.d (.v (.int .i64 0)), .d (.v (.slice none 0 0))]]⟩ : ARow)), (8, (⟨True, 28, 2, true, false, 8, [[.d (.v (.int .i64 0)), .d (.v (.slice none 0 0))]]⟩ : ARow)), (10, (⟨True, 28, 2, true, false, 10, [[.d (iv id_), .ref 500 (rOut (g ++ l) A).length]]⟩ : ARow)), (500, grow 65 4 500 ((rOut (g ++ l) A).map legC)), (14, grow 3 1 14 ((amtB a (ofL a l) (gp ++ [y])).map fun n => [iv n]))]) ?_ ?_ ?_ ?_, (gp ++ [y]), gq2, by simp [hgs], rfl, rfl⟩
                · simp only [leV, look_cons, Nat.reduceBEq, cond_true, cond_false, hwy, hsl]; exact ⟨(by first | exact VLe.still rfl | exact VLe.nil_ (by decide) | exact VLe.nild_ | exact VLe.refl _ | exact VLe.ptrE (by simp) (by rfl) | exact VLe.refE (by simp) (by rfl) (by first | rfl | simp | (simp; omega)) | exact VLe.dE (by first | rfl | simp)), (by first | exact VLe.still rfl | exact VLe.nil_ (by decide) | exact VLe.nild_ | exact VLe.refl _ | exact VLe.ptrE (by simp) (by rfl) | exact VLe.refE (by simp) (by rfl) (by first | rfl | simp | (simp; omega)) | exact VLe.dE (by first | rfl | simp)), (by first | exact VLe.still rfl | exact VLe.nil_ (by decide) | exact VLe.nild_ | exact VLe.refl _ | exact VLe.ptrE (by simp) (by rfl) | exact VLe.refE (by simp) (by rfl) (by first | rfl | simp | (simp; omega)) | exact VLe.dE (by first | rfl | simp)), (by first | exact VLe.still rfl | exact VLe.nil_ (by decide) | exact VLe.nild_ | exact VLe.refl _ | exact VLe.ptrE (by simp) (by rfl) | exact VLe.refE (by simp) (by rfl) (by first | rfl | simp | (simp; omega)) | exact VLe.dE (by first | rfl | simp)), (by first | exact VLe.still rfl | exact VLe.nil_ (by decide) | exact VLe.nild_ | exact VLe.refl _ | exact VLe.ptrE (by simp) (by rfl) | exact VLe.refE (by simp) (by rfl) (by first | rfl | simp | (simp; omega)) | exact VLe.dE (by first | rfl | simp)), (by first | exact VLe.still rfl | exact VLe.nil_ (by decide) | exact VLe.nild_ | exact VLe.refl _ | exact VLe.ptrE (by simp) (by rfl) | exact VLe.refE (by simp) (by rfl) (by first | rfl | simp | (simp; omega)) | exact VLe.dE (by first | rfl | simp)), (by first | exact VLe.still rfl | exact VLe.nil_ (by decide) | exact VLe.nild_ | exact VLe.refl _ | exact VLe.ptrE (by simp) (by rfl) | exact VLe.refE (by simp) (by rfl) (by first | rfl | simp | (simp; omega)) | exact VLe.dE (by first | rfl | simp)), (by first | exact VLe.still rfl | exact VLe.nil_ (by decide) | exact VLe.nild_ | exact VLe.refl _ | exact VLe.ptrE (by simp) (by rfl) | exact VLe.refE (by simp) (by rfl) (by first | rfl | simp | (simp; omega)) | exact VLe.dE (by first | rfl | simp)), (by first | exact VLe.still rfl | exact VLe.nil_ (by decide) | exact VLe.nild_ | exact VLe.refl _ | exact VLe.ptrE (by simp) (by rfl) | exact VLe.refE (by simp) (by rfl) (by first | rfl | simp | (simp; omega)) | exact VLe.dE (by first | rfl | simp)), (by first | exact VLe.still rfl | exact VLe.nil_ (by decide) | exact VLe.nild_ | exact VLe.refl _ | exact VLe.ptrE (by simp) (by rfl) | exact VLe.refE (by simp) (by rfl) (by first | rfl | simp | (simp; omega)) | exact VLe.dE (by first | rfl | simp)), trivial⟩
                · exact ⟨fun _ => ⟨_, rfl, (by first | exact RowLe.data_ (by first | rfl | simp) | exact RowLe.uq2 (by first | rfl | simp) (by simp) ids_data | exact RowLe.still (by simp [AV.idsL, AV.ids]) | exact RowLe.same (by simp) (by simp [AV.idsL, AV.ids]))⟩, fun h => by simp at h, fun _ => ⟨_, rfl, (by first | exact RowLe.data_ (by first | rfl | simp) | exact RowLe.uq2 (by first | rfl | simp) (by simp) ids_data | exact RowLe.still (by simp [AV.idsL, AV.ids]) | exact RowLe.same (by simp) (by simp [AV.idsL, AV.ids]))⟩, fun h => by simp at h, fun _ => ⟨_, rfl, (by first | exact RowLe.data_ (by first | rfl | simp) | exact RowLe.uq2 (by first | rfl | simp) (by simp) ids_data | exact RowLe.still (by simp [AV.idsL, AV.ids]) | exact RowLe.same (by simp) (by simp [AV.idsL, AV.ids]))⟩, fun h => by simp at h, fun _ => ⟨_, rfl, RowLe.cells (VLess.one_ (VLes.cons_ (VLe.dE rfl) (VLes.cons_ (VLe.refE (by simp) rfl (rfl)) VLes.nil_)))⟩, fun h => by simp at h, fun _ => ⟨_, rfl, (by first | exact RowLe.data_ (by first | rfl | simp) | exact RowLe.uq2 (by first | rfl | simp) (by simp) ids_data | exact RowLe.still (by simp [AV.idsL, AV.ids]) | exact RowLe.same (by simp) (by simp [AV.idsL, AV.ids]))⟩, fun h => by simp at h, fun _ => ⟨_, rfl, RowLe.data_ (by rw [hsl])⟩, fun h => by simp at h, trivial⟩
                · simp [wfV, AV.ids, AV.idsL, lookR, grow]
                · exact ⟨by simp [AV.idsL, AV.ids, lookR], by simp [AV.idsL, AV.ids, lookR], by simp [AV.idsL, AV.ids, lookR], by simp [AV.idsL, AV.ids, lookR], wf_data _ _, wf_data _ _, trivial⟩
            · intro hb
              obtain rfl : gq = [] := by
                cases gq with
                | nil => rfl
                | cons x t => have := of_decide_eq_false hb; simp at hgsl; omega
              clear hb
              simp only [List.append_nil] at hgs
              subst hgs
              refine awp_exit ?_
              simp only [zz6, Nat.reduceEqDiff, ↓reduceIte]
              refine hK3 _ ?_; try clear hK3 K3
              refine awp_keepL [2, 3, 6, 8, 10, 11, 12, 13, 14] ?_
              simp only [zz20, zzI, look_nil, Nat.reduceBEq]
              refine awp_seq fun K3 hK3 => ?_
              refine awp_plain F_mixed [some 83, some 84, some 82, some 85, some 86, some 16, some 17] rfl ?_
              simp only [List.nil_append, List.cons_append, true_and, and_true, zz0, true_implies, Nat.reduceLT, Nat.reduceLeDiff, zzI, look_nil, Nat.reduceBEq, implies_true, evS_move, evS_call, evC_value, zz14, zzD, Nat.reduceAdd, Nat.zero_add, zzF, evS_assign, ints, grow, D.sl.injEq, len_map, hsumB, zz6, Nat.reduceEqDiff, ↓reduceIte]
              refine call_go F_go45 (fun hG => Add_ (amtB a (ofL a l) g) (by omega) hrtB) (by simp [AV.ids, AV.idsL]) (by simp) ?_
              simp only [List.nil_append, List.cons_append, true_and, and_true, zz0, true_implies, Nat.reduceLT, Nat.reduceLeDiff, zzI, look_nil, Nat.reduceBEq, implies_true, evS_move, evS_call, evC_value, zz14, zzD, Nat.reduceAdd, Nat.zero_add, zzF, evS_assign, ints, grow, D.sl.injEq, len_map, hsumB, zz6, Nat.reduceEqDiff, ↓reduceIte, atsL, oksG, freeN, AV.ren, AV.renL, addRows, ORow.row, Nat.reduceMul, Nat.reduceAdd, zz9, Option.bind_some, Option.map_some, forall_eq', D.sl.injEq, zz16, Option.some.injEq, exists_eq_left', exists_eq_left, exists_eq', exists_eq, List.length_cons, zz2]
              first | refine ⟨by simp, ?_⟩ | skip
              refine hK3 _ ?_; try clear hK3 K3
              refine awp_keepL [2, 3, 6, 8, 10, 11, 12, 13, 16, 17] ?_
              simp only [zz20, zzI, look_nil, Nat.reduceBEq]
              refine awp_seq fun K3 hK3 => ?_
              refine awp_seq fun K4 hK4 => ?_
              refine awp_plain F_mixed [some 87, some 88] rfl ?_
              simp only [List.nil_append, List.cons_append, true_and, and_true, zz0, true_implies, Nat.reduceLT, Nat.reduceLeDiff, zzI, look_nil, Nat.reduceBEq, implies_true, evS_move, zz29, gr_v, zz30, zz6, Nat.reduceEqDiff, ↓reduceIte]
              refine hK4 _ ?_; try clear hK4 K4
              refine awp_keepL [2, 3, 6, 8, 10, 11, 12, 13, 16, 88] ?_
              simp only [zz20, zzI, look_nil, Nat.reduceBEq]
              refine awp_condS _ (by decide) (by simp only [look_cons, Nat.reduceBEq, cond_true, cond_false]; rfl) ?_ ?_
              · intro hb
                have hbad : rightN (sumA a (g ++ l)) = false := by simpa using hb
                clear hb
                obtain ⟨hjr, hjv⟩ := ref_bad hmk haA hbad
                have hj : (joinR (g ++ l) != 0) = true := by rw [hjr]; rfl
                refine awp_seq fun K5 hK5 => ?_
                refine awp_plain F_mixed [some 89, none, some 7] rfl ?_
                simp only [List.nil_append, List.cons_append, true_and, and_true, zz0, true_implies, Nat.reduceLT, Nat.reduceLeDiff, zzI, look_nil, Nat.reduceBEq, implies_true, F_ok28, F_ag28, F_sz28, zz8, zz23, zzD, Nat.reduceAdd, Nat.zero_add, zzF, zzB, zzE, zz16, Option.some.injEq, exists_eq_left', exists_eq_left, Option.map_some, eq_self, reduceCtorEq, and_self, zz18, splice, List.append_nil, zz1, zzG, evS_assign, zz6, Nat.reduceEqDiff, ↓reduceIte]
                refine hK5 _ ?_; try clear hK5 K5
                refine awp_keepL [6, 7] ?_
                simp only [zz20, zzI, look_nil, Nat.reduceBEq]
                have e : postE ⟨nx, l⟩ id_ g = 1 := by rw [postE_def, ho, hid, hlt, hc, hj]; first | done | rfl | assumption
                have ev : postV ⟨nx, l⟩ id_ g = ⟨0, []⟩ := post_no (by rw [e]; first | decide | assumption)
                refine awp_le (le_SK id [0] rfl (l' := [(6, .ptr 6 0 0), (7, .d (iv 1))]) (m' := [(6, (⟨True, 28, 2, true, false, 6, [[.d (.v (.int .i64 0)), .ref 0 0]]⟩ : ARow)), (0, (⟨True, 65, 4, true, true, 0, []⟩ : ARow))]) ?_ ?_ ?_ ?_) ?_
                · simp only [leV, look_cons, Nat.reduceBEq, cond_true, cond_false]; exact ⟨VLe.ptr_ (f := id) (by decide), VLe.still rfl, trivial⟩
                · exact ⟨fun _ => ⟨_, rfl, RowLe.cells (VLess.one_ (VLes.cons_ (VLe.still rfl) (VLes.cons_ (VLe.nil_ (by decide)) VLes.nil_)))⟩, fun h => by simp at h, fun h => by simp at h, fun _ => rfl, trivial⟩
                · simp [wfV, AV.ids, lookR]
                · simp [wfR, AV.idsL, AV.ids, lookR]
                refine awp_ret ?_
                simp only [zz6, Nat.reduceEqDiff, ↓reduceIte]
                rw [ev, e]
                refine doneN [0] (by simp [resCs, resC, S, List.getD, look_cons, lookR, F_ag28, F_sz28, F_ok28]) ?_ (by simp [flatA, flatAs, flatD, ]) (by simp [AV.ids, AV.idsL, ]) (by decide) ?_
                · simp only [List.map_cons, List.map_nil, resA, S_getD, S_mem, lookR_cons, lookR_nil, Nat.reduceLT, Nat.reduceLeDiff, look_cons, Nat.reduceBEq, cond_true, cond_false, resAll, List.getD_cons_zero, List.getD_cons_succ, List.drop_zero, List.drop_succ_cons, List.take_succ_cons, List.take_zero, F_ag28, F_sz28, F_ok28]; rfl
                · exact ⟨⟨_, rfl, trivial, rfl, rfl, rfl, rfl⟩, by simp [flatDs, flatD, legC], trivial⟩
              · intro hb
                have hgood : rightN (sumA a (g ++ l)) = true := by simpa using hb
                clear hb
                have hra2 : ∀ b ∈ A ++ [a], rightN (sumA b (g ++ l)) = true := fun b hb => by
                  rcases List.mem_append.1 hb with hb | hb
                  · exact hra b hb
                  · obtain rfl : b = a := by simpa using hb
                    exact hgood
                simp only [hgood, cond_true]
                have hlo := (lowA_snoc (g ++ l) A a).symm
                refine awp_skip ?_
                simp only [zz6, Nat.reduceEqDiff, ↓reduceIte]
                refine hK3 _ ?_; try clear hK3 K3
                refine awp_keepL [2, 3, 6, 8, 10, 11, 12, 13, 16] ?_
                simp only [zz20, zzI, look_nil, Nat.reduceBEq]
                refine awp_seq fun K3 hK3 => ?_
                refine awp_plain F_mixed [some 90, some 91, some 92, some 93, some 94, some 95, some 96, some 97, some 98, some 99, some 11] rfl ?_
                simp only [List.nil_append, List.cons_append, true_and, and_true, zz0, true_implies, Nat.reduceLT, Nat.reduceLeDiff, zzI, look_nil, Nat.reduceBEq, implies_true, Nat.reduceSub, S_getD, zz5, and_imp, imp_and, imp_self, and_self, evS_move, evS_indexAddr, zz23, zz24, F_sl75, F_sz24, Option.map_some, zz16, Option.some.injEq, exists_eq_left', exists_eq_left, eq_self, reduceCtorEq, F_ok24, F_ag24, zz8, zzD, Nat.reduceAdd, Nat.zero_add, zzF, zzB, zzE, evS_call, evC_value, zz21, gr_v, zz22, zz13, pickK_l, pickK_r, evS_assign, acs, acC, ga, ba, len_map, ge0, Int.toNat_natCast, D.agg.injEq, hlo, zz6, Nat.reduceEqDiff, ↓reduceIte]
                refine call_go F_go34 (fun hG => rFlo_ a) (by simp [AV.ids, AV.idsL]) (by simp) ?_
                simp only [List.nil_append, List.cons_append, true_and, and_true, zz0, true_implies, Nat.reduceLT, Nat.reduceLeDiff, zzI, look_nil, Nat.reduceBEq, implies_true, Nat.reduceSub, S_getD, zz5, and_imp, imp_and, imp_self, and_self, evS_move, evS_indexAddr, zz23, zz24, F_sl75, F_sz24, Option.map_some, zz16, Option.some.injEq, exists_eq_left', exists_eq_left, eq_self, reduceCtorEq, F_ok24, F_ag24, zz8, zzD, Nat.reduceAdd, Nat.zero_add, zzF, zzB, zzE, evS_call, evC_value, zz21, gr_v, zz22, zz13, pickK_l, pickK_r, evS_assign, acs, acC, ga, ba, len_map, ge0, Int.toNat_natCast, D.agg.injEq, hlo, zz6, Nat.reduceEqDiff, ↓reduceIte, atsL, oksG, freeN, AV.ren, AV.renL, addRows, ORow.row, Nat.reduceMul, Nat.reduceAdd, zz9, Option.bind_some, Option.map_some, forall_eq', D.sl.injEq, S_mem, Option.some.injEq, exists_eq_left', exists_eq_left, exists_eq', exists_eq, List.length_cons, zz2]
                refine hK3 _ ?_; try clear hK3 K3
                refine awp_keepL [2, 3, 6, 8, 10, 11, 12, 13, 16] ?_
                simp only [zz20, zzI, look_nil, Nat.reduceBEq]
                refine awp_seq fun K3 hK3 => ?_
                refine awp_plain F_mixed [some 100, some 101] rfl ?_
                simp only [List.nil_append, List.cons_append, true_and, and_true, zz0, true_implies, Nat.reduceLT, Nat.reduceLeDiff, zzI, look_nil, Nat.reduceBEq, implies_true, evS_move, zz21, gr_v, zz28, zz6, Nat.reduceEqDiff, ↓reduceIte]
                refine hK3 _ ?_; try clear hK3 K3
                refine awp_keepL [2, 3, 6, 8, 10, 11, 12, 13, 16, 101] ?_
                simp only [zz20, zzI, look_nil, Nat.reduceBEq]
                refine awp_condS _ (by decide) (by simp only [look_cons, Nat.reduceBEq, cond_true, cond_false]; rfl) ?_ ?_
                · intro hb
                  have hro : rOut (g ++ l) (A ++ [a]) = rOut (g ++ l) A ++ [(⟨a, sumA a (g ++ l)⟩ : LegV)] := by rw [rOut_snoc, rOne, show (sumA a (g ++ l) != 0) = true from hb]; rfl
                  clear hb
                  refine awp_draw F_mixed [some 102, some 103, some 104, some 105, some 106, some 107, some 108, some 109, some 110, some 111, some 112, none] rfl (by kernel_rfl) ?_
                  simp only [List.nil_append, List.cons_append, true_and, and_true, zz0, true_implies, Nat.reduceLT, Nat.reduceLeDiff, zzI, look_nil, Nat.reduceBEq, implies_true, zz19, zz23, F_off28_1, zzB, Nat.zero_add, Nat.reduceAdd, F_ok26, F_ag26, F_sz26, zz8, zzD, zzF, zzE, zz16, Option.some.injEq, exists_eq_left', exists_eq_left, Option.map_some, eq_self, reduceCtorEq, and_self, evS_move, evS_indexAddr, zz24, F_sl75, F_sz24, F_ok24, F_ag24, F_zero65, F_bld65, zz7, splice, Option.getD_some, List.append_nil, zz1, zzG, zz10, F_fld65_0, F_fld65_1, F_sl26, F_sz65, zz3, newRow1, maxLen_le, Nat.reduceMul, evS_call, F_by65, zz4, zz9, Option.bind_some, zz18, acs, acC, ga, ba, len_map, ge0, Int.toNat_natCast, D.agg.injEq, grow, unDs_map, zz6, Nat.reduceEqDiff, ↓reduceIte]
                  have hm : (rOut (g ++ l) A).length + 1 ≤ 1000000 := by first | omega | (simp; omega)
                  first | refine ⟨le_maxLen hm, by omega, ?_⟩ | refine ⟨by simp, le_maxLen hm, by omega, ?_⟩
                  clear hm
                  refine hK2 _ ?_; try clear hK2 K2
                  refine awp_keepL [2, 3, 6, 8, 10, 11, 12, 13] ?_
                  simp only [zz20, zzI, look_nil, Nat.reduceBEq]
                  refine awp_plain F_mixed [some 49, some 50, some 13] rfl ?_
                  simp only [List.nil_append, List.cons_append, true_and, and_true, zz0, true_implies, Nat.reduceLT, Nat.reduceLeDiff, zzI, look_nil, Nat.reduceBEq, implies_true, evS_move, zz21, gr_v, zz26, evS_assign, hwa, zz6, Nat.reduceEqDiff, ↓reduceIte]
                  refine ⟨B2.length, _, by simp, le_SK (fun r => bif r == 500 then 111 else r) [] rfl (l' := [(2, .d (legs g)), (3, .ptr 3 0 0), (6, .ptr 6 0 0), (8, .ptr 8 0 0), (10, .ptr 10 0 0), (11, .d (.v (.bool (lowA (g ++ l) (A ++ [a]))))), (12, .d (acs allAc)), (13, .d (iv (A ++ [a]).length))]) (m' := [(3, (⟨True, 28, 2, true, false, 3, [[.d (iv nx), .d (.sl 4 (l.map legC))]]⟩ : ARow)), (6, (⟨True, 28, 2, true, false, 6, [[.d (.v (.int .i64 0)), .d (.v (.slice none 0 0))]]⟩ : ARow)), (8, (⟨True, 28, 2, true, false, 8, [[.d (.v (.int .i64 0)), .d (.v (.slice none 0 0))]]⟩ : ARow)), (10, (⟨True, 28, 2, true, false, 10, [[.d (iv id_), .ref 500 (rOut (g ++ l) (A ++ [a])).length]]⟩ : ARow)), (500, grow 65 4 500 ((rOut (g ++ l) (A ++ [a])).map legC))]) ?_ ?_ ?_ ?_, (A ++ [a]), B2, by rw [hAB]; simp, hra2, rfl, rfl⟩
                  · simp only [leV, look_cons, Nat.reduceBEq, cond_true, cond_false, hwa]; exact ⟨(by first | exact VLe.still rfl | exact VLe.nil_ (by decide) | exact VLe.nild_ | exact VLe.refl _ | exact VLe.ptrE (by simp) (by rfl) | exact VLe.refE (by simp) (by rfl) (by first | rfl | simp | (simp; omega)) | exact VLe.dE (by first | rfl | simp)), (by first | exact VLe.still rfl | exact VLe.nil_ (by decide) | exact VLe.nild_ | exact VLe.refl _ | exact VLe.ptrE (by simp) (by rfl) | exact VLe.refE (by simp) (by rfl) (by first | rfl | simp | (simp; omega)) | exact VLe.dE (by first | rfl | simp)), (by first | exact VLe.still rfl | exact VLe.nil_ (by decide) | exact VLe.nild_ | exact VLe.refl _ | exact VLe.ptrE (by simp) (by rfl) | exact VLe.refE (by simp) (by rfl) (by first | rfl | simp | (simp; omega)) | exact VLe.dE (by first | rfl | simp)), (by first | exact VLe.still rfl | exact VLe.nil_ (by decide) | exact VLe.nild_ | exact VLe.refl _ | exact VLe.ptrE (by simp) (by rfl) | exact VLe.refE (by simp) (by rfl) (by first | rfl | simp | (simp; omega)) | exact VLe.dE (by first | rfl | simp)), (by first | exact VLe.still rfl | exact VLe.nil_ (by decide) | exact VLe.nild_ | exact VLe.refl _ | exact VLe.ptrE (by simp) (by rfl) | exact VLe.refE (by simp) (by rfl) (by first | rfl | simp | (simp; omega)) | exact VLe.dE (by first | rfl | simp)), (by first | exact VLe.still rfl | exact VLe.nil_ (by decide) | exact VLe.nild_ | exact VLe.refl _ | exact VLe.ptrE (by simp) (by rfl) | exact VLe.refE (by simp) (by rfl) (by first | rfl | simp | (simp; omega)) | exact VLe.dE (by first | rfl | simp)), (by first | exact VLe.still rfl | exact VLe.nil_ (by decide) | exact VLe.nild_ | exact VLe.refl _ | exact VLe.ptrE (by simp) (by rfl) | exact VLe.refE (by simp) (by rfl) (by first | rfl | simp | (simp; omega)) | exact VLe.dE (by first | rfl | simp)), (by first | exact VLe.still rfl | exact VLe.nil_ (by decide) | exact VLe.nild_ | exact VLe.refl _ | exact VLe.ptrE (by simp) (by rfl) | exact VLe.refE (by simp) (by rfl) (by first | rfl | simp | (simp; omega)) | exact VLe.dE (by first | rfl | simp)), trivial⟩
                  · exact ⟨fun _ => ⟨_, rfl, (by first | exact RowLe.data_ (by first | rfl | simp) | exact RowLe.uq2 (by first | rfl | simp) (by simp) ids_data | exact RowLe.still (by simp [AV.idsL, AV.ids]) | exact RowLe.same (by simp) (by simp [AV.idsL, AV.ids]))⟩, fun h => by simp at h, fun _ => ⟨_, rfl, (by first | exact RowLe.data_ (by first | rfl | simp) | exact RowLe.uq2 (by first | rfl | simp) (by simp) ids_data | exact RowLe.still (by simp [AV.idsL, AV.ids]) | exact RowLe.same (by simp) (by simp [AV.idsL, AV.ids]))⟩, fun h => by simp at h, fun _ => ⟨_, rfl, (by first | exact RowLe.data_ (by first | rfl | simp) | exact RowLe.uq2 (by first | rfl | simp) (by simp) ids_data | exact RowLe.still (by simp [AV.idsL, AV.ids]) | exact RowLe.same (by simp) (by simp [AV.idsL, AV.ids]))⟩, fun h => by simp at h, fun _ => ⟨_, rfl, RowLe.cells (VLess.one_ (VLes.cons_ (VLe.dE rfl) (VLes.cons_ (VLe.refE (by simp) rfl (by rw [hro]; simp)) VLes.nil_)))⟩, fun h => by simp at h, fun _ => ⟨_, rfl, RowLe.data_ (by rw [hro]; simp [legC])⟩, fun h => by simp at h, trivial⟩
                  · simp [wfV, AV.ids, AV.idsL, lookR, grow]
                  · exact ⟨by simp [AV.idsL, AV.ids, lookR], by simp [AV.idsL, AV.ids, lookR], by simp [AV.idsL, AV.ids, lookR], by simp [AV.idsL, AV.ids, lookR], wf_data _ _, trivial⟩
                · intro hb
                  have hro : rOut (g ++ l) (A ++ [a]) = rOut (g ++ l) A := by rw [rOut_snoc, rOne, show (sumA a (g ++ l) != 0) = false from hb]; simp
                  clear hb
                  refine awp_skip ?_
                  simp only [zz6, Nat.reduceEqDiff, ↓reduceIte]
                  refine hK2 _ ?_; try clear hK2 K2
                  refine awp_keepL [2, 3, 6, 8, 10, 11, 12, 13] ?_
                  simp only [zz20, zzI, look_nil, Nat.reduceBEq]
                  refine awp_plain F_mixed [some 49, some 50, some 13] rfl ?_
                  simp only [List.nil_append, List.cons_append, true_and, and_true, zz0, true_implies, Nat.reduceLT, Nat.reduceLeDiff, zzI, look_nil, Nat.reduceBEq, implies_true, evS_move, zz21, gr_v, zz26, evS_assign, hwa, zz6, Nat.reduceEqDiff, ↓reduceIte]
                  refine ⟨B2.length, _, by simp, le_SK id [] rfl (l' := [(2, .d (legs g)), (3, .ptr 3 0 0), (6, .ptr 6 0 0), (8, .ptr 8 0 0), (10, .ptr 10 0 0), (11, .d (.v (.bool (lowA (g ++ l) (A ++ [a]))))), (12, .d (acs allAc)), (13, .d (iv (A ++ [a]).length))]) (m' := [(3, (⟨True, 28, 2, true, false, 3, [[.d (iv nx), .d (.sl 4 (l.map legC))]]⟩ : ARow)), (6, (⟨True, 28, 2, true, false, 6, [[.d (.v (.int .i64 0)), .d (.v (.slice none 0 0))]]⟩ : ARow)), (8, (⟨True, 28, 2, true, false, 8, [[.d (.v (.int .i64 0)), .d (.v (.slice none 0 0))]]⟩ : ARow)), (10, (⟨True, 28, 2, true, false, 10, [[.d (iv id_), .ref 500 (rOut (g ++ l) (A ++ [a])).length]]⟩ : ARow)), (500, grow 65 4 500 ((rOut (g ++ l) (A ++ [a])).map legC))]) ?_ ?_ ?_ ?_, (A ++ [a]), B2, by rw [hAB]; simp, hra2, rfl, rfl⟩
                  · simp only [leV, look_cons, Nat.reduceBEq, cond_true, cond_false, hwa]; exact ⟨(by first | exact VLe.still rfl | exact VLe.nil_ (by decide) | exact VLe.nild_ | exact VLe.refl _ | exact VLe.ptrE (by simp) (by rfl) | exact VLe.refE (by simp) (by rfl) (by first | rfl | simp | (simp; omega)) | exact VLe.dE (by first | rfl | simp)), (by first | exact VLe.still rfl | exact VLe.nil_ (by decide) | exact VLe.nild_ | exact VLe.refl _ | exact VLe.ptrE (by simp) (by rfl) | exact VLe.refE (by simp) (by rfl) (by first | rfl | simp | (simp; omega)) | exact VLe.dE (by first | rfl | simp)), (by first | exact VLe.still rfl | exact VLe.nil_ (by decide) | exact VLe.nild_ | exact VLe.refl _ | exact VLe.ptrE (by simp) (by rfl) | exact VLe.refE (by simp) (by rfl) (by first | rfl | simp | (simp; omega)) | exact VLe.dE (by first | rfl | simp)), (by first | exact VLe.still rfl | exact VLe.nil_ (by decide) | exact VLe.nild_ | exact VLe.refl _ | exact VLe.ptrE (by simp) (by rfl) | exact VLe.refE (by simp) (by rfl) (by first | rfl | simp | (simp; omega)) | exact VLe.dE (by first | rfl | simp)), (by first | exact VLe.still rfl | exact VLe.nil_ (by decide) | exact VLe.nild_ | exact VLe.refl _ | exact VLe.ptrE (by simp) (by rfl) | exact VLe.refE (by simp) (by rfl) (by first | rfl | simp | (simp; omega)) | exact VLe.dE (by first | rfl | simp)), (by first | exact VLe.still rfl | exact VLe.nil_ (by decide) | exact VLe.nild_ | exact VLe.refl _ | exact VLe.ptrE (by simp) (by rfl) | exact VLe.refE (by simp) (by rfl) (by first | rfl | simp | (simp; omega)) | exact VLe.dE (by first | rfl | simp)), (by first | exact VLe.still rfl | exact VLe.nil_ (by decide) | exact VLe.nild_ | exact VLe.refl _ | exact VLe.ptrE (by simp) (by rfl) | exact VLe.refE (by simp) (by rfl) (by first | rfl | simp | (simp; omega)) | exact VLe.dE (by first | rfl | simp)), (by first | exact VLe.still rfl | exact VLe.nil_ (by decide) | exact VLe.nild_ | exact VLe.refl _ | exact VLe.ptrE (by simp) (by rfl) | exact VLe.refE (by simp) (by rfl) (by first | rfl | simp | (simp; omega)) | exact VLe.dE (by first | rfl | simp)), trivial⟩
                  · exact ⟨fun _ => ⟨_, rfl, (by first | exact RowLe.data_ (by first | rfl | simp) | exact RowLe.uq2 (by first | rfl | simp) (by simp) ids_data | exact RowLe.still (by simp [AV.idsL, AV.ids]) | exact RowLe.same (by simp) (by simp [AV.idsL, AV.ids]))⟩, fun h => by simp at h, fun _ => ⟨_, rfl, (by first | exact RowLe.data_ (by first | rfl | simp) | exact RowLe.uq2 (by first | rfl | simp) (by simp) ids_data | exact RowLe.still (by simp [AV.idsL, AV.ids]) | exact RowLe.same (by simp) (by simp [AV.idsL, AV.ids]))⟩, fun h => by simp at h, fun _ => ⟨_, rfl, (by first | exact RowLe.data_ (by first | rfl | simp) | exact RowLe.uq2 (by first | rfl | simp) (by simp) ids_data | exact RowLe.still (by simp [AV.idsL, AV.ids]) | exact RowLe.same (by simp) (by simp [AV.idsL, AV.ids]))⟩, fun h => by simp at h, fun _ => ⟨_, rfl, RowLe.cells (VLess.one_ (VLes.cons_ (VLe.dE rfl) (VLes.cons_ (VLe.refE (by simp) rfl (by rw [hro])) VLes.nil_)))⟩, fun h => by simp at h, fun _ => ⟨_, rfl, RowLe.data_ (by rw [hro])⟩, fun h => by simp at h, trivial⟩
                  · simp [wfV, AV.ids, AV.idsL, lookR, grow]
                  · exact ⟨by simp [AV.idsL, AV.ids, lookR], by simp [AV.idsL, AV.ids, lookR], by simp [AV.idsL, AV.ids, lookR], by simp [AV.idsL, AV.ids, lookR], wf_data _ _, trivial⟩
          · intro hb
            obtain rfl : B = [] := by
              cases B with
              | nil => rfl
              | cons x t => have := of_decide_eq_false hb; simp at hABl; omega
            clear hb
            simp only [List.append_nil] at hAB
            subst hAB
            obtain ⟨hjr, hjv⟩ := ref_good hmk hra
            have hj : (joinR (g ++ l) != 0) = false := by rw [hjr]; rfl
            have hlw := lowA_out (g ++ l) allAc
            rw [← hjv] at hlw
            refine awp_exit ?_
            simp only [zz6, Nat.reduceEqDiff, ↓reduceIte]
            refine hK0 _ ?_; try clear hK0 K0
            refine awp_keepL [6, 8, 10, 11] ?_
            simp only [zz20, zzI, look_nil, Nat.reduceBEq]
            refine awp_seq fun K0 hK0 => ?_
            refine awp_seq fun K1 hK1 => ?_
            refine awp_plain F_mixed [some 113] rfl ?_
            simp only [List.nil_append, List.cons_append, true_and, and_true, zz0, true_implies, Nat.reduceLT, Nat.reduceLeDiff, zzI, look_nil, Nat.reduceBEq, implies_true, evS_move, zz6, Nat.reduceEqDiff, ↓reduceIte]
            refine hK1 _ ?_; try clear hK1 K1
            refine awp_keepL [6, 8, 10, 113] ?_
            simp only [zz20, zzI, look_nil, Nat.reduceBEq]
            refine awp_condS _ (by decide) (by simp only [look_cons, Nat.reduceBEq, cond_true, cond_false]; rfl) ?_ ?_
            · intro hb
              have hlo2 : low (joinV (g ++ l)) = true := by rw [hlw]; exact hb
              clear hb
              refine awp_seq fun K2 hK2 => ?_
              refine awp_plain F_mixed [some 114, none, some 7] rfl ?_
              simp only [List.nil_append, List.cons_append, true_and, and_true, zz0, true_implies, Nat.reduceLT, Nat.reduceLeDiff, zzI, look_nil, Nat.reduceBEq, implies_true, F_ok28, F_ag28, F_sz28, zz8, zz23, zzD, Nat.reduceAdd, Nat.zero_add, zzF, zzB, zzE, zz16, Option.some.injEq, exists_eq_left', exists_eq_left, Option.map_some, eq_self, reduceCtorEq, and_self, zz18, splice, List.append_nil, zz1, zzG, evS_assign, zz6, Nat.reduceEqDiff, ↓reduceIte]
              refine hK2 _ ?_; try clear hK2 K2
              refine awp_keepL [6, 7] ?_
              simp only [zz20, zzI, look_nil, Nat.reduceBEq]
              have e : postE ⟨nx, l⟩ id_ g = 13 := by rw [postE_def, ho, hid, hlt, hc, hj, hlo2]; first | done | rfl | assumption
              have ev : postV ⟨nx, l⟩ id_ g = ⟨0, []⟩ := post_no (by rw [e]; first | decide | assumption)
              refine awp_le (le_SK id [0] rfl (l' := [(6, .ptr 6 0 0), (7, .d (iv 13))]) (m' := [(6, (⟨True, 28, 2, true, false, 6, [[.d (.v (.int .i64 0)), .ref 0 0]]⟩ : ARow)), (0, (⟨True, 65, 4, true, true, 0, []⟩ : ARow))]) ?_ ?_ ?_ ?_) ?_
              · simp only [leV, look_cons, Nat.reduceBEq, cond_true, cond_false]; exact ⟨VLe.ptr_ (f := id) (by decide), VLe.still rfl, trivial⟩
              · exact ⟨fun _ => ⟨_, rfl, RowLe.cells (VLess.one_ (VLes.cons_ (VLe.still rfl) (VLes.cons_ (VLe.nil_ (by decide)) VLes.nil_)))⟩, fun h => by simp at h, fun h => by simp at h, fun _ => rfl, trivial⟩
              · simp [wfV, AV.ids, lookR]
              · simp [wfR, AV.idsL, AV.ids, lookR]
              refine awp_ret ?_
              simp only [zz6, Nat.reduceEqDiff, ↓reduceIte]
              rw [ev, e]
              refine doneN [0] (by simp [resCs, resC, S, List.getD, look_cons, lookR, F_ag28, F_sz28, F_ok28]) ?_ (by simp [flatA, flatAs, flatD, ]) (by simp [AV.ids, AV.idsL, ]) (by decide) ?_
              · simp only [List.map_cons, List.map_nil, resA, S_getD, S_mem, lookR_cons, lookR_nil, Nat.reduceLT, Nat.reduceLeDiff, look_cons, Nat.reduceBEq, cond_true, cond_false, resAll, List.getD_cons_zero, List.getD_cons_succ, List.drop_zero, List.drop_succ_cons, List.take_succ_cons, List.take_zero, F_ag28, F_sz28, F_ok28]; rfl
              · exact ⟨⟨_, rfl, trivial, rfl, rfl, rfl, rfl⟩, by simp [flatDs, flatD, legC], trivial⟩
            · intro hb
              have hlo2 : low (joinV (g ++ l)) = false := by rw [hlw]; exact hb
              clear hb
              refine awp_skip ?_
              simp only [zz6, Nat.reduceEqDiff, ↓reduceIte]
              refine hK0 _ ?_; try clear hK0 K0
              refine awp_keepL [6, 10] ?_
              simp only [zz20, zzI, look_nil, Nat.reduceBEq]
              refine awp_seq fun K0 hK0 => ?_
              refine awp_plain F_mixed [some 115, none, some 7] rfl ?_
              simp only [List.nil_append, List.cons_append, true_and, and_true, zz0, true_implies, Nat.reduceLT, Nat.reduceLeDiff, zzI, look_nil, Nat.reduceBEq, implies_true, F_ok28, F_ag28, F_sz28, zz8, zz23, zzD, Nat.reduceAdd, Nat.zero_add, zzF, zzB, zzE, zz16, Option.some.injEq, exists_eq_left', exists_eq_left, Option.map_some, eq_self, reduceCtorEq, and_self, zz18, splice, List.append_nil, zz1, zzG, evS_assign, zz6, Nat.reduceEqDiff, ↓reduceIte]
              refine hK0 _ ?_; try clear hK0 K0
              refine awp_keepL [6, 7] ?_
              simp only [zz20, zzI, look_nil, Nat.reduceBEq]
              have e : postE ⟨nx, l⟩ id_ g = 0 := by rw [postE_def, ho, hid, hlt, hc, hj, hlo2]; first | done | rfl | assumption
              have ev : postV ⟨nx, l⟩ id_ g = ⟨id_, rOut (g ++ l) allAc⟩ := by rw [post_val e, hjv]
              refine awp_le (le_SK id [] rfl (l' := [(6, .ptr 6 0 0), (7, .d (iv 0))]) (m' := [(6, (⟨True, 28, 2, true, false, 6, [[.d (iv id_), .ref 500 (rOut (g ++ l) allAc).length]]⟩ : ARow)), (500, (⟨True, 65, 4, true, true, 500, ((rOut (g ++ l) allAc).map legC).map (·.map .d)⟩ : ARow))]) ?_ ?_ ?_ ?_) ?_
              · simp only [leV, look_cons, Nat.reduceBEq, cond_true, cond_false, len_map]; exact ⟨VLe.refl _, VLe.refl _, trivial⟩
              · exact ⟨fun _ => ⟨_, rfl, ⟨id, rfl, rfl, fun _ => rfl, id, .inl, by first | exact VLess.refl _ | (simp only [len_map]; exact VLess.refl _)⟩⟩, fun h => by simp at h, fun _ => (by refine ⟨_, rfl, ?_⟩; exact RowLe.uq_ (by rfl) (by simp) ids_data), fun h => by simp at h, trivial⟩
              · simp [wfV, AV.ids, lookR]
              · simp [wfR, AV.idsL, AV.ids, lookR, legC]
              refine awp_ret ?_
              simp only [zz6, Nat.reduceEqDiff, ↓reduceIte]
              rw [ev, e]
              refine doneN [500] (by simp [resCs, resC, S, List.getD, look_cons, lookR, F_ag28, F_sz28, F_ok28]) ?_ (by simp [flatA, flatAs, flatD, ]) (by simp [AV.ids, AV.idsL, ]) (by decide) ?_
              · simp only [List.map_cons, List.map_nil, resA, S_getD, S_mem, lookR_cons, lookR_nil, Nat.reduceLT, Nat.reduceLeDiff, look_cons, Nat.reduceBEq, cond_true, cond_false, resAll, List.getD_cons_zero, List.getD_cons_succ, List.drop_zero, List.drop_succ_cons, List.take_succ_cons, List.take_zero, F_ag28, F_sz28, F_ok28]; rfl
              · exact ⟨⟨_, rfl, trivial, rfl, rfl, rfl, rfl⟩, by simp [flatDs, flatD, legC], trivial⟩
theorem rPostF (nx id_ : Int) (l g : List LegV) (hl : l.length ≤ 400000) (hg : g.length ≤ 400000) : ACalls Try.prog 25 [.agg (ledC ⟨nx, l⟩), iv id_, legs g] [] (.tp [.d (.agg (ledC (postV ⟨nx, l⟩ id_ g))), .d (iv (postE ⟨nx, l⟩ id_ g))]) :=
  (rPost_ nx id_ l g hl hg).freezeT (by simp [frzOk, frzOkL])
theorem twinLed_ (nx : Int) (l : List LegV) (hl : l.length ≤ 1000000) : ACalls Try.prog 21 [.agg (ledC ⟨nx, l⟩)] [⟨65, 4, l.map legC⟩] (.ag [.d (iv nx), .ref 0 l.length]) := by
  refine acalls_S (rs := [.cell 2 28]) Try.func21 rfl rfl 14 [(0, .d (.agg (ledC ⟨nx, l⟩)))] rfl (by simp) rfl ?_
  refine awp_seq fun K0 hK0 => ?_
  refine awp_plain F_mixed [some 1, some 2] rfl ?_
  simp only [List.nil_append, List.cons_append, true_and, and_true, zz0, true_implies, Nat.reduceLT, Nat.reduceLeDiff, zzI, look_nil, Nat.reduceBEq, implies_true, zz35, newRow1, zz1, zzG, zzD, zz16, Option.some.injEq, exists_eq_left', exists_eq_left, Option.map_some, eq_self, reduceCtorEq, and_self, Nat.reduceAdd, Nat.zero_add, zzF, zzB, zzE, zz32, F_zero28, zz10, ledC, legs, zz6, Nat.reduceEqDiff, ↓reduceIte]
  refine hK0 _ ?_; try clear hK0 K0
  refine awp_keepL [1, 2] ?_
  simp only [zz20, zzI, look_nil, Nat.reduceBEq]
  refine awp_seq fun K0 hK0 => ?_
  refine awp_plain F_mixed [some 4, some 5, some 6, some 3, none] rfl ?_
  simp only [List.nil_append, List.cons_append, true_and, and_true, zz0, true_implies, Nat.reduceLT, Nat.reduceLeDiff, zzI, look_nil, Nat.reduceBEq, implies_true, zz19, zz23, F_off28_0, zzB, Nat.zero_add, Nat.reduceAdd, F_ok3, F_ag3, F_sz3, zz8, zzD, zzF, zzE, zz16, Option.some.injEq, exists_eq_left', exists_eq_left, Option.map_some, eq_self, reduceCtorEq, and_self, F_zero28, F_bld28, zz7, splice, Option.getD_some, List.append_nil, zz1, zzG, zz10, F_fld28_0, zz32, newRow1, zz18, F_ok28, F_sz28, zz6, Nat.reduceEqDiff, ↓reduceIte]
  refine hK0 _ ?_; try clear hK0 K0
  refine awp_keepL [1, 2, 3] ?_
  simp only [zz20, zzI, look_nil, Nat.reduceBEq]
  refine awp_seq fun K0 hK0 => ?_
  refine awp_plain F_mixed [some 7, some 8, some 9, some 10, some 11, some 12, none] rfl ?_
  simp only [List.nil_append, List.cons_append, true_and, and_true, zz0, true_implies, Nat.reduceLT, Nat.reduceLeDiff, zzI, look_nil, Nat.reduceBEq, implies_true, zz19, zz23, F_off28_1, zzB, Nat.zero_add, Nat.reduceAdd, F_ok26, F_ag26, F_sz26, zz8, zzD, zzF, zzE, zz16, Option.some.injEq, exists_eq_left', exists_eq_left, Option.map_some, eq_self, reduceCtorEq, and_self, evS_call, F_sl26, F_zero65, F_sz65, F_by65, zz4, maxLen_le, Nat.reduceMul, newRow1, zz9, Option.bind_some, zz18, splice, List.append_nil, zz1, zzG, len_map, zz6, Nat.reduceEqDiff, ↓reduceIte]
  first | refine ⟨le_maxLen hl, by omega, ?_⟩ | refine ⟨by simp, le_maxLen hl, by omega, ?_⟩ | refine ⟨⟨le_maxLen hl, by omega⟩, ?_⟩
  refine hK0 _ ?_; try clear hK0 K0
  refine awp_keepL [2, 3] ?_
  simp only [zz20, zzI, look_nil, Nat.reduceBEq]
  refine awp_seq fun K0 hK0 => ?_
  refine awp_plain F_mixed [some 13, none] rfl ?_
  simp only [List.nil_append, List.cons_append, true_and, and_true, zz0, true_implies, Nat.reduceLT, Nat.reduceLeDiff, zzI, look_nil, Nat.reduceBEq, implies_true, F_ok28, F_ag28, F_sz28, zz8, zz23, zzD, Nat.reduceAdd, Nat.zero_add, zzF, zzB, zzE, zz16, Option.some.injEq, exists_eq_left', exists_eq_left, Option.map_some, eq_self, reduceCtorEq, and_self, zz18, splice, List.append_nil, zz1, zzG, zz6, Nat.reduceEqDiff, ↓reduceIte]
  refine hK0 _ ?_; try clear hK0 K0
  refine awp_keepL [2] ?_
  simp only [zz20, zzI, look_nil, Nat.reduceBEq]
  refine awp_ret ?_
  simp only [zz6, Nat.reduceEqDiff, ↓reduceIte]
  refine doneN [11] (by simp [resCs, resC, S, List.getD, look_cons, lookR, F_ag28, F_sz28, F_ok28]) ?_ (by simp [flatA, flatAs, flatD, ]) (by simp [AV.ids, AV.idsL, ]) (by decide) ?_
  · simp only [List.map_cons, List.map_nil, resA, S_getD, S_mem, lookR_cons, lookR_nil, Nat.reduceLT, Nat.reduceLeDiff, look_cons, Nat.reduceBEq, cond_true, cond_false, resAll, List.getD_cons_zero, List.getD_cons_succ, List.drop_zero, List.drop_succ_cons, List.take_succ_cons, List.take_zero, F_ag28, F_sz28, F_ok28]; rfl
  · exact ⟨⟨_, rfl, trivial, rfl, rfl, rfl, rfl⟩, by simp [flatDs, flatD, legC], trivial⟩
theorem twinLedF (nx : Int) (l : List LegV) (hl : l.length ≤ 1000000) : ACalls Try.prog 21 [.agg (ledC ⟨nx, l⟩)] [] (.d (.agg (ledC ⟨nx, l⟩))) :=
  (twinLed_ nx l hl).freeze (by simp [frzOk, frzOkL])
theorem spoilLed_ (nx : Int) (l : List LegV) (hl : l.length ≤ 1000000) : MCalls Try.prog 26 [.a (.ag [.d (iv nx), .ref 0 l.length])] [⟨65, 4, l.map legC⟩] [⟨65, 4, (l.map spoilL).map legC⟩] [] (.tp []) := by
  refine mcalls_S (rs := []) Try.func26 rfl rfl 16 [(0, .ag [.d (iv nx), .ref 1000000000 l.length])] [(1000000000, (⟨True, 65, 4, true, false, 1000000000, (l.map legC).map (·.map .d)⟩ : ARow))] rfl (by simp) (by rfl) (by rfl) (by rfl) (by rfl) (by rfl) ?_
  simp only [avC_map]
  refine awp_seq fun K0 hK0 => ?_
  refine awp_plain F_mixed [some 1] rfl ?_
  simp only [List.nil_append, List.cons_append, true_and, and_true, zz0, true_implies, Nat.reduceLT, Nat.reduceLeDiff, zzI, look_nil, Nat.reduceBEq, implies_true, zz35, newRow1, zz1, zzG, zzD, zz16, Option.some.injEq, exists_eq_left', exists_eq_left, Option.map_some, eq_self, reduceCtorEq, and_self, Nat.reduceAdd, Nat.zero_add, zzF, zzB, zzE, zz6, Nat.reduceEqDiff, ↓reduceIte]
  refine hK0 _ ?_; try clear hK0 K0
  refine awp_keepL [1] ?_
  simp only [zz20, zzI, look_nil, Nat.reduceBEq]
  refine awp_seq fun K0 hK0 => ?_
  refine awp_plain F_mixed [some 2] rfl ?_
  simp only [List.nil_append, List.cons_append, true_and, and_true, zz0, true_implies, Nat.reduceLT, Nat.reduceLeDiff, zzI, look_nil, Nat.reduceBEq, implies_true, evS_assign, zz6, Nat.reduceEqDiff, ↓reduceIte]
  refine hK0 _ ?_; try clear hK0 K0
  refine awp_keepL [1, 2] ?_
  simp only [zz20, zzI, look_nil, Nat.reduceBEq]
  refine awp_block ?_
  refine awp_loop (fun m s => ∃ A pre post : List LegV, l = pre ++ post ∧ A = pre.map spoilL ∧ m = post.length ∧ s = S 16 [(1, .ptr 1 0 0), (2, .d (iv A.length))] [(1, (⟨True, 28, 2, true, false, 1, [[.d (iv nx), .ref 1000000000 (A ++ post).length]]⟩ : ARow)), (1000000000, (⟨True, 65, 4, true, false, 1000000000, (A ++ post).map (avC legC)⟩ : ARow))]) l.length _ (le_SK id [] rfl (l' := [(1, .ptr 1 0 0), (2, .d (iv ([] : List LegV).length))]) (m' := [(1, (⟨True, 28, 2, true, false, 1, [[.d (iv nx), .ref 1000000000 (([] : List LegV) ++ l).length]]⟩ : ARow)), (1000000000, (⟨True, 65, 4, true, false, 1000000000, (([] : List LegV) ++ l).map (avC legC)⟩ : ARow))]) ?_ ?_ ?_ ?_) ⟨[], [], l, rfl, rfl, rfl, rfl⟩ ?_
  · simp only [leV, look_cons, Nat.reduceBEq, cond_true, cond_false]; exact ⟨VLe.refl _, VLe.refl _, trivial⟩
  · exact ⟨fun _ => ⟨_, rfl, RowLe.cells (VLess.one_ (VLes.cons_ (VLe.dE rfl) (VLes.cons_ (VLe.refE (by simp) (by rfl) (by simp)) VLes.nil_)))⟩, fun h => by simp at h, fun _ => ⟨_, rfl, RowLe.same (by simp) (idsL_avC _ _)⟩, fun h => by simp at h, trivial⟩
  · simp [wfV, AV.ids, lookR]
  · exact ⟨by simp [AV.idsL, AV.ids, lookR], fun e he r' hr' => by rw [idsL_avC _ _ e he] at hr'; simp at hr', trivial⟩
  rintro m s ⟨A, pre, post, hsp, hA, rfl, rfl⟩
  refine awp_seq fun K1 hK1 => ?_
  refine awp_seq fun K2 hK2 => ?_
  refine awp_plain F_mixed [some 3, some 4, some 5, some 6, some 7] rfl ?_
  simp only [List.nil_append, List.cons_append, true_and, and_true, zz0, true_implies, Nat.reduceLT, Nat.reduceLeDiff, zzI, look_nil, Nat.reduceBEq, implies_true, evS_move, zz19, zz23, F_off28_1, zzB, Nat.zero_add, Nat.reduceAdd, F_ok26, F_ag26, F_sz26, zz8, zzD, zzF, zzE, zz16, Option.some.injEq, exists_eq_left', exists_eq_left, Option.map_some, eq_self, reduceCtorEq, and_self, evS_call, zz12, F_sl26, Option.isSome_some, zz21, gr_v, zz22, len_map, zz6, Nat.reduceEqDiff, ↓reduceIte]
  refine hK2 _ ?_; try clear hK2 K2
  refine awp_keepL [1, 2, 7] ?_
  simp only [zz20, zzI, look_nil, Nat.reduceBEq]
  refine awp_condS _ (by decide) (by simp only [look_cons, Nat.reduceBEq, cond_true, cond_false]; rfl) ?_ ?_
  · intro hb
    obtain ⟨x, post, rfl⟩ := more_of hb; clear hb
    have hw : IntKind.wrap .i64 ((A.length : Int) + 1) = ((A ++ [spoilL x]).length : Int) := by
      have e := congrArg List.length hsp
      simp only [List.length_append, List.length_cons] at e
      have e2 : A.length = pre.length := by rw [hA]; simp
      rw [wrapI (by omega) (by omega)]; simp
    refine awp_skip ?_
    simp only [zz6, Nat.reduceEqDiff, ↓reduceIte]
    refine hK1 _ ?_; try clear hK1 K1
    refine awp_keepL [1, 2] ?_
    simp only [zz20, zzI, look_nil, Nat.reduceBEq]
    refine awp_seq fun K1 hK1 => ?_
    refine awp_block ?_
    refine awp_plain F_mixed [some 10, some 11, some 12, some 13, some 14, some 15, none] rfl ?_
    simp only [List.nil_append, List.cons_append, true_and, and_true, zz0, true_implies, Nat.reduceLT, Nat.reduceLeDiff, zzI, look_nil, Nat.reduceBEq, implies_true, zz19, zz23, F_off28_1, zzB, Nat.zero_add, Nat.reduceAdd, F_ok26, F_ag26, F_sz26, zz8, zzD, zzF, zzE, zz16, Option.some.injEq, exists_eq_left', exists_eq_left, Option.map_some, eq_self, reduceCtorEq, and_self, evS_move, evS_indexAddr, zz24, F_sl26, F_sz65, F_off65_0, F_off24_1, zz18, F_ok3, F_sz3, splice, List.append_nil, zz1, zzG, getD_mid, len_map, lt_mid, ge_mid, lt_midN, set_mid, avC, legC, List.map_cons, zz6, Nat.reduceEqDiff, ↓reduceIte]
    refine hK1 _ ?_; try clear hK1 K1
    refine awp_keepL [1, 2] ?_
    simp only [zz20, zzI, look_nil, Nat.reduceBEq]
    refine awp_plain F_mixed [some 8, some 9, some 2] rfl ?_
    simp only [List.nil_append, List.cons_append, true_and, and_true, zz0, true_implies, Nat.reduceLT, Nat.reduceLeDiff, zzI, look_nil, Nat.reduceBEq, implies_true, evS_move, zz21, gr_v, zz26, evS_assign, zz6, Nat.reduceEqDiff, ↓reduceIte]
    refine ⟨post.length, _, by simp, le_SK id [] rfl (l' := [(1, .ptr 1 0 0), (2, .d (iv (A ++ [spoilL x]).length))]) (m' := [(1, (⟨True, 28, 2, true, false, 1, [[.d (iv nx), .ref 1000000000 ((A ++ [spoilL x]) ++ post).length]]⟩ : ARow)), (1000000000, (⟨True, 65, 4, true, false, 1000000000, ((A ++ [spoilL x]) ++ post).map (avC legC)⟩ : ARow))]) ?_ ?_ ?_ ?_, A ++ [spoilL x], pre ++ [x], post, by simp [hsp], by simp [hA], rfl, rfl⟩
    · simp only [leV, look_cons, Nat.reduceBEq, cond_true, cond_false, hw]
      exact ⟨VLe.refl _, VLe.refl _, trivial⟩
    · exact ⟨fun _ => ⟨_, rfl, RowLe.cells (VLess.one_ (VLes.cons_ (VLe.dE rfl) (VLes.cons_ (VLe.refE (by simp) (by rfl) (by simp)) VLes.nil_)))⟩, fun h => by simp at h, fun _ => ⟨_, rfl, RowLe.same (by simp [avC, legC, spoilL]) (by
        intro e he
        rcases List.mem_append.1 he with he | he
        · exact idsL_avC _ _ e he
        · rcases List.mem_cons.1 he with rfl | he
          · simp [AV.idsL, AV.ids]
          · exact idsL_avC _ _ e he)⟩, fun h => by simp at h, trivial⟩
    · simp [wfV, AV.ids, lookR]
    · exact ⟨by simp [AV.idsL, AV.ids, lookR], fun e he r' hr' => by rw [idsL_avC _ _ e he] at hr'; simp at hr', trivial⟩
  · intro hb
    obtain rfl := none_of hb; clear hb
    simp only [List.append_nil] at hsp ⊢
    obtain rfl : l = pre := hsp
    subst hA
    refine awp_exit ?_
    simp only [zz6, Nat.reduceEqDiff, ↓reduceIte]
    try simp only [List.append_nil]
    refine doneM [] (by simp [resCs, resC, S, List.getD, look_cons, lookR, ]) ?_ (by simp [flatA, flatAs, flatD, ]) (by simp [AV.ids, AV.idsL, ]) (by decide) (by simp) ?_ ?_
    · simp only [List.map_cons, List.map_nil, resA, S_getD, S_mem, lookR_cons, lookR_nil, Nat.reduceLT, Nat.reduceLeDiff, look_cons, Nat.reduceBEq, cond_true, cond_false, resAll, List.getD_cons_zero, List.getD_cons_succ, List.drop_zero, List.drop_succ_cons, List.take_succ_cons, List.take_zero, ]; rfl
    · exact trivial
    · exact ⟨⟨_, rfl, trivial, rfl, rfl, (avC_map _ _).symm⟩, by simp [flatDs, flatD, legC, spoilL], trivial⟩
set_option maxRecDepth 100000 in
set_option maxHeartbeats 4000000 in
theorem ledgerExact_ (nx : Int) (l : List LegV) (id_ : Int) (g : List LegV) (a : AcV) (cur : Int) (ks : List Int) : ACalls Try.prog 7 [.agg (ledC ⟨nx, l⟩), iv id_, legs g, .agg (acC a), iv cur, ints ks] [] (bv true) := by
  refine acalls_S (rs := [.tmp 12]) Try.func7 rfl rfl 121 [(0, .d (.agg (ledC ⟨nx, l⟩))), (1, .d (iv id_)), (2, .d (legs g)), (3, .d (.agg (acC a))), (4, .d (iv cur)), (5, .d (ints ks))] rfl (by simp) rfl ?_
  refine awp_seq fun K0 hK0 => ?_
  refine awp_plain F_mixed [some 6, some 9, some 12] rfl ?_
  simp only [List.nil_append, List.cons_append, true_and, and_true, zz0, true_implies, Nat.reduceLT, Nat.reduceLeDiff, zzI, look_nil, Nat.reduceBEq, implies_true, zz35, newRow1, zz1, zzG, zzD, zz16, Option.some.injEq, exists_eq_left', exists_eq_left, Option.map_some, eq_self, reduceCtorEq, and_self, Nat.reduceAdd, Nat.zero_add, zzF, zzB, zzE, evS_assign, ledC, legs, acC, zz6, Nat.reduceEqDiff, ↓reduceIte]
  refine hK0 _ ?_; try clear hK0 K0
  refine awp_keepL [1, 2, 4, 5, 6, 9] ?_
  simp only [zz20, zzI, look_nil, Nat.reduceBEq]
  refine awp_seq fun K0 hK0 => ?_
  refine awp_seq fun K1 hK1 => ?_
  refine awp_plain F_mixed [some 22, some 23, some 24, some 25, some 26, some 27, some 28, some 29, some 30, some 31, some 32, some 33, some 34, some 35] rfl ?_
  simp only [List.nil_append, List.cons_append, true_and, and_true, zz0, true_implies, Nat.reduceLT, Nat.reduceLeDiff, zzI, look_nil, Nat.reduceBEq, implies_true, Nat.reduceSub, S_getD, zz5, and_imp, imp_and, imp_self, and_self, zz19, zz23, F_off28_1, zzB, Nat.zero_add, Nat.reduceAdd, F_ok26, F_ag26, F_sz26, zz8, zzD, zzF, zzE, zz16, Option.some.injEq, exists_eq_left', exists_eq_left, Option.map_some, eq_self, reduceCtorEq, evS_call, zz12, F_sl26, Option.isSome_some, zz21, gr_v, zz25, evS_move, F_sl32, zz13, pickK_l, pickK_r, F_sl50, legs, ints, len_map, zz6, Nat.reduceEqDiff, ↓reduceIte]
  refine hK1 _ ?_; try clear hK1 K1
  refine awp_keepL [1, 2, 4, 5, 6, 9, 35] ?_
  simp only [zz20, zzI, look_nil, Nat.reduceBEq]
  refine awp_condS _ (by decide) (by simp only [look_cons, Nat.reduceBEq, cond_true, cond_false]; rfl) ?_ ?_
  · intro hb
    clear hb
    refine awp_seq fun K2 hK2 => ?_
    refine awp_plain F_mixed [some 12] rfl ?_
    simp only [List.nil_append, List.cons_append, true_and, and_true, zz0, true_implies, Nat.reduceLT, Nat.reduceLeDiff, zzI, look_nil, Nat.reduceBEq, implies_true, evS_assign, zz6, Nat.reduceEqDiff, ↓reduceIte]
    refine hK2 _ ?_; try clear hK2 K2
    refine awp_keepL [12] ?_
    simp only [zz20, zzI, look_nil, Nat.reduceBEq]
    refine awp_ret ?_
    simp only [zz6, Nat.reduceEqDiff, ↓reduceIte]
    refine done0 (by simp only [resCs, resC]; trivial) ?_ (by simp [flatA, flatAs, flatD]) (by simp [AV.ids, AV.idsL])
    simp only [List.map_cons, List.map_nil, resA, S_getD, Nat.reduceLT, Nat.reduceLeDiff, look_cons, Nat.reduceBEq, cond_true, cond_false, resAll]
    
  · intro hb
    have hc : ((decide ((l.length : Int) > 200) || decide ((g.length : Int) > 200)) || decide ((ks.length : Int) > 200)) = false := hb
    clear hb
    simp only [Bool.or_eq_false_iff, decide_eq_false_iff_not] at hc
    have hl : l.length ≤ 200 := by omega
    have hg : g.length ≤ 200 := by omega
    have hk : ks.length ≤ 200 := by omega
    have hEq : (ledE ⟨nx, l⟩ == 0) = ledOk ⟨nx, l⟩ := by simp only [ledE]; cases ledOk ⟨nx, l⟩ <;> rfl
    have hpl := postV_len ⟨nx, l⟩ id_ g
    simp only at hpl
    refine awp_skip ?_
    simp only [zz6, Nat.reduceEqDiff, ↓reduceIte]
    refine hK0 _ ?_; try clear hK0 K0
    refine awp_keepL [1, 2, 4, 5, 6, 9] ?_
    simp only [zz20, zzI, look_nil, Nat.reduceBEq]
    refine awp_seq fun K0 hK0 => ?_
    refine awp_plain F_mixed [some 36, some 37, some 13, none] rfl ?_
    simp only [List.nil_append, List.cons_append, true_and, and_true, zz0, true_implies, Nat.reduceLT, Nat.reduceLeDiff, zzI, look_nil, Nat.reduceBEq, implies_true, F_ok28, F_ag28, F_sz28, zz8, zz23, zzD, Nat.reduceAdd, Nat.zero_add, zzF, zzB, zzE, zz16, Option.some.injEq, exists_eq_left', exists_eq_left, Option.map_some, eq_self, reduceCtorEq, and_self, evS_call, evC_value, zz32, newRow1, F_zero28, zz10, zz18, splice, List.append_nil, zz1, zzG, ledC, legs, D.agg.injEq, zz6, Nat.reduceEqDiff, ↓reduceIte]
    refine call_go F_go21 (fun hG => twinLedF nx l (by omega)) (by simp [AV.ids, AV.idsL]) (by simp) ?_
    simp only [List.nil_append, List.cons_append, true_and, and_true, zz0, true_implies, Nat.reduceLT, Nat.reduceLeDiff, zzI, look_nil, Nat.reduceBEq, implies_true, F_ok28, F_ag28, F_sz28, zz8, zz23, zzD, Nat.reduceAdd, Nat.zero_add, zzF, zzB, zzE, zz16, Option.some.injEq, exists_eq_left', exists_eq_left, Option.map_some, eq_self, reduceCtorEq, and_self, evS_call, evC_value, zz32, newRow1, F_zero28, zz10, zz18, splice, List.append_nil, zz1, zzG, ledC, legs, D.agg.injEq, zz6, Nat.reduceEqDiff, ↓reduceIte, atsL, oksG, freeN, AV.ren, AV.renL, addRows, ORow.row, Nat.reduceMul, Nat.reduceAdd, zz9, Option.bind_some, Option.map_some, forall_eq', D.sl.injEq, S_mem, Option.some.injEq, exists_eq_left', exists_eq_left, exists_eq', exists_eq, List.length_cons, zz2]
    refine hK0 _ ?_; try clear hK0 K0
    refine awp_keepL [1, 2, 4, 5, 6, 9, 13] ?_
    simp only [zz20, zzI, look_nil, Nat.reduceBEq]
    refine awp_seq fun K0 hK0 => ?_
    refine awp_plain F_mixed [some 38, some 39, some 14] rfl ?_
    simp only [List.nil_append, List.cons_append, true_and, and_true, zz0, true_implies, Nat.reduceLT, Nat.reduceLeDiff, zzI, look_nil, Nat.reduceBEq, implies_true, F_ok28, F_ag28, F_sz28, zz8, zz23, zzD, Nat.reduceAdd, Nat.zero_add, zzF, zzB, zzE, zz16, Option.some.injEq, exists_eq_left', exists_eq_left, Option.map_some, eq_self, reduceCtorEq, and_self, evS_call, evC_value, evS_assign, ledC, legs, D.agg.injEq, zz6, Nat.reduceEqDiff, ↓reduceIte]
    refine call_go F_go22 (fun hG => rLed_ ⟨nx, l⟩ (by simp only; omega)) (by simp [AV.ids, AV.idsL]) (by simp) ?_
    simp only [List.nil_append, List.cons_append, true_and, and_true, zz0, true_implies, Nat.reduceLT, Nat.reduceLeDiff, zzI, look_nil, Nat.reduceBEq, implies_true, F_ok28, F_ag28, F_sz28, zz8, zz23, zzD, Nat.reduceAdd, Nat.zero_add, zzF, zzB, zzE, zz16, Option.some.injEq, exists_eq_left', exists_eq_left, Option.map_some, eq_self, reduceCtorEq, and_self, evS_call, evC_value, evS_assign, ledC, legs, D.agg.injEq, zz6, Nat.reduceEqDiff, ↓reduceIte, atsL, oksG, freeN, AV.ren, AV.renL, addRows, ORow.row, Nat.reduceMul, Nat.reduceAdd, zz9, Option.bind_some, Option.map_some, forall_eq', D.sl.injEq, S_mem, Option.some.injEq, exists_eq_left', exists_eq_left, exists_eq', exists_eq, List.length_cons, zz2]
    refine hK0 _ ?_; try clear hK0 K0
    refine awp_keepL [1, 2, 4, 5, 6, 9, 13, 14] ?_
    simp only [zz20, zzI, look_nil, Nat.reduceBEq]
    refine awp_seq fun K0 hK0 => ?_
    refine awp_seq fun K1 hK1 => ?_
    refine awp_draw F_mixed [some 40, some 41, some 42, some 43, some 44, some 45, some 46, some 47, some 48, some 49, some 50, some 51, some 52, some 53] rfl (by kernel_rfl) ?_
    simp only [List.nil_append, List.cons_append, true_and, and_true, zz0, true_implies, Nat.reduceLT, Nat.reduceLeDiff, zzI, look_nil, Nat.reduceBEq, implies_true, Nat.reduceSub, S_getD, zz5, and_imp, imp_and, imp_self, and_self, F_ok28, F_ag28, F_sz28, zz8, zz23, zzD, Nat.reduceAdd, Nat.zero_add, zzF, zzB, zzE, zz16, Option.some.injEq, exists_eq_left', exists_eq_left, Option.map_some, eq_self, reduceCtorEq, evS_call, evC_value, zz21, gr_v, zz34, evS_move, b_neqb, pure_neqb F_bool4, F_ok24, F_ag24, F_sz24, zz28, zz13, pickK_l, pickK_r, ledC, legs, acC, D.agg.injEq, hEq, beq_self_eq_true, bne_self_eq_false, Bool.not_true, Bool.or_self, zz6, Nat.reduceEqDiff, ↓reduceIte]
    refine call_go F_go23 (fun hG => lchkS ⟨nx, l⟩ (by simp only; omega)) (by simp [AV.ids, AV.idsL]) (by simp) ?_
    simp only [List.nil_append, List.cons_append, true_and, and_true, zz0, true_implies, Nat.reduceLT, Nat.reduceLeDiff, zzI, look_nil, Nat.reduceBEq, implies_true, Nat.reduceSub, S_getD, zz5, and_imp, imp_and, imp_self, and_self, F_ok28, F_ag28, F_sz28, zz8, zz23, zzD, Nat.reduceAdd, Nat.zero_add, zzF, zzB, zzE, zz16, Option.some.injEq, exists_eq_left', exists_eq_left, Option.map_some, eq_self, reduceCtorEq, evS_call, evC_value, zz21, gr_v, zz34, evS_move, b_neqb, pure_neqb F_bool4, F_ok24, F_ag24, F_sz24, zz28, zz13, pickK_l, pickK_r, ledC, legs, acC, D.agg.injEq, hEq, beq_self_eq_true, bne_self_eq_false, Bool.not_true, Bool.or_self, zz6, Nat.reduceEqDiff, ↓reduceIte, atsL, oksG, freeN, AV.ren, AV.renL, addRows, ORow.row, Nat.reduceMul, Nat.reduceAdd, zz9, Option.bind_some, Option.map_some, forall_eq', D.sl.injEq, S_mem, Option.some.injEq, exists_eq_left', exists_eq_left, exists_eq', exists_eq, List.length_cons, zz2]
    refine call_go F_go13 (fun hG => of10S ⟨nx, l⟩ a (by simp only; omega)) (by simp [AV.ids, AV.idsL]) (by simp) ?_
    simp only [List.nil_append, List.cons_append, true_and, and_true, zz0, true_implies, Nat.reduceLT, Nat.reduceLeDiff, zzI, look_nil, Nat.reduceBEq, implies_true, Nat.reduceSub, S_getD, zz5, and_imp, imp_and, imp_self, and_self, F_ok28, F_ag28, F_sz28, zz8, zz23, zzD, Nat.reduceAdd, Nat.zero_add, zzF, zzB, zzE, zz16, Option.some.injEq, exists_eq_left', exists_eq_left, Option.map_some, eq_self, reduceCtorEq, evS_call, evC_value, zz21, gr_v, zz34, evS_move, b_neqb, pure_neqb F_bool4, F_ok24, F_ag24, F_sz24, zz28, zz13, pickK_l, pickK_r, ledC, legs, acC, D.agg.injEq, hEq, beq_self_eq_true, bne_self_eq_false, Bool.not_true, Bool.or_self, zz6, Nat.reduceEqDiff, ↓reduceIte, atsL, oksG, freeN, AV.ren, AV.renL, addRows, ORow.row, Nat.reduceMul, Nat.reduceAdd, zz9, Option.bind_some, Option.map_some, forall_eq', D.sl.injEq, S_mem, Option.some.injEq, exists_eq_left', exists_eq_left, exists_eq', exists_eq, List.length_cons, zz2]
    refine call_go F_go24 (fun hG => rOfS ⟨nx, l⟩ a (by simp only; omega)) (by simp [AV.ids, AV.idsL]) (by simp) ?_
    simp only [List.nil_append, List.cons_append, true_and, and_true, zz0, true_implies, Nat.reduceLT, Nat.reduceLeDiff, zzI, look_nil, Nat.reduceBEq, implies_true, Nat.reduceSub, S_getD, zz5, and_imp, imp_and, imp_self, and_self, F_ok28, F_ag28, F_sz28, zz8, zz23, zzD, Nat.reduceAdd, Nat.zero_add, zzF, zzB, zzE, zz16, Option.some.injEq, exists_eq_left', exists_eq_left, Option.map_some, eq_self, reduceCtorEq, evS_call, evC_value, zz21, gr_v, zz34, evS_move, b_neqb, pure_neqb F_bool4, F_ok24, F_ag24, F_sz24, zz28, zz13, pickK_l, pickK_r, ledC, legs, acC, D.agg.injEq, hEq, beq_self_eq_true, bne_self_eq_false, Bool.not_true, Bool.or_self, zz6, Nat.reduceEqDiff, ↓reduceIte, atsL, oksG, freeN, AV.ren, AV.renL, addRows, ORow.row, Nat.reduceMul, Nat.reduceAdd, zz9, Option.bind_some, Option.map_some, forall_eq', D.sl.injEq, S_mem, Option.some.injEq, exists_eq_left', exists_eq_left, exists_eq', exists_eq, List.length_cons, zz2]
    refine hK1 _ ?_; try clear hK1 K1
    refine awp_keepL [1, 2, 4, 5, 6, 13, 14, 53] ?_
    simp only [zz20, zzI, look_nil, Nat.reduceBEq]
    refine awp_condS _ (by decide) (by simp only [look_cons, Nat.reduceBEq, cond_true, cond_false]; rfl) ?_ ?_
    · intro hb
      first | cases hb | simp at hb
    · intro hb
      clear hb
      refine awp_skip ?_
      simp only [zz6, Nat.reduceEqDiff, ↓reduceIte]
      refine hK0 _ ?_; try clear hK0 K0
      refine awp_keepL [1, 2, 4, 5, 6, 13, 14] ?_
      simp only [zz20, zzI, look_nil, Nat.reduceBEq]
      refine awp_seq fun K0 hK0 => ?_
      refine awp_plain F_mixed [some 55, some 56, some 57, some 58, some 54, some 59, some 60, some 15, none, some 16] rfl ?_
      simp only [List.nil_append, List.cons_append, true_and, and_true, zz0, true_implies, Nat.reduceLT, Nat.reduceLeDiff, zzI, look_nil, Nat.reduceBEq, implies_true, F_ok28, F_ag28, F_sz28, zz8, zz23, zzD, Nat.reduceAdd, Nat.zero_add, zzF, zzB, zzE, zz16, Option.some.injEq, exists_eq_left', exists_eq_left, Option.map_some, eq_self, reduceCtorEq, and_self, evS_move, evS_call, evC_value, zz14, zz32, newRow1, F_zero28, zz10, zz18, splice, List.append_nil, zz1, zzG, evS_assign, ledC, legs, D.agg.injEq, zz6, Nat.reduceEqDiff, ↓reduceIte]
      refine call_go F_go11 (fun hG => PostO ⟨nx, l⟩ id_ g (by simp only; omega) (by omega)) (by simp [AV.ids, AV.idsL]) (by simp) ?_
      simp only [List.nil_append, List.cons_append, true_and, and_true, zz0, true_implies, Nat.reduceLT, Nat.reduceLeDiff, zzI, look_nil, Nat.reduceBEq, implies_true, F_ok28, F_ag28, F_sz28, zz8, zz23, zzD, Nat.reduceAdd, Nat.zero_add, zzF, zzB, zzE, zz16, Option.some.injEq, exists_eq_left', exists_eq_left, Option.map_some, eq_self, reduceCtorEq, and_self, evS_move, evS_call, evC_value, zz14, zz32, newRow1, F_zero28, zz10, zz18, splice, List.append_nil, zz1, zzG, evS_assign, ledC, legs, D.agg.injEq, zz6, Nat.reduceEqDiff, ↓reduceIte, atsL, oksG, freeN, AV.ren, AV.renL, addRows, ORow.row, Nat.reduceMul, Nat.reduceAdd, zz9, Option.bind_some, Option.map_some, forall_eq', D.sl.injEq, S_mem, Option.some.injEq, exists_eq_left', exists_eq_left, exists_eq', exists_eq, List.length_cons, zz2]
      refine hK0 _ ?_; try clear hK0 K0
      refine awp_keepL [1, 2, 4, 5, 6, 13, 14, 15, 16] ?_
      simp only [zz20, zzI, look_nil, Nat.reduceBEq]
      refine awp_seq fun K0 hK0 => ?_
      refine awp_plain F_mixed [some 62, some 63, some 64, some 65, some 61, some 66, some 67, some 17, none, some 18] rfl ?_
      simp only [List.nil_append, List.cons_append, true_and, and_true, zz0, true_implies, Nat.reduceLT, Nat.reduceLeDiff, zzI, look_nil, Nat.reduceBEq, implies_true, F_ok28, F_ag28, F_sz28, zz8, zz23, zzD, Nat.reduceAdd, Nat.zero_add, zzF, zzB, zzE, zz16, Option.some.injEq, exists_eq_left', exists_eq_left, Option.map_some, eq_self, reduceCtorEq, and_self, evS_move, evS_call, evC_value, zz14, zz32, newRow1, F_zero28, zz10, zz18, splice, List.append_nil, zz1, zzG, evS_assign, ledC, legs, D.agg.injEq, zz6, Nat.reduceEqDiff, ↓reduceIte]
      refine call_go F_go25 (fun hG => rPostF nx id_ l g (by omega) (by omega)) (by simp [AV.ids, AV.idsL]) (by simp) ?_
      simp only [List.nil_append, List.cons_append, true_and, and_true, zz0, true_implies, Nat.reduceLT, Nat.reduceLeDiff, zzI, look_nil, Nat.reduceBEq, implies_true, F_ok28, F_ag28, F_sz28, zz8, zz23, zzD, Nat.reduceAdd, Nat.zero_add, zzF, zzB, zzE, zz16, Option.some.injEq, exists_eq_left', exists_eq_left, Option.map_some, eq_self, reduceCtorEq, and_self, evS_move, evS_call, evC_value, zz14, zz32, newRow1, F_zero28, zz10, zz18, splice, List.append_nil, zz1, zzG, evS_assign, ledC, legs, D.agg.injEq, zz6, Nat.reduceEqDiff, ↓reduceIte, atsL, oksG, freeN, AV.ren, AV.renL, addRows, ORow.row, Nat.reduceMul, Nat.reduceAdd, zz9, Option.bind_some, Option.map_some, forall_eq', D.sl.injEq, S_mem, Option.some.injEq, exists_eq_left', exists_eq_left, exists_eq', exists_eq, List.length_cons, zz2]
      refine hK0 _ ?_; try clear hK0 K0
      refine awp_keepL [4, 5, 6, 13, 14, 15, 16, 17, 18] ?_
      simp only [zz20, zzI, look_nil, Nat.reduceBEq]
      refine awp_seq fun K0 hK0 => ?_
      refine awp_seq fun K1 hK1 => ?_
      refine awp_plain F_mixed [some 68, some 69, some 70, some 71, some 72, some 73, some 74, some 75, some 76] rfl ?_
      simp only [List.nil_append, List.cons_append, true_and, and_true, zz0, true_implies, Nat.reduceLT, Nat.reduceLeDiff, zzI, look_nil, Nat.reduceBEq, implies_true, Nat.reduceSub, S_getD, zz5, and_imp, imp_and, imp_self, and_self, F_ok28, F_ag28, F_sz28, zz8, zz23, zzD, Nat.reduceAdd, Nat.zero_add, zzF, zzB, zzE, zz16, Option.some.injEq, exists_eq_left', exists_eq_left, Option.map_some, eq_self, reduceCtorEq, evS_call, evC_value, zz29, gr_v, zz30, evS_move, zz21, zz28, zz13, pickK_l, pickK_r, ledC, legs, D.agg.injEq, D.sl.injEq, List.cons.injEq, bne_self_eq_false, zz6, Nat.reduceEqDiff, ↓reduceIte]
      skip
      refine call_goE F_go17 (fun hG => kLed_ (postV ⟨nx, l⟩ id_ g).last (postV ⟨nx, l⟩ id_ g).bal (by omega)) (by simp [AV.ids, AV.idsL]) (by simp) ?_
      simp only [List.nil_append, List.cons_append, true_and, and_true, zz0, true_implies, Nat.reduceLT, Nat.reduceLeDiff, zzI, look_nil, Nat.reduceBEq, implies_true, Nat.reduceSub, S_getD, zz5, and_imp, imp_and, imp_self, and_self, F_ok28, F_ag28, F_sz28, zz8, zz23, zzD, Nat.reduceAdd, Nat.zero_add, zzF, zzB, zzE, zz16, Option.some.injEq, exists_eq_left', exists_eq_left, Option.map_some, eq_self, reduceCtorEq, evS_call, evC_value, zz29, gr_v, zz30, evS_move, zz21, zz28, zz13, pickK_l, pickK_r, ledC, legs, D.agg.injEq, D.sl.injEq, List.cons.injEq, bne_self_eq_false, zz6, Nat.reduceEqDiff, ↓reduceIte, asEs_cons, asEs_nil, asE_ag, asE_d, asE_ref, asEc_cons, asEc_nil, asF_d, asF_ref, asF_ag, asGs, oksF, atsL, oksG, freeN, AV.ren, AV.renL, addRows, ORow.row, Nat.reduceMul, Nat.reduceAdd, zz9, Option.bind_some, Option.map_some, forall_eq', D.sl.injEq, S_mem, Option.some.injEq, exists_eq_left', exists_eq_left, exists_eq', exists_eq, List.length_cons, zz2]
      first | refine ⟨by simp, ?_⟩ | skip
      refine hK1 _ ?_; try clear hK1 K1
      refine awp_keepL [4, 5, 6, 13, 14, 15, 76] ?_
      simp only [zz20, zzI, look_nil, Nat.reduceBEq]
      refine awp_condS _ (by decide) (by simp only [look_cons, Nat.reduceBEq, cond_true, cond_false]; rfl) ?_ ?_
      · intro hb
        first | cases hb | simp at hb
      · intro hb
        clear hb
        refine awp_skip ?_
        simp only [zz6, Nat.reduceEqDiff, ↓reduceIte]
        refine hK0 _ ?_; try clear hK0 K0
        refine awp_keepL [4, 5, 6, 13, 14, 15] ?_
        simp only [zz20, zzI, look_nil, Nat.reduceBEq]
        refine awp_seq fun K0 hK0 => ?_
        refine awp_mut [some 77, some 78] rfl 1 rfl ?_
        simp only [List.nil_append, List.cons_append, true_and, and_true, zz0, true_implies, Nat.reduceLT, Nat.reduceLeDiff, zzI, look_nil, Nat.reduceBEq, implies_true, F_ok28, F_ag28, F_sz28, zz8, zz23, zzD, Nat.reduceAdd, Nat.zero_add, zzF, zzB, zzE, zz16, Option.some.injEq, exists_eq_left', exists_eq_left, Option.map_some, eq_self, reduceCtorEq, and_self, evS_call, evC_value, zz6, Nat.reduceEqDiff, ↓reduceIte]
        refine mut_go [59000] F_go26 (spoilLed_ (postV ⟨nx, l⟩ id_ g).last (postV ⟨nx, l⟩ id_ g).bal (by omega)) (by simp [AV.ids, AV.idsL]) (by decide) (by first | exact ⟨by decide, by simp⟩ | rfl) ?_
        simp only [List.nil_append, List.cons_append, true_and, and_true, zz0, true_implies, Nat.reduceLT, Nat.reduceLeDiff, zzI, look_nil, Nat.reduceBEq, implies_true, F_ok28, F_ag28, F_sz28, zz8, zz23, zzD, Nat.reduceAdd, Nat.zero_add, zzF, zzB, zzE, zz16, Option.some.injEq, exists_eq_left', exists_eq_left, Option.map_some, eq_self, reduceCtorEq, and_self, evS_call, evC_value, zz6, Nat.reduceEqDiff, ↓reduceIte, mArgs_a, AV.ids, AV.idsL, List.append_nil, List.mem_cons, or_false, Nat.lt_succ_self, mArgs_nil, asE_cl, asF_cl, asD_ptr, asG_ptr, asD_ep, asG_ep, List.mem_singleton, forall_eq, asEc_cons, asEc_nil, mArgs_d, mArgs_m, mRows_nil, mRows_cons, mNewL, nxM, mBase, mName, oksL, List.getElem?_cons_zero, List.getElem?_cons_succ, asE_ag, asE_d, asE_ref, asEc_cons, asEc_nil, asF_d, asF_ref, asF_ag, asGs, AV.ids, AV.idsL, List.length_singleton, List.not_mem_nil, false_implies, forall_const, atsL, asD_self, asD_nil, asD_sl, asD_agg, asD_int, asD_bool, asD_func, asD_ag, asD_ref, asG_d, asG_ag, asG_ref, freeN, AV.ren, AV.renL, addRows, ORow.row, Nat.reduceMul, Nat.reduceAdd, zz9, Option.bind_some, Option.map_some, forall_eq', D.sl.injEq, S_mem, Option.some.injEq, exists_eq_left', exists_eq_left, exists_eq', exists_eq, List.length_cons, S_func, Sk_func]
        refine ⟨by simp [flatDs, flatD, legC, spoilL], ?_⟩
        refine hK0 _ ?_; try clear hK0 K0
        refine awp_keepL [4, 5, 6, 13, 14] ?_
        simp only [zz20, zzI, look_nil, Nat.reduceBEq]
        refine awp_seq fun K0 hK0 => ?_
        refine awp_plain F_mixed [some 80, some 81, some 82, some 83, some 79, some 84, some 85, some 19, some 16] rfl ?_
        simp only [List.nil_append, List.cons_append, true_and, and_true, zz0, true_implies, Nat.reduceLT, Nat.reduceLeDiff, zzI, look_nil, Nat.reduceBEq, implies_true, F_ok28, F_ag28, F_sz28, zz8, zz23, zzD, Nat.reduceAdd, Nat.zero_add, zzF, zzB, zzE, zz16, Option.some.injEq, exists_eq_left', exists_eq_left, Option.map_some, eq_self, reduceCtorEq, and_self, evS_move, evS_call, evC_value, zz14, evS_assign, ledC, legs, ints, D.agg.injEq, zz6, Nat.reduceEqDiff, ↓reduceIte]
        refine call_go F_go27 (fun hG => tot10S ⟨nx, l⟩ cur ks (by simp only; omega) (by omega)) (by simp [AV.ids, AV.idsL]) (by simp) ?_
        simp only [List.nil_append, List.cons_append, true_and, and_true, zz0, true_implies, Nat.reduceLT, Nat.reduceLeDiff, zzI, look_nil, Nat.reduceBEq, implies_true, F_ok28, F_ag28, F_sz28, zz8, zz23, zzD, Nat.reduceAdd, Nat.zero_add, zzF, zzB, zzE, zz16, Option.some.injEq, exists_eq_left', exists_eq_left, Option.map_some, eq_self, reduceCtorEq, and_self, evS_move, evS_call, evC_value, zz14, evS_assign, ledC, legs, ints, D.agg.injEq, zz6, Nat.reduceEqDiff, ↓reduceIte, atsL, oksG, freeN, AV.ren, AV.renL, addRows, ORow.row, Nat.reduceMul, Nat.reduceAdd, zz9, Option.bind_some, Option.map_some, forall_eq', D.sl.injEq, S_mem, Option.some.injEq, exists_eq_left', exists_eq_left, exists_eq', exists_eq, List.length_cons, zz2]
        refine hK0 _ ?_; try clear hK0 K0
        refine awp_keepL [4, 5, 6, 13, 14, 16, 19] ?_
        simp only [zz20, zzI, look_nil, Nat.reduceBEq]
        refine awp_seq fun K0 hK0 => ?_
        refine awp_plain F_mixed [some 20, some 21] rfl ?_
        simp only [List.nil_append, List.cons_append, true_and, and_true, zz0, true_implies, Nat.reduceLT, Nat.reduceLeDiff, zzI, look_nil, Nat.reduceBEq, implies_true, evS_assign, zz6, Nat.reduceEqDiff, ↓reduceIte]
        refine hK0 _ ?_; try clear hK0 K0
        refine awp_keepL [4, 5, 6, 13, 14, 16, 19, 20, 21] ?_
        simp only [zz20, zzI, look_nil, Nat.reduceBEq]
        refine awp_seq fun K0 hK0 => ?_
        refine awp_seq fun K1 hK1 => ?_
        refine awp_plain F_mixed [some 86] rfl ?_
        simp only [List.nil_append, List.cons_append, true_and, and_true, zz0, true_implies, Nat.reduceLT, Nat.reduceLeDiff, zzI, look_nil, Nat.reduceBEq, implies_true, evS_move, zz6, Nat.reduceEqDiff, ↓reduceIte]
        refine hK1 _ ?_; try clear hK1 K1
        refine awp_keepL [4, 5, 6, 13, 14, 16, 19, 20, 21, 86] ?_
        simp only [zz20, zzI, look_nil, Nat.reduceBEq]
        refine awp_condS _ (by decide) (by simp only [look_cons, Nat.reduceBEq, cond_true, cond_false]; rfl) ?_ ?_
        · intro hb
          have ho : ledOk ⟨nx, l⟩ = true := hb
          clear hb
          obtain ⟨hF1, hF2, hF3⟩ := tot_fin ho cur ks
          have hr : ∀ x ∈ l, rightN x.amt = true := fun x hx => ok_rt ((ledOk_iff _).1 ho).ok x hx
          refine awp_plain F_mixed [some 88, some 89, some 90, some 91, some 87, some 92, some 93, some 20, some 21] rfl ?_
          simp only [List.nil_append, List.cons_append, true_and, and_true, zz0, true_implies, Nat.reduceLT, Nat.reduceLeDiff, zzI, look_nil, Nat.reduceBEq, implies_true, F_ok28, F_ag28, F_sz28, zz8, zz23, zzD, Nat.reduceAdd, Nat.zero_add, zzF, zzB, zzE, zz16, Option.some.injEq, exists_eq_left', exists_eq_left, Option.map_some, eq_self, reduceCtorEq, and_self, evS_move, evS_call, evC_value, zz14, evS_assign, ledC, legs, ints, D.agg.injEq, zz6, Nat.reduceEqDiff, ↓reduceIte]
          refine call_go F_go28 (fun hG => rTot_ nx l cur ks hr (by omega) (by omega)) (by simp [AV.ids, AV.idsL]) (by simp) ?_
          simp only [List.nil_append, List.cons_append, true_and, and_true, zz0, true_implies, Nat.reduceLT, Nat.reduceLeDiff, zzI, look_nil, Nat.reduceBEq, implies_true, F_ok28, F_ag28, F_sz28, zz8, zz23, zzD, Nat.reduceAdd, Nat.zero_add, zzF, zzB, zzE, zz16, Option.some.injEq, exists_eq_left', exists_eq_left, Option.map_some, eq_self, reduceCtorEq, and_self, evS_move, evS_call, evC_value, zz14, evS_assign, ledC, legs, ints, D.agg.injEq, zz6, Nat.reduceEqDiff, ↓reduceIte, atsL, oksG, freeN, AV.ren, AV.renL, addRows, ORow.row, Nat.reduceMul, Nat.reduceAdd, zz9, Option.bind_some, Option.map_some, forall_eq', D.sl.injEq, S_mem, Option.some.injEq, exists_eq_left', exists_eq_left, exists_eq', exists_eq, List.length_cons, zz2]
          refine hK0 _ ?_; try clear hK0 K0
          refine awp_keepL [6, 13, 14, 16, 19, 20, 21] ?_
          simp only [zz20, zzI, look_nil, Nat.reduceBEq]
          refine awp_seq fun K0 hK0 => ?_
          refine awp_plain F_mixed [some 94, some 95, some 96, some 97, some 98, some 99, some 100, some 101, some 102, some 103, some 104, some 105, some 106, some 107, some 108, some 109, some 110, some 111, some 112, some 113, some 114, some 115, some 116, some 117, some 118, some 119, some 120, some 12] rfl ?_
          simp only [List.nil_append, List.cons_append, true_and, and_true, zz0, true_implies, Nat.reduceLT, Nat.reduceLeDiff, zzI, look_nil, Nat.reduceBEq, implies_true, Nat.reduceSub, S_getD, zz5, and_imp, imp_and, imp_self, and_self, evS_move, zz21, gr_v, zz34, b_eqlb, pure_eqlb F_bool4, zz13, pickK_l, pickK_r, zz29, zz30, F_ok28, F_ag28, F_sz28, zz8, zz23, zzD, Nat.reduceAdd, Nat.zero_add, zzF, zzB, zzE, zz16, Option.some.injEq, exists_eq_left', exists_eq_left, Option.map_some, eq_self, reduceCtorEq, evS_call, evC_value, evS_assign, hF1, hF2, hF3, ho, ledC, legs, D.agg.injEq, zz6, Nat.reduceEqDiff, ↓reduceIte]
          refine call_go F_go17 (fun hG => kLed_ nx l (by omega)) (by simp [AV.ids, AV.idsL]) (by simp) ?_
          simp only [List.nil_append, List.cons_append, true_and, and_true, zz0, true_implies, Nat.reduceLT, Nat.reduceLeDiff, zzI, look_nil, Nat.reduceBEq, implies_true, Nat.reduceSub, S_getD, zz5, and_imp, imp_and, imp_self, and_self, evS_move, zz21, gr_v, zz34, b_eqlb, pure_eqlb F_bool4, zz13, pickK_l, pickK_r, zz29, zz30, F_ok28, F_ag28, F_sz28, zz8, zz23, zzD, Nat.reduceAdd, Nat.zero_add, zzF, zzB, zzE, zz16, Option.some.injEq, exists_eq_left', exists_eq_left, Option.map_some, eq_self, reduceCtorEq, evS_call, evC_value, evS_assign, hF1, hF2, hF3, ho, ledC, legs, D.agg.injEq, zz6, Nat.reduceEqDiff, ↓reduceIte, atsL, oksG, freeN, AV.ren, AV.renL, addRows, ORow.row, Nat.reduceMul, Nat.reduceAdd, zz9, Option.bind_some, Option.map_some, forall_eq', D.sl.injEq, S_mem, Option.some.injEq, exists_eq_left', exists_eq_left, exists_eq', exists_eq, List.length_cons, zz2]
          refine call_go F_go14 (fun hG => wakes10_) (by simp [AV.ids, AV.idsL]) (by simp) ?_
          simp only [List.nil_append, List.cons_append, true_and, and_true, zz0, true_implies, Nat.reduceLT, Nat.reduceLeDiff, zzI, look_nil, Nat.reduceBEq, implies_true, Nat.reduceSub, S_getD, zz5, and_imp, imp_and, imp_self, and_self, evS_move, zz21, gr_v, zz34, b_eqlb, pure_eqlb F_bool4, zz13, pickK_l, pickK_r, zz29, zz30, F_ok28, F_ag28, F_sz28, zz8, zz23, zzD, Nat.reduceAdd, Nat.zero_add, zzF, zzB, zzE, zz16, Option.some.injEq, exists_eq_left', exists_eq_left, Option.map_some, eq_self, reduceCtorEq, evS_call, evC_value, evS_assign, hF1, hF2, hF3, ho, ledC, legs, D.agg.injEq, zz6, Nat.reduceEqDiff, ↓reduceIte, atsL, oksG, freeN, AV.ren, AV.renL, addRows, ORow.row, Nat.reduceMul, Nat.reduceAdd, zz9, Option.bind_some, Option.map_some, forall_eq', D.sl.injEq, S_mem, Option.some.injEq, exists_eq_left', exists_eq_left, exists_eq', exists_eq, List.length_cons, zz2]
          refine hK0 _ ?_; try clear hK0 K0
          refine awp_keepL [12] ?_
          simp only [zz20, zzI, look_nil, Nat.reduceBEq]
          refine awp_ret ?_
          simp only [zz6, Nat.reduceEqDiff, ↓reduceIte]
          refine done0 (by simp only [resCs, resC]; trivial) ?_ (by simp [flatA, flatAs, flatD]) (by simp [AV.ids, AV.idsL])
          simp only [List.map_cons, List.map_nil, resA, S_getD, Nat.reduceLT, Nat.reduceLeDiff, look_cons, Nat.reduceBEq, cond_true, cond_false, resAll]
          simp
        · intro hb
          have ho : ledOk ⟨nx, l⟩ = false := hb
          clear hb
          obtain ⟨hF1, hF0⟩ := tot_bad ho cur ks
          have hF2 : (totE ⟨nx, l⟩ cur ks == 0) = false := by rw [hF0]; rfl
          have hF3 : (totE ⟨nx, l⟩ cur ks == 14) = true := by rw [hF0]; rfl
          refine awp_skip ?_
          simp only [zz6, Nat.reduceEqDiff, ↓reduceIte]
          refine hK0 _ ?_; try clear hK0 K0
          refine awp_keepL [6, 13, 14, 16, 19, 20, 21] ?_
          simp only [zz20, zzI, look_nil, Nat.reduceBEq]
          refine awp_seq fun K0 hK0 => ?_
          refine awp_plain F_mixed [some 94, some 95, some 96, some 97, some 98, some 99, some 100, some 101, some 102, some 103, some 104, some 105, some 106, some 107, some 108, some 109, some 110, some 111, some 112, some 113, some 114, some 115, some 116, some 117, some 118, some 119, some 120, some 12] rfl ?_
          simp only [List.nil_append, List.cons_append, true_and, and_true, zz0, true_implies, Nat.reduceLT, Nat.reduceLeDiff, zzI, look_nil, Nat.reduceBEq, implies_true, Nat.reduceSub, S_getD, zz5, and_imp, imp_and, imp_self, and_self, evS_move, zz21, gr_v, zz34, b_eqlb, pure_eqlb F_bool4, zz13, pickK_l, pickK_r, zz29, zz30, F_ok28, F_ag28, F_sz28, zz8, zz23, zzD, Nat.reduceAdd, Nat.zero_add, zzF, zzB, zzE, zz16, Option.some.injEq, exists_eq_left', exists_eq_left, Option.map_some, eq_self, reduceCtorEq, evS_call, evC_value, evS_assign, hF1, hF2, hF3, ho, ledC, legs, D.agg.injEq, zz6, Nat.reduceEqDiff, ↓reduceIte]
          refine call_go F_go17 (fun hG => kLed_ nx l (by omega)) (by simp [AV.ids, AV.idsL]) (by simp) ?_
          simp only [List.nil_append, List.cons_append, true_and, and_true, zz0, true_implies, Nat.reduceLT, Nat.reduceLeDiff, zzI, look_nil, Nat.reduceBEq, implies_true, Nat.reduceSub, S_getD, zz5, and_imp, imp_and, imp_self, and_self, evS_move, zz21, gr_v, zz34, b_eqlb, pure_eqlb F_bool4, zz13, pickK_l, pickK_r, zz29, zz30, F_ok28, F_ag28, F_sz28, zz8, zz23, zzD, Nat.reduceAdd, Nat.zero_add, zzF, zzB, zzE, zz16, Option.some.injEq, exists_eq_left', exists_eq_left, Option.map_some, eq_self, reduceCtorEq, evS_call, evC_value, evS_assign, hF1, hF2, hF3, ho, ledC, legs, D.agg.injEq, zz6, Nat.reduceEqDiff, ↓reduceIte, atsL, oksG, freeN, AV.ren, AV.renL, addRows, ORow.row, Nat.reduceMul, Nat.reduceAdd, zz9, Option.bind_some, Option.map_some, forall_eq', D.sl.injEq, S_mem, Option.some.injEq, exists_eq_left', exists_eq_left, exists_eq', exists_eq, List.length_cons, zz2]
          refine call_go F_go14 (fun hG => wakes10_) (by simp [AV.ids, AV.idsL]) (by simp) ?_
          simp only [List.nil_append, List.cons_append, true_and, and_true, zz0, true_implies, Nat.reduceLT, Nat.reduceLeDiff, zzI, look_nil, Nat.reduceBEq, implies_true, Nat.reduceSub, S_getD, zz5, and_imp, imp_and, imp_self, and_self, evS_move, zz21, gr_v, zz34, b_eqlb, pure_eqlb F_bool4, zz13, pickK_l, pickK_r, zz29, zz30, F_ok28, F_ag28, F_sz28, zz8, zz23, zzD, Nat.reduceAdd, Nat.zero_add, zzF, zzB, zzE, zz16, Option.some.injEq, exists_eq_left', exists_eq_left, Option.map_some, eq_self, reduceCtorEq, evS_call, evC_value, evS_assign, hF1, hF2, hF3, ho, ledC, legs, D.agg.injEq, zz6, Nat.reduceEqDiff, ↓reduceIte, atsL, oksG, freeN, AV.ren, AV.renL, addRows, ORow.row, Nat.reduceMul, Nat.reduceAdd, zz9, Option.bind_some, Option.map_some, forall_eq', D.sl.injEq, S_mem, Option.some.injEq, exists_eq_left', exists_eq_left, exists_eq', exists_eq, List.length_cons, zz2]
          refine hK0 _ ?_; try clear hK0 K0
          refine awp_keepL [12] ?_
          simp only [zz20, zzI, look_nil, Nat.reduceBEq]
          refine awp_ret ?_
          simp only [zz6, Nat.reduceEqDiff, ↓reduceIte]
          refine done0 (by simp only [resCs, resC]; trivial) ?_ (by simp [flatA, flatAs, flatD]) (by simp [AV.ids, AV.idsL])
          simp only [List.map_cons, List.map_nil, resA, S_getD, Nat.reduceLT, Nat.reduceLeDiff, look_cons, Nat.reduceBEq, cond_true, cond_false, resAll]
          simp
end Go.Proofs.Ytfbpceolkhlifaa
