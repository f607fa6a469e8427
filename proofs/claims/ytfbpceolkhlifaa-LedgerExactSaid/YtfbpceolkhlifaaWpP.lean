import Derived.Test.YtfbpceolkhlifaaWpG
import Derived.Test.YtfbpceolkhlifaaWpO
namespace Go.Proofs.Ytfbpceolkhlifaa
open Go.RowKit
set_option linter.unusedVariables false
set_option linter.unusedSimpArgs false
theorem F_zero28 : zeroT Try.prog 28 = some [(.int .i64 0), (.slice none 0 0)] := by kernel_rfl
theorem F_bld28 : bldT Try.prog 28 = true := by kernel_rfl
theorem F_go29 : goFn Try.prog 29 := ⟨_, Try.func29, rfl, rfl⟩
theorem F_go30 : goFn Try.prog 30 := ⟨_, Try.func30, rfl, rfl⟩
theorem F_fld28_0 : fldT Try.prog 28 0 = some (0, 1) := by kernel_rfl
theorem F_bld65 : bldT Try.prog 65 = true := by kernel_rfl
theorem F_fld65_0 : fldT Try.prog 65 0 = some (0, 3) := by kernel_rfl
theorem F_fld65_1 : fldT Try.prog 65 1 = some (3, 1) := by kernel_rfl
theorem F_by65 : byT Try.prog 65 = 32 := by kernel_rfl
theorem JoinF (l : List LegV) (hl : l.length ≤ 1000000) : ACalls Try.prog 30 [legs l] [] (.tp [.d (legs (joinV l)), .d (iv (joinR l))]) := (Join_ l hl).freezeT (by simp [frzOk, frzOkL])
theorem joinV_len (l : List LegV) : (joinV l).length ≤ l.length := by
  simp only [joinV]
  cases (joinR l == 0) with
  | false => simp
  | true => have := joinO_len (legSort l); rw [legSort_len] at this; exact this
theorem postE_def (nx : Int) (l : List LegV) (id_ : Int) (g : List LegV) : postE ⟨nx, l⟩ id_ g = bif !ledOk ⟨nx, l⟩ then 14 else bif idBad id_ then 3 else bif decide (id_ ≤ nx) then 18 else
  bif chkE g != 0 then chkE g else bif joinR (g ++ l) != 0 then joinR (g ++ l) else bif low (joinV (g ++ l)) then 13 else 0 := rfl
set_option maxRecDepth 100000 in
set_option maxHeartbeats 4000000 in
theorem post_ (nx id_ : Int) (l g : List LegV) (hl : l.length ≤ 400000) (hg : g.length ≤ 400000) : ACalls Try.prog 11 [.agg (ledC ⟨nx, l⟩), iv id_, legs g] [⟨65, 4, (postV ⟨nx, l⟩ id_ g).bal.map legC⟩] (.tp [.ag [.d (iv (postV ⟨nx, l⟩ id_ g).last), .ref 0 (postV ⟨nx, l⟩ id_ g).bal.length], .d (iv (postE ⟨nx, l⟩ id_ g))]) := by
  refine acalls_S (rs := [.cell 6 28, .tmp 7]) Try.func11 rfl rfl 98 [(0, .d (.agg (ledC ⟨nx, l⟩))), (1, .d (iv id_)), (2, .d (legs g))] rfl (by simp) rfl ?_
  refine awp_seq fun K0 hK0 => ?_
  refine awp_plain F_mixed [some 3, some 6, some 7] rfl ?_
  simp only [List.nil_append, List.cons_append, true_and, and_true, zz0, true_implies, Nat.reduceLT, Nat.reduceLeDiff, zzI, look_nil, Nat.reduceBEq, implies_true, zz35, newRow1, zz1, zzG, zzD, zz16, Option.some.injEq, exists_eq_left', exists_eq_left, Option.map_some, eq_self, reduceCtorEq, and_self, Nat.reduceAdd, Nat.zero_add, zzF, zzB, zzE, zz32, F_zero28, zz10, evS_assign, ledC, legs, zz6, Nat.reduceEqDiff, ↓reduceIte]
  refine hK0 _ ?_; try clear hK0 K0
  refine awp_keepL [1, 2, 3, 6] ?_
  simp only [zz20, zzI, look_nil, Nat.reduceBEq]
  refine awp_seq fun K0 hK0 => ?_
  refine awp_plain F_mixed [some 16, some 17, some 8] rfl ?_
  simp only [List.nil_append, List.cons_append, true_and, and_true, zz0, true_implies, Nat.reduceLT, Nat.reduceLeDiff, zzI, look_nil, Nat.reduceBEq, implies_true, F_ok28, F_ag28, F_sz28, zz8, zz23, zzD, Nat.reduceAdd, Nat.zero_add, zzF, zzB, zzE, zz16, Option.some.injEq, exists_eq_left', exists_eq_left, Option.map_some, eq_self, reduceCtorEq, and_self, evS_call, evC_value, evS_assign, ledC, legs, D.agg.injEq, zz6, Nat.reduceEqDiff, ↓reduceIte]
  refine call_go F_go23 (fun hG => lchk_ nx l (by omega)) (by simp [AV.ids, AV.idsL]) (by simp) ?_
  simp only [List.nil_append, List.cons_append, true_and, and_true, zz0, true_implies, Nat.reduceLT, Nat.reduceLeDiff, zzI, look_nil, Nat.reduceBEq, implies_true, F_ok28, F_ag28, F_sz28, zz8, zz23, zzD, Nat.reduceAdd, Nat.zero_add, zzF, zzB, zzE, zz16, Option.some.injEq, exists_eq_left', exists_eq_left, Option.map_some, eq_self, reduceCtorEq, and_self, evS_call, evC_value, evS_assign, ledC, legs, D.agg.injEq, zz6, Nat.reduceEqDiff, ↓reduceIte, atsL, oksG, freeN, AV.ren, AV.renL, addRows, ORow.row, Nat.reduceMul, Nat.reduceAdd, zz9, Option.bind_some, Option.map_some, forall_eq', D.sl.injEq, S_mem, Option.some.injEq, exists_eq_left', exists_eq_left, exists_eq', exists_eq, List.length_cons, zz2]
  refine hK0 _ ?_; try clear hK0 K0
  refine awp_keepL [1, 2, 3, 6, 8] ?_
  simp only [zz20, zzI, look_nil, Nat.reduceBEq]
  refine awp_seq fun K0 hK0 => ?_
  refine awp_block ?_
  refine awp_seq fun K1 hK1 => ?_
  refine awp_plain F_mixed [some 19, some 20, some 18] rfl ?_
  simp only [List.nil_append, List.cons_append, true_and, and_true, zz0, true_implies, Nat.reduceLT, Nat.reduceLeDiff, zzI, look_nil, Nat.reduceBEq, implies_true, evS_move, zz21, gr_v, zz28, evS_assign, zz6, Nat.reduceEqDiff, ↓reduceIte]
  refine hK1 _ ?_; try clear hK1 K1
  refine awp_keepL [1, 2, 3, 6, 8, 18] ?_
  simp only [zz20, zzI, look_nil, Nat.reduceBEq]
  refine awp_condS _ (by decide) (by simp only [look_cons, Nat.reduceBEq, cond_true, cond_false]; rfl) ?_ ?_
  · intro hb
    have ho : ledOk ⟨nx, l⟩ = false := by
      simp only [ledE] at hb
      cases h : ledOk ⟨nx, l⟩ with
      | false => rfl
      | true => rw [h] at hb; simp at hb
    clear hb
    have hE : ledE ⟨nx, l⟩ = 14 := by rw [ledE, ho]; rfl
    simp only [hE]
    refine awp_seq fun K2 hK2 => ?_
    refine awp_plain F_mixed [some 21, some 22, none, some 7] rfl ?_
    simp only [List.nil_append, List.cons_append, true_and, and_true, zz0, true_implies, Nat.reduceLT, Nat.reduceLeDiff, zzI, look_nil, Nat.reduceBEq, implies_true, F_zero28, F_bld28, zz7, splice, Option.getD_some, List.append_nil, zz1, zzG, zzD, zz16, Option.some.injEq, exists_eq_left', exists_eq_left, Option.map_some, eq_self, reduceCtorEq, and_self, Nat.reduceAdd, Nat.zero_add, zzF, zzB, zzE, zz10, evS_move, zz18, F_ok28, F_sz28, evS_assign, zz6, Nat.reduceEqDiff, ↓reduceIte]
    refine hK2 _ ?_; try clear hK2 K2
    refine awp_keepL [6, 7] ?_
    simp only [zz20, zzI, look_nil, Nat.reduceBEq]
    have e : postE ⟨nx, l⟩ id_ g = 14 := by rw [postE_def, ho]; try rfl
    have ev : postV ⟨nx, l⟩ id_ g = ⟨0, []⟩ := post_no (by rw [e]; decide)
    refine awp_le (le_SK id [0] rfl (l' := [(6, .ptr 6 0 0), (7, .d (iv 14))]) (m' := [(6, (⟨True, 28, 2, true, false, 6, [[.d (.v (.int .i64 0)), .ref 0 0]]⟩ : ARow)), (0, (⟨True, 65, 4, true, true, 0, []⟩ : ARow))]) ?_ ?_ ?_ ?_) ?_
    · simp only [leV, look_cons, Nat.reduceBEq, cond_true, cond_false]; exact ⟨VLe.ptr_ (f := id) (by decide), VLe.still rfl, trivial⟩
    · exact ⟨fun _ => ⟨_, rfl, RowLe.cells (VLess.one_ (VLes.cons_ (VLe.still rfl) (VLes.cons_ (VLe.nil_ (by decide)) VLes.nil_)))⟩, fun h => by simp at h, fun h => by simp at h, fun _ => rfl, trivial⟩
    · simp [wfV, AV.ids, lookR]
    · simp [wfR, AV.idsL, AV.ids, lookR]
    refine awp_ret ?_
    simp only [zz6, Nat.reduceEqDiff, ↓reduceIte]
    rw [ev, e]
    refine doneN [0] (by simp [resCs, resC, S, List.getD, look_cons, lookR, F_ag28, F_sz28, F_ok28]) ?_ (by simp [flatA, flatAs, flatD, ]) (by simp [AV.ids, AV.idsL, ]) (by decide) ?_
    · simp only [List.map_cons, List.map_nil, resA, S_getD, S_mem, lookR_cons, lookR_nil, Nat.reduceLT, Nat.reduceLeDiff, look_cons, Nat.reduceBEq, cond_true, cond_false, resAll, List.getD_cons_zero, List.getD_cons_succ, List.drop_zero, List.drop_succ_cons, List.take_succ_cons, List.take_zero, F_ag28, F_sz28, F_ok28]; rfl
    · exact ⟨⟨_, rfl, trivial, rfl, rfl, rfl, rfl⟩, by simp [flatDs, flatD, legC], trivial⟩
  · intro hb
    have ho : ledOk ⟨nx, l⟩ = true := by
      simp only [ledE] at hb
      cases h : ledOk ⟨nx, l⟩ with
      | true => rfl
      | false => rw [h] at hb; simp at hb
    clear hb
    refine awp_seq fun K2 hK2 => ?_
    refine awp_plain F_mixed [some 24, some 25, some 26, some 27, some 28, some 29, some 23] rfl ?_
    simp only [List.nil_append, List.cons_append, true_and, and_true, zz0, true_implies, Nat.reduceLT, Nat.reduceLeDiff, zzI, look_nil, Nat.reduceBEq, implies_true, Nat.reduceSub, S_getD, zz5, and_imp, imp_and, imp_self, and_self, evS_move, zz21, gr_v, zz22, zz25, zz13, pickK_l, pickK_r, evS_assign, zz6, Nat.reduceEqDiff, ↓reduceIte]
    refine hK2 _ ?_; try clear hK2 K2
    refine awp_keepL [1, 2, 3, 6, 23] ?_
    simp only [zz20, zzI, look_nil, Nat.reduceBEq]
    refine awp_condS _ (by decide) (by simp only [look_cons, Nat.reduceBEq, cond_true, cond_false]; rfl) ?_ ?_
    · intro hb
      have hid : idBad id_ = true := hb
      clear hb
      refine awp_seq fun K3 hK3 => ?_
      refine awp_plain F_mixed [some 30, none, some 7] rfl ?_
      simp only [List.nil_append, List.cons_append, true_and, and_true, zz0, true_implies, Nat.reduceLT, Nat.reduceLeDiff, zzI, look_nil, Nat.reduceBEq, implies_true, F_zero28, F_bld28, zz7, splice, Option.getD_some, List.append_nil, zz1, zzG, zzD, zz16, Option.some.injEq, exists_eq_left', exists_eq_left, Option.map_some, eq_self, reduceCtorEq, and_self, Nat.reduceAdd, Nat.zero_add, zzF, zzB, zzE, zz10, zz18, F_ok28, F_sz28, evS_assign, zz6, Nat.reduceEqDiff, ↓reduceIte]
      refine hK3 _ ?_; try clear hK3 K3
      refine awp_keepL [6, 7] ?_
      simp only [zz20, zzI, look_nil, Nat.reduceBEq]
      have e : postE ⟨nx, l⟩ id_ g = 3 := by rw [postE_def, ho, hid]; try rfl
      have ev : postV ⟨nx, l⟩ id_ g = ⟨0, []⟩ := post_no (by rw [e]; decide)
      refine awp_le (le_SK id [0] rfl (l' := [(6, .ptr 6 0 0), (7, .d (iv 3))]) (m' := [(6, (⟨True, 28, 2, true, false, 6, [[.d (.v (.int .i64 0)), .ref 0 0]]⟩ : ARow)), (0, (⟨True, 65, 4, true, true, 0, []⟩ : ARow))]) ?_ ?_ ?_ ?_) ?_
      · simp only [leV, look_cons, Nat.reduceBEq, cond_true, cond_false]; exact ⟨VLe.ptr_ (f := id) (by decide), VLe.still rfl, trivial⟩
      · exact ⟨fun _ => ⟨_, rfl, RowLe.cells (VLess.one_ (VLes.cons_ (VLe.still rfl) (VLes.cons_ (VLe.nil_ (by decide)) VLes.nil_)))⟩, fun h => by simp at h, fun h => by simp at h, fun _ => rfl, trivial⟩
      · simp [wfV, AV.ids, lookR]
      · simp [wfR, AV.idsL, AV.ids, lookR]
      refine awp_ret ?_
      simp only [zz6, Nat.reduceEqDiff, ↓reduceIte]
      rw [ev, e]
      refine doneN [0] (by simp [resCs, resC, S, List.getD, look_cons, lookR, F_ag28, F_sz28, F_ok28]) ?_ (by simp [flatA, flatAs, flatD, ]) (by simp [AV.ids, AV.idsL, ]) (by decide) ?_
      · simp only [List.map_cons, List.map_nil, resA, S_getD, S_mem, lookR_cons, lookR_nil, Nat.reduceLT, Nat.reduceLeDiff, look_cons, Nat.reduceBEq, cond_true, cond_false, resAll, List.getD_cons_zero, List.getD_cons_succ, List.drop_zero, List.drop_succ_cons, List.take_succ_cons, List.take_zero, F_ag28, F_sz28, F_ok28]; rfl
      · exact ⟨⟨_, rfl, trivial, rfl, rfl, rfl, rfl⟩, by simp [flatDs, flatD, legC], trivial⟩
    · intro hb
      have hid : idBad id_ = false := hb
      clear hb
      refine awp_seq fun K3 hK3 => ?_
      refine awp_plain F_mixed [some 32, some 33, some 34, some 35, some 31] rfl ?_
      simp only [List.nil_append, List.cons_append, true_and, and_true, zz0, true_implies, Nat.reduceLT, Nat.reduceLeDiff, zzI, look_nil, Nat.reduceBEq, implies_true, evS_move, zz19, zz23, F_off28_0, zzB, Nat.zero_add, Nat.reduceAdd, F_ok3, F_ag3, F_sz3, zz8, zzD, zzF, zzE, zz16, Option.some.injEq, exists_eq_left', exists_eq_left, Option.map_some, eq_self, reduceCtorEq, and_self, zz21, gr_v, b_leq, pure_leq, evS_assign, zz6, Nat.reduceEqDiff, ↓reduceIte]
      refine hK3 _ ?_; try clear hK3 K3
      refine awp_keepL [1, 2, 3, 6, 31] ?_
      simp only [zz20, zzI, look_nil, Nat.reduceBEq]
      refine awp_condS _ (by decide) (by simp only [look_cons, Nat.reduceBEq, cond_true, cond_false]; rfl) ?_ ?_
      · intro hb
        have hlt : decide (id_ ≤ nx) = true := hb
        clear hb
        refine awp_seq fun K4 hK4 => ?_
        refine awp_plain F_mixed [some 36, none, some 7] rfl ?_
        simp only [List.nil_append, List.cons_append, true_and, and_true, zz0, true_implies, Nat.reduceLT, Nat.reduceLeDiff, zzI, look_nil, Nat.reduceBEq, implies_true, F_zero28, F_bld28, zz7, splice, Option.getD_some, List.append_nil, zz1, zzG, zzD, zz16, Option.some.injEq, exists_eq_left', exists_eq_left, Option.map_some, eq_self, reduceCtorEq, and_self, Nat.reduceAdd, Nat.zero_add, zzF, zzB, zzE, zz10, zz18, F_ok28, F_sz28, evS_assign, zz6, Nat.reduceEqDiff, ↓reduceIte]
        refine hK4 _ ?_; try clear hK4 K4
        refine awp_keepL [6, 7] ?_
        simp only [zz20, zzI, look_nil, Nat.reduceBEq]
        have e : postE ⟨nx, l⟩ id_ g = 18 := by rw [postE_def, ho, hid, hlt]; try rfl
        have ev : postV ⟨nx, l⟩ id_ g = ⟨0, []⟩ := post_no (by rw [e]; decide)
        refine awp_le (le_SK id [0] rfl (l' := [(6, .ptr 6 0 0), (7, .d (iv 18))]) (m' := [(6, (⟨True, 28, 2, true, false, 6, [[.d (.v (.int .i64 0)), .ref 0 0]]⟩ : ARow)), (0, (⟨True, 65, 4, true, true, 0, []⟩ : ARow))]) ?_ ?_ ?_ ?_) ?_
        · simp only [leV, look_cons, Nat.reduceBEq, cond_true, cond_false]; exact ⟨VLe.ptr_ (f := id) (by decide), VLe.still rfl, trivial⟩
        · exact ⟨fun _ => ⟨_, rfl, RowLe.cells (VLess.one_ (VLes.cons_ (VLe.still rfl) (VLes.cons_ (VLe.nil_ (by decide)) VLes.nil_)))⟩, fun h => by simp at h, fun h => by simp at h, fun _ => rfl, trivial⟩
        · simp [wfV, AV.ids, lookR]
        · simp [wfR, AV.idsL, AV.ids, lookR]
        refine awp_ret ?_
        simp only [zz6, Nat.reduceEqDiff, ↓reduceIte]
        rw [ev, e]
        refine doneN [0] (by simp [resCs, resC, S, List.getD, look_cons, lookR, F_ag28, F_sz28, F_ok28]) ?_ (by simp [flatA, flatAs, flatD, ]) (by simp [AV.ids, AV.idsL, ]) (by decide) ?_
        · simp only [List.map_cons, List.map_nil, resA, S_getD, S_mem, lookR_cons, lookR_nil, Nat.reduceLT, Nat.reduceLeDiff, look_cons, Nat.reduceBEq, cond_true, cond_false, resAll, List.getD_cons_zero, List.getD_cons_succ, List.drop_zero, List.drop_succ_cons, List.take_succ_cons, List.take_zero, F_ag28, F_sz28, F_ok28]; rfl
        · exact ⟨⟨_, rfl, trivial, rfl, rfl, rfl, rfl⟩, by simp [flatDs, flatD, legC], trivial⟩
      · intro hb
        have hlt : decide (id_ ≤ nx) = false := hb
        clear hb
        refine awp_skip ?_
        simp only [zz6, Nat.reduceEqDiff, ↓reduceIte]
        refine hK0 _ ?_; try clear hK0 K0
        refine awp_keepL [1, 2, 3, 6] ?_
        simp only [zz20, zzI, look_nil, Nat.reduceBEq]
        refine awp_seq fun K0 hK0 => ?_
        refine awp_plain F_mixed [some 37, some 38, some 8] rfl ?_
        simp only [List.nil_append, List.cons_append, true_and, and_true, zz0, true_implies, Nat.reduceLT, Nat.reduceLeDiff, zzI, look_nil, Nat.reduceBEq, implies_true, evS_move, evS_call, evC_value, evS_assign, legs, zz6, Nat.reduceEqDiff, ↓reduceIte]
        refine call_go F_go29 (fun hG => Check_ g (by omega)) (by simp [AV.ids, AV.idsL]) (by simp) ?_
        simp only [List.nil_append, List.cons_append, true_and, and_true, zz0, true_implies, Nat.reduceLT, Nat.reduceLeDiff, zzI, look_nil, Nat.reduceBEq, implies_true, evS_move, evS_call, evC_value, evS_assign, legs, zz6, Nat.reduceEqDiff, ↓reduceIte, atsL, oksG, freeN, AV.ren, AV.renL, addRows, ORow.row, Nat.reduceMul, Nat.reduceAdd, zz9, Option.bind_some, Option.map_some, forall_eq', D.sl.injEq, zz16, Option.some.injEq, exists_eq_left', exists_eq_left, exists_eq', exists_eq, zzD, zz2]
        refine hK0 _ ?_; try clear hK0 K0
        refine awp_keepL [1, 2, 3, 6, 8] ?_
        simp only [zz20, zzI, look_nil, Nat.reduceBEq]
        refine awp_seq fun K0 hK0 => ?_
        refine awp_seq fun K1 hK1 => ?_
        refine awp_plain F_mixed [some 39, some 40] rfl ?_
        simp only [List.nil_append, List.cons_append, true_and, and_true, zz0, true_implies, Nat.reduceLT, Nat.reduceLeDiff, zzI, look_nil, Nat.reduceBEq, implies_true, evS_move, zz21, gr_v, zz28, zz6, Nat.reduceEqDiff, ↓reduceIte]
        refine hK1 _ ?_; try clear hK1 K1
        refine awp_keepL [1, 2, 3, 6, 8, 40] ?_
        simp only [zz20, zzI, look_nil, Nat.reduceBEq]
        refine awp_condS _ (by decide) (by simp only [look_cons, Nat.reduceBEq, cond_true, cond_false]; rfl) ?_ ?_
        · intro hb
          have hc : (chkE g != 0) = true := hb
          clear hb
          have hc2 : chkE g ≠ 0 := by simpa using hc
          refine awp_seq fun K2 hK2 => ?_
          refine awp_plain F_mixed [some 41, some 42, none, some 7] rfl ?_
          simp only [List.nil_append, List.cons_append, true_and, and_true, zz0, true_implies, Nat.reduceLT, Nat.reduceLeDiff, zzI, look_nil, Nat.reduceBEq, implies_true, F_zero28, F_bld28, zz7, splice, Option.getD_some, List.append_nil, zz1, zzG, zzD, zz16, Option.some.injEq, exists_eq_left', exists_eq_left, Option.map_some, eq_self, reduceCtorEq, and_self, Nat.reduceAdd, Nat.zero_add, zzF, zzB, zzE, zz10, evS_move, zz18, F_ok28, F_sz28, evS_assign, zz6, Nat.reduceEqDiff, ↓reduceIte]
          refine hK2 _ ?_; try clear hK2 K2
          refine awp_keepL [6, 7] ?_
          simp only [zz20, zzI, look_nil, Nat.reduceBEq]
          have e : postE ⟨nx, l⟩ id_ g = chkE g := by rw [postE_def, ho, hid, hlt, hc]; try rfl
          have ev : postV ⟨nx, l⟩ id_ g = ⟨0, []⟩ := post_no (by rw [e]; assumption)
          refine awp_le (le_SK id [0] rfl (l' := [(6, .ptr 6 0 0), (7, .d (iv (chkE g)))]) (m' := [(6, (⟨True, 28, 2, true, false, 6, [[.d (.v (.int .i64 0)), .ref 0 0]]⟩ : ARow)), (0, (⟨True, 65, 4, true, true, 0, []⟩ : ARow))]) ?_ ?_ ?_ ?_) ?_
          · simp only [leV, look_cons, Nat.reduceBEq, cond_true, cond_false]; exact ⟨VLe.ptr_ (f := id) (by decide), VLe.still rfl, trivial⟩
          · exact ⟨fun _ => ⟨_, rfl, RowLe.cells (VLess.one_ (VLes.cons_ (VLe.still rfl) (VLes.cons_ (VLe.nil_ (by decide)) VLes.nil_)))⟩, fun h => by simp at h, fun h => by simp at h, fun _ => rfl, trivial⟩
          · simp [wfV, AV.ids, lookR]
          · simp [wfR, AV.idsL, AV.ids, lookR]
          refine awp_ret ?_
          simp only [zz6, Nat.reduceEqDiff, ↓reduceIte]
          rw [ev, e]
          refine doneN [0] (by simp [resCs, resC, S, List.getD, look_cons, lookR, F_ag28, F_sz28, F_ok28]) ?_ (by simp [flatA, flatAs, flatD, ]) (by simp [AV.ids, AV.idsL, ]) (by decide) ?_
          · simp only [List.map_cons, List.map_nil, resA, S_getD, S_mem, lookR_cons, lookR_nil, Nat.reduceLT, Nat.reduceLeDiff, look_cons, Nat.reduceBEq, cond_true, cond_false, resAll, List.getD_cons_zero, List.getD_cons_succ, List.drop_zero, List.drop_succ_cons, List.take_succ_cons, List.take_zero, F_ag28, F_sz28, F_ok28]; rfl
          · exact ⟨⟨_, rfl, trivial, rfl, rfl, rfl, rfl⟩, by simp [flatDs, flatD, legC], trivial⟩
        · intro hb
          have hc : (chkE g != 0) = false := hb
          clear hb
          refine awp_skip ?_
          simp only [zz6, Nat.reduceEqDiff, ↓reduceIte]
          refine hK0 _ ?_; try clear hK0 K0
          refine awp_keepL [1, 2, 3, 6] ?_
          simp only [zz20, zzI, look_nil, Nat.reduceBEq]
          refine awp_seq fun K0 hK0 => ?_
          refine awp_plain F_mixed [some 43, some 44, some 45, some 9] rfl ?_
          simp only [List.nil_append, List.cons_append, true_and, and_true, zz0, true_implies, Nat.reduceLT, Nat.reduceLeDiff, zzI, look_nil, Nat.reduceBEq, implies_true, F_sl32, F_zero37, F_sz37, zz3, newRow1, zz1, zzG, zzD, zz16, Option.some.injEq, exists_eq_left', exists_eq_left, Option.map_some, eq_self, reduceCtorEq, and_self, Nat.reduceAdd, Nat.zero_add, zzF, zzB, zzE, maxLen_le, Nat.reduceMul, evS_move, evS_call, F_by37, zz4, zz9, Option.bind_some, evS_assign, legs, len_map, List.nil_append, zz6, Nat.reduceEqDiff, ↓reduceIte]
          first | refine ⟨le_maxLen (show g.length ≤ 1000000 by omega), by omega, ?_⟩ | refine ⟨by simp, le_maxLen (show g.length ≤ 1000000 by omega), by omega, ?_⟩ | skip
          refine hK0 _ ?_; try clear hK0 K0
          refine awp_keepL [1, 3, 6, 9] ?_
          simp only [zz20, zzI, look_nil, Nat.reduceBEq]
          refine awp_seq fun K0 hK0 => ?_
          refine awp_seq fun K1 hK1 => ?_
          refine awp_plain F_mixed [some 46, some 47, some 48, some 49] rfl ?_
          simp only [List.nil_append, List.cons_append, true_and, and_true, zz0, true_implies, Nat.reduceLT, Nat.reduceLeDiff, zzI, look_nil, Nat.reduceBEq, implies_true, zz19, zz23, F_off28_1, zzB, Nat.zero_add, Nat.reduceAdd, F_ok26, F_ag26, F_sz26, zz8, zzD, zzF, zzE, zz16, Option.some.injEq, exists_eq_left', exists_eq_left, Option.map_some, eq_self, reduceCtorEq, and_self, evS_call, zz12, F_sl26, Option.isSome_some, evS_move, len_map, zz6, Nat.reduceEqDiff, ↓reduceIte]
          refine hK1 _ ?_; try clear hK1 K1
          refine awp_keepL [1, 6, 9, 47, 48, 49] ?_
          simp only [zz20, zzI, look_nil, Nat.reduceBEq]
          refine awp_block ?_
          refine awp_loop (fun m s => ∃ pre post : List LegV, l = pre ++ post ∧ m = post.length ∧ s = S 98 [(1, .d (iv id_)), (6, .ptr 6 0 0), (9, .ref 9 (g ++ pre).length), (47, .d (.sl 4 (l.map legC))), (48, .d (iv l.length)), (49, .d (iv pre.length))] [(6, (⟨True, 28, 2, true, false, 6, [[.d (.v (.int .i64 0)), .d (.v (.slice none 0 0))]]⟩ : ARow)), (9, grow 37 4 43 ((g ++ pre).map legC))]) l.length _ (le_SK (fun r => bif r == 9 then 45 else r) [] rfl (l' := [(1, .d (iv id_)), (6, .ptr 6 0 0), (9, .ref 9 (g ++ ([] : List LegV)).length), (47, .d (.sl 4 (l.map legC))), (48, .d (iv l.length)), (49, .d (iv ([] : List LegV).length))]) (m' := [(6, (⟨True, 28, 2, true, false, 6, [[.d (.v (.int .i64 0)), .d (.v (.slice none 0 0))]]⟩ : ARow)), (9, grow 37 4 43 ((g ++ ([] : List LegV)).map legC))]) ?_ ?_ ?_ ?_) ⟨[], l, rfl, rfl, rfl⟩ ?_
          · simp only [leV, look_cons, Nat.reduceBEq, cond_true, cond_false, len_map, List.append_nil]; exact ⟨VLe.still rfl, VLe.ptr_ (f := (fun r => bif r == 9 then 45 else r)) (r := 6) (by simp), VLe.ref_ (f := (fun r => bif r == 9 then 45 else r)) (r := 9) (by simp), VLe.still rfl, VLe.still rfl, VLe.still rfl, trivial⟩
          · exact ⟨fun _ => ⟨_, rfl, RowLe.still (by simp [AV.idsL, AV.ids])⟩, fun h => by simp at h, fun _ => ⟨_, rfl, RowLe.data_ (by simp)⟩, fun h => by simp at h, trivial⟩
          · simp [wfV, AV.ids, lookR, grow]
          · exact ⟨by simp [AV.idsL, AV.ids], wf_data _ _, trivial⟩
          rintro m s ⟨pre, post, hsp, rfl, rfl⟩
          have hspl := congrArg List.length hsp
          simp only [List.length_append] at hspl
          refine awp_seq fun K2 hK2 => ?_
          refine awp_plain F_mixed [some 50] rfl ?_
          simp only [List.nil_append, List.cons_append, true_and, and_true, zz0, true_implies, Nat.reduceLT, Nat.reduceLeDiff, zzI, look_nil, Nat.reduceBEq, implies_true, zz21, gr_v, zz22, zz6, Nat.reduceEqDiff, ↓reduceIte]
          refine hK2 _ ?_; try clear hK2 K2
          refine awp_keepL [1, 6, 9, 47, 48, 49, 50] ?_
          simp only [zz20, zzI, look_nil, Nat.reduceBEq]
          refine awp_seq fun K2 hK2 => ?_
          refine awp_condS _ (by decide) (by simp only [look_cons, Nat.reduceBEq, cond_true, cond_false]; rfl) ?_ ?_
          · intro hb
            obtain ⟨x, post2, rfl⟩ : ∃ x t, post = x :: t := by
              cases post with
              | nil => have := of_decide_eq_true hb; simp at hspl; omega
              | cons x t => exact ⟨x, t, rfl⟩
            clear hb
            simp only [List.length_cons] at hspl
            have gx : (l.map legC).getD pre.length [] = [iv x.ac.kind, iv x.ac.who, iv x.ac.cur, iv x.amt] := by
              rw [hsp, List.map_append]; exact gd_mid' (A := pre.map legC) _ _ (by simp)
            have bx := ltI (show pre.length < l.length by omega)
            refine awp_skip ?_
            simp only [zz6, Nat.reduceEqDiff, ↓reduceIte]
            refine hK2 _ ?_; try clear hK2 K2
            refine awp_keepL [1, 6, 9, 47, 48, 49] ?_
            simp only [zz20, zzI, look_nil, Nat.reduceBEq]
            refine awp_seq fun K2 hK2 => ?_
            refine awp_block ?_
            refine awp_seq fun K3 hK3 => ?_
            refine awp_plain F_mixed [some 51, some 52, some 11, none] rfl ?_
            simp only [List.nil_append, List.cons_append, true_and, and_true, zz0, true_implies, Nat.reduceLT, Nat.reduceLeDiff, zzI, look_nil, Nat.reduceBEq, implies_true, evS_indexAddr, zz23, zz24, F_sl26, F_sz65, Option.map_some, zz16, Option.some.injEq, exists_eq_left', exists_eq_left, eq_self, reduceCtorEq, and_self, F_ok65, F_ag65, zz8, zzD, Nat.reduceAdd, Nat.zero_add, zzF, zzB, zzE, zz32, newRow1, F_zero65, zz10, zz18, splice, List.append_nil, zz1, zzG, gx, bx, len_map, ge0, Int.toNat_natCast, D.agg.injEq, zz6, Nat.reduceEqDiff, ↓reduceIte]
            refine hK3 _ ?_; try clear hK3 K3
            refine awp_keepL [1, 6, 9, 11, 47, 48, 49] ?_
            simp only [zz20, zzI, look_nil, Nat.reduceBEq]
            refine awp_plain F_mixed [some 53, some 54, some 55, some 56, some 57, some 58, some 59, some 60, some 9] rfl ?_
            simp only [List.nil_append, List.cons_append, true_and, and_true, zz0, true_implies, Nat.reduceLT, Nat.reduceLeDiff, zzI, look_nil, Nat.reduceBEq, implies_true, evS_move, zz19, zz23, F_off65_0, zzB, Nat.zero_add, Nat.reduceAdd, F_ok24, F_ag24, F_sz24, zz8, zzD, zzF, zzE, zz16, Option.some.injEq, exists_eq_left', exists_eq_left, Option.map_some, eq_self, reduceCtorEq, and_self, F_off65_1, F_ok3, F_ag3, F_sz3, F_zero37, F_bld37, zz7, splice, Option.getD_some, List.append_nil, zz1, zzG, zz10, F_fld37_0, F_fld37_1, F_sl32, F_sz37, zz3, newRow1, maxLen_le, Nat.reduceMul, evS_call, F_by37, zz4, zz9, Option.bind_some, evS_assign, grow, D.agg.injEq, unDs_map, legC, acC, zz6, Nat.reduceEqDiff, ↓reduceIte]
            have hm : (g ++ pre).length + 1 ≤ 1000000 := by simp; omega
            first | refine ⟨le_maxLen hm, by omega, ?_⟩ | refine ⟨by simp, le_maxLen hm, by omega, ?_⟩
            clear hm
            refine hK2 _ ?_; try clear hK2 K2
            refine awp_keepL [1, 6, 9, 47, 48, 49] ?_
            simp only [zz20, zzI, look_nil, Nat.reduceBEq]
            refine awp_plain F_mixed [some 61, some 49] rfl ?_
            simp only [List.nil_append, List.cons_append, true_and, and_true, zz0, true_implies, Nat.reduceLT, Nat.reduceLeDiff, zzI, look_nil, Nat.reduceBEq, implies_true, zz21, gr_v, zz26, evS_move, zz6, Nat.reduceEqDiff, ↓reduceIte]
            refine ⟨post2.length, _, by simp, le_SK (fun r => bif r == 9 then 60 else r) [] rfl (l' := [(1, .d (iv id_)), (6, .ptr 6 0 0), (9, .ref 9 (g ++ (pre ++ [x])).length), (47, .d (.sl 4 (l.map legC))), (48, .d (iv l.length)), (49, .d (iv (pre ++ [x]).length))]) (m' := [(6, (⟨True, 28, 2, true, false, 6, [[.d (.v (.int .i64 0)), .d (.v (.slice none 0 0))]]⟩ : ARow)), (9, grow 37 4 43 ((g ++ (pre ++ [x])).map legC))]) ?_ ?_ ?_ ?_, pre ++ [x], post2, by simp [hsp], rfl, rfl⟩
            · simp only [leV, look_cons, Nat.reduceBEq, cond_true, cond_false, len_map, hsp, wrap_len pre x (by have e := congrArg List.length hsp; simp only [List.length_append, List.length_cons, List.length_map] at e; omega)]
              refine ⟨VLe.still rfl, VLe.ptr_ (f := (fun r => bif r == 9 then 60 else r)) (r := 6) (by simp), ?_, VLe.still rfl, VLe.still rfl, VLe.still rfl, trivial⟩
              rw [← List.append_assoc, List.length_append (bs := [x])]; exact VLe.ref_ (f := (fun r => bif r == 9 then 60 else r)) (r := 9) (by simp)
            · exact ⟨fun _ => ⟨_, rfl, RowLe.still (by simp [AV.idsL, AV.ids])⟩, fun h => by simp at h, fun _ => ⟨_, rfl, RowLe.data_ (by simp [legC])⟩, fun h => by simp at h, trivial⟩
            · simp [wfV, AV.ids, lookR, grow]
            · exact ⟨by simp [AV.idsL, AV.ids], wf_data _ _, trivial⟩
          · intro hb
            obtain rfl : post = [] := by
              cases post with
              | nil => rfl
              | cons x t => have := of_decide_eq_false hb; simp at hspl; omega
            clear hb
            simp only [List.append_nil] at hsp
            obtain rfl : l = pre := hsp
            refine awp_exit ?_
            simp only [zz6, Nat.reduceEqDiff, ↓reduceIte]
            refine hK0 _ ?_; try clear hK0 K0
            refine awp_keepL [1, 6, 9] ?_
            simp only [zz20, zzI, look_nil, Nat.reduceBEq]
            refine awp_seq fun K0 hK0 => ?_
            refine awp_plain F_mixed [some 63, some 64, some 62, some 65, some 66, some 12, some 8] rfl ?_
            simp only [List.nil_append, List.cons_append, true_and, and_true, zz0, true_implies, Nat.reduceLT, Nat.reduceLeDiff, zzI, look_nil, Nat.reduceBEq, implies_true, evS_move, evS_call, evC_value, zz14, zzD, Nat.reduceAdd, Nat.zero_add, zzF, evS_assign, legs, grow, len_map, zz6, Nat.reduceEqDiff, ↓reduceIte]
            refine call_go F_go30 (fun hG => JoinF (g ++ l) (by simp; omega)) (by simp [AV.ids, AV.idsL]) (by simp) ?_
            simp only [List.nil_append, List.cons_append, true_and, and_true, zz0, true_implies, Nat.reduceLT, Nat.reduceLeDiff, zzI, look_nil, Nat.reduceBEq, implies_true, evS_move, evS_call, evC_value, zz14, zzD, Nat.reduceAdd, Nat.zero_add, zzF, evS_assign, legs, grow, len_map, zz6, Nat.reduceEqDiff, ↓reduceIte, atsL, oksG, freeN, AV.ren, AV.renL, addRows, ORow.row, Nat.reduceMul, Nat.reduceAdd, zz9, Option.bind_some, Option.map_some, forall_eq', D.sl.injEq, zz16, Option.some.injEq, exists_eq_left', exists_eq_left, exists_eq', exists_eq, List.length_cons, zz2]
            first | refine ⟨by simp, ?_⟩ | skip
            refine hK0 _ ?_; try clear hK0 K0
            refine awp_keepL [1, 6, 8, 12] ?_
            simp only [zz20, zzI, look_nil, Nat.reduceBEq]
            refine awp_seq fun K0 hK0 => ?_
            refine awp_seq fun K1 hK1 => ?_
            refine awp_plain F_mixed [some 67, some 68] rfl ?_
            simp only [List.nil_append, List.cons_append, true_and, and_true, zz0, true_implies, Nat.reduceLT, Nat.reduceLeDiff, zzI, look_nil, Nat.reduceBEq, implies_true, evS_move, zz21, gr_v, zz28, zz6, Nat.reduceEqDiff, ↓reduceIte]
            refine hK1 _ ?_; try clear hK1 K1
            refine awp_keepL [1, 6, 8, 12, 68] ?_
            simp only [zz20, zzI, look_nil, Nat.reduceBEq]
            refine awp_condS _ (by decide) (by simp only [look_cons, Nat.reduceBEq, cond_true, cond_false]; rfl) ?_ ?_
            · intro hb
              have hj : (joinR (g ++ l) != 0) = true := hb
              clear hb
              have hj2 : joinR (g ++ l) ≠ 0 := by simpa using hj
              refine awp_seq fun K2 hK2 => ?_
              refine awp_plain F_mixed [some 69, some 70, none, some 7] rfl ?_
              simp only [List.nil_append, List.cons_append, true_and, and_true, zz0, true_implies, Nat.reduceLT, Nat.reduceLeDiff, zzI, look_nil, Nat.reduceBEq, implies_true, F_zero28, F_bld28, zz7, splice, Option.getD_some, List.append_nil, zz1, zzG, zzD, zz16, Option.some.injEq, exists_eq_left', exists_eq_left, Option.map_some, eq_self, reduceCtorEq, and_self, Nat.reduceAdd, Nat.zero_add, zzF, zzB, zzE, zz10, evS_move, zz18, F_ok28, F_sz28, evS_assign, zz6, Nat.reduceEqDiff, ↓reduceIte]
              refine hK2 _ ?_; try clear hK2 K2
              refine awp_keepL [6, 7] ?_
              simp only [zz20, zzI, look_nil, Nat.reduceBEq]
              have e : postE ⟨nx, l⟩ id_ g = joinR (g ++ l) := by rw [postE_def, ho, hid, hlt, hc, hj]; try rfl
              have ev : postV ⟨nx, l⟩ id_ g = ⟨0, []⟩ := post_no (by rw [e]; assumption)
              refine awp_le (le_SK id [0] rfl (l' := [(6, .ptr 6 0 0), (7, .d (iv (joinR (g ++ l))))]) (m' := [(6, (⟨True, 28, 2, true, false, 6, [[.d (.v (.int .i64 0)), .ref 0 0]]⟩ : ARow)), (0, (⟨True, 65, 4, true, true, 0, []⟩ : ARow))]) ?_ ?_ ?_ ?_) ?_
              · simp only [leV, look_cons, Nat.reduceBEq, cond_true, cond_false]; exact ⟨VLe.ptr_ (f := id) (by decide), VLe.still rfl, trivial⟩
              · exact ⟨fun _ => ⟨_, rfl, RowLe.cells (VLess.one_ (VLes.cons_ (VLe.still rfl) (VLes.cons_ (VLe.nil_ (by decide)) VLes.nil_)))⟩, fun h => by simp at h, fun h => by simp at h, fun _ => rfl, trivial⟩
              · simp [wfV, AV.ids, lookR]
              · simp [wfR, AV.idsL, AV.ids, lookR]
              refine awp_ret ?_
              simp only [zz6, Nat.reduceEqDiff, ↓reduceIte]
              rw [ev, e]
              refine doneN [0] (by simp [resCs, resC, S, List.getD, look_cons, lookR, F_ag28, F_sz28, F_ok28]) ?_ (by simp [flatA, flatAs, flatD, ]) (by simp [AV.ids, AV.idsL, ]) (by decide) ?_
              · simp only [List.map_cons, List.map_nil, resA, S_getD, S_mem, lookR_cons, lookR_nil, Nat.reduceLT, Nat.reduceLeDiff, look_cons, Nat.reduceBEq, cond_true, cond_false, resAll, List.getD_cons_zero, List.getD_cons_succ, List.drop_zero, List.drop_succ_cons, List.take_succ_cons, List.take_zero, F_ag28, F_sz28, F_ok28]; rfl
              · exact ⟨⟨_, rfl, trivial, rfl, rfl, rfl, rfl⟩, by simp [flatDs, flatD, legC], trivial⟩
            · intro hb
              have hj : (joinR (g ++ l) != 0) = false := hb
              clear hb
              have hJl : (joinV (g ++ l)).length ≤ 1000000 := Nat.le_trans (joinV_len _) (by simp; omega)
              generalize hJ : joinV (g ++ l) = J at hJl ⊢
              refine awp_skip ?_
              simp only [zz6, Nat.reduceEqDiff, ↓reduceIte]
              refine hK0 _ ?_; try clear hK0 K0
              refine awp_keepL [1, 6, 12] ?_
              simp only [zz20, zzI, look_nil, Nat.reduceBEq]
              refine awp_seq fun K0 hK0 => ?_
              refine awp_plain F_mixed [some 71, some 72, some 13, none] rfl ?_
              simp only [List.nil_append, List.cons_append, true_and, and_true, zz0, true_implies, Nat.reduceLT, Nat.reduceLeDiff, zzI, look_nil, Nat.reduceBEq, implies_true, evS_move, F_zero28, F_bld28, zz7, splice, Option.getD_some, List.append_nil, zz1, zzG, zzD, zz16, Option.some.injEq, exists_eq_left', exists_eq_left, Option.map_some, eq_self, reduceCtorEq, and_self, Nat.reduceAdd, Nat.zero_add, zzF, zzB, zzE, zz10, F_fld28_0, zz32, newRow1, zz18, F_ok28, F_sz28, zz6, Nat.reduceEqDiff, ↓reduceIte]
              refine hK0 _ ?_; try clear hK0 K0
              refine awp_keepL [6, 12, 13] ?_
              simp only [zz20, zzI, look_nil, Nat.reduceBEq]
              refine awp_seq fun K0 hK0 => ?_
              refine awp_seq fun K1 hK1 => ?_
              refine awp_plain F_mixed [some 73, some 74, some 75] rfl ?_
              simp only [List.nil_append, List.cons_append, true_and, and_true, zz0, true_implies, Nat.reduceLT, Nat.reduceLeDiff, zzI, look_nil, Nat.reduceBEq, implies_true, evS_move, evS_call, zz12, F_sl32, Option.isSome_some, legs, len_map, zz6, Nat.reduceEqDiff, ↓reduceIte]
              refine hK1 _ ?_; try clear hK1 K1
              refine awp_keepL [6, 13, 73, 74, 75] ?_
              simp only [zz20, zzI, look_nil, Nat.reduceBEq]
              refine awp_block ?_
              refine awp_loop (fun m s => ∃ pre post : List LegV, J = pre ++ post ∧ low pre = false ∧ m = post.length ∧ s = S 98 [(6, .ptr 6 0 0), (13, .ptr 13 0 0), (73, .d (.sl 4 (J.map legC))), (74, .d (iv J.length)), (75, .d (iv pre.length))] [(6, (⟨True, 28, 2, true, false, 6, [[.d (.v (.int .i64 0)), .d (.v (.slice none 0 0))]]⟩ : ARow)), (13, (⟨True, 28, 2, true, false, 13, [[.d (iv id_), .ref 500 pre.length]]⟩ : ARow)), (500, grow 65 4 500 (pre.map legC))]) J.length _ (le_SK id [500] rfl (l' := [(6, .ptr 6 0 0), (13, .ptr 13 0 0), (73, .d (.sl 4 (J.map legC))), (74, .d (iv J.length)), (75, .d (iv ([] : List LegV).length))]) (m' := [(6, (⟨True, 28, 2, true, false, 6, [[.d (.v (.int .i64 0)), .d (.v (.slice none 0 0))]]⟩ : ARow)), (13, (⟨True, 28, 2, true, false, 13, [[.d (iv id_), .ref 500 ([] : List LegV).length]]⟩ : ARow)), (500, grow 65 4 500 (([] : List LegV).map legC))]) ?_ ?_ ?_ ?_) ⟨[], J, rfl, rfl, rfl, rfl⟩ ?_
              · simp only [leV, look_cons, Nat.reduceBEq, cond_true, cond_false, len_map]; exact ⟨VLe.ptr_ (f := id) (r := 6) (by simp), VLe.ptr_ (f := id) (r := 13) (by simp), VLe.still rfl, VLe.still rfl, VLe.still rfl, trivial⟩
              · exact ⟨fun _ => ⟨_, rfl, RowLe.still (by simp [AV.idsL, AV.ids])⟩, fun h => by simp at h, fun _ => ⟨_, rfl, RowLe.cells (VLess.one_ (VLes.cons_ (VLe.still rfl) (VLes.cons_ (VLe.nil_ (by decide)) VLes.nil_)))⟩, fun h => by simp at h, fun h => by simp at h, fun _ => rfl, trivial⟩
              · simp [wfV, AV.ids, lookR]
              · simp [wfR, grow, AV.idsL, AV.ids, lookR]
              rintro m s ⟨pre, post, hsp, hlo, rfl, rfl⟩
              have hspl := congrArg List.length hsp
              simp only [List.length_append] at hspl
              refine awp_seq fun K2 hK2 => ?_
              refine awp_plain F_mixed [some 76] rfl ?_
              simp only [List.nil_append, List.cons_append, true_and, and_true, zz0, true_implies, Nat.reduceLT, Nat.reduceLeDiff, zzI, look_nil, Nat.reduceBEq, implies_true, zz21, gr_v, zz22, zz6, Nat.reduceEqDiff, ↓reduceIte]
              refine hK2 _ ?_; try clear hK2 K2
              refine awp_keepL [6, 13, 73, 74, 75, 76] ?_
              simp only [zz20, zzI, look_nil, Nat.reduceBEq]
              refine awp_seq fun K2 hK2 => ?_
              refine awp_condS _ (by decide) (by simp only [look_cons, Nat.reduceBEq, cond_true, cond_false]; rfl) ?_ ?_
              · intro hb
                obtain ⟨x, post2, rfl⟩ : ∃ x t, post = x :: t := by
                  cases post with
                  | nil => have := of_decide_eq_true hb; simp at hspl; omega
                  | cons x t => exact ⟨x, t, rfl⟩
                clear hb
                simp only [List.length_cons] at hspl
                have gx : (J.map legC).getD pre.length [] = [iv x.ac.kind, iv x.ac.who, iv x.ac.cur, iv x.amt] := by
                  rw [hsp, List.map_append]; exact gd_mid' (A := pre.map legC) _ _ (by simp)
                have bx := ltI (show pre.length < J.length by omega)
                refine awp_skip ?_
                simp only [zz6, Nat.reduceEqDiff, ↓reduceIte]
                refine hK2 _ ?_; try clear hK2 K2
                refine awp_keepL [6, 13, 73, 74, 75] ?_
                simp only [zz20, zzI, look_nil, Nat.reduceBEq]
                refine awp_seq fun K2 hK2 => ?_
                refine awp_block ?_
                refine awp_seq fun K3 hK3 => ?_
                refine awp_plain F_mixed [some 77, some 78, some 15, none] rfl ?_
                simp only [List.nil_append, List.cons_append, true_and, and_true, zz0, true_implies, Nat.reduceLT, Nat.reduceLeDiff, zzI, look_nil, Nat.reduceBEq, implies_true, evS_indexAddr, zz23, zz24, F_sl32, F_sz37, Option.map_some, zz16, Option.some.injEq, exists_eq_left', exists_eq_left, eq_self, reduceCtorEq, and_self, F_ok37, F_ag37, zz8, zzD, Nat.reduceAdd, Nat.zero_add, zzF, zzB, zzE, zz32, newRow1, F_zero37, zz10, zz18, splice, List.append_nil, zz1, zzG, gx, bx, len_map, ge0, Int.toNat_natCast, D.agg.injEq, zz6, Nat.reduceEqDiff, ↓reduceIte]
                refine hK3 _ ?_; try clear hK3 K3
                refine awp_keepL [6, 13, 15, 73, 74, 75] ?_
                simp only [zz20, zzI, look_nil, Nat.reduceBEq]
                refine awp_seq fun K3 hK3 => ?_
                refine awp_seq fun K4 hK4 => ?_
                refine awp_draw F_mixed [some 79, some 80, some 81, some 82, some 83, some 84] rfl (by kernel_rfl) ?_
                simp only [List.nil_append, List.cons_append, true_and, and_true, zz0, true_implies, Nat.reduceLT, Nat.reduceLeDiff, zzI, look_nil, Nat.reduceBEq, implies_true, zz19, zz23, F_off37_1, zzB, Nat.zero_add, Nat.reduceAdd, F_ok3, F_ag3, F_sz3, zz8, zzD, zzF, zzE, zz16, Option.some.injEq, exists_eq_left', exists_eq_left, Option.map_some, eq_self, reduceCtorEq, and_self, F_off37_0, F_ok24, F_ag24, F_sz24, evS_call, evC_value, zz21, gr_v, zz22, legC, acC, D.agg.injEq, zz6, Nat.reduceEqDiff, ↓reduceIte]
                refine call_go F_go31 (fun hG => flo_ x.ac) (by simp [AV.ids, AV.idsL]) (by simp) ?_
                simp only [List.nil_append, List.cons_append, true_and, and_true, zz0, true_implies, Nat.reduceLT, Nat.reduceLeDiff, zzI, look_nil, Nat.reduceBEq, implies_true, zz19, zz23, F_off37_1, zzB, Nat.zero_add, Nat.reduceAdd, F_ok3, F_ag3, F_sz3, zz8, zzD, zzF, zzE, zz16, Option.some.injEq, exists_eq_left', exists_eq_left, Option.map_some, eq_self, reduceCtorEq, and_self, F_off37_0, F_ok24, F_ag24, F_sz24, evS_call, evC_value, zz21, gr_v, zz22, legC, acC, D.agg.injEq, zz6, Nat.reduceEqDiff, ↓reduceIte, atsL, oksG, freeN, AV.ren, AV.renL, addRows, ORow.row, Nat.reduceMul, Nat.reduceAdd, zz9, Option.bind_some, Option.map_some, forall_eq', D.sl.injEq, S_mem, Option.some.injEq, exists_eq_left', exists_eq_left, exists_eq', exists_eq, List.length_cons, zz2]
                refine hK4 _ ?_; try clear hK4 K4
                refine awp_keepL [6, 13, 15, 73, 74, 75, 84] ?_
                simp only [zz20, zzI, look_nil, Nat.reduceBEq]
                refine awp_condS _ (by decide) (by simp only [look_cons, Nat.reduceBEq, cond_true, cond_false]; rfl) ?_ ?_
                · intro hb
                  have hx : decide (x.amt < flo x.ac) = true := hb
                  clear hb
                  have hlw : low J = true := by rw [hsp]; simp only [low, List.any_append, List.any_cons, hx, Bool.true_or, Bool.or_true]
                  refine awp_seq fun K5 hK5 => ?_
                  refine awp_plain F_mixed [some 85, none, some 7] rfl ?_
                  simp only [List.nil_append, List.cons_append, true_and, and_true, zz0, true_implies, Nat.reduceLT, Nat.reduceLeDiff, zzI, look_nil, Nat.reduceBEq, implies_true, F_zero28, F_bld28, zz7, splice, Option.getD_some, List.append_nil, zz1, zzG, zzD, zz16, Option.some.injEq, exists_eq_left', exists_eq_left, Option.map_some, eq_self, reduceCtorEq, and_self, Nat.reduceAdd, Nat.zero_add, zzF, zzB, zzE, zz10, zz18, F_ok28, F_sz28, evS_assign, zz6, Nat.reduceEqDiff, ↓reduceIte]
                  refine hK5 _ ?_; try clear hK5 K5
                  refine awp_keepL [6, 7] ?_
                  simp only [zz20, zzI, look_nil, Nat.reduceBEq]
                  have e : postE ⟨nx, l⟩ id_ g = 13 := by rw [postE_def, ho, hid, hlt, hc, hj, hJ, hlw]; try rfl
                  have ev : postV ⟨nx, l⟩ id_ g = ⟨0, []⟩ := post_no (by rw [e]; decide)
                  refine awp_le (le_SK id [0] rfl (l' := [(6, .ptr 6 0 0), (7, .d (iv 13))]) (m' := [(6, (⟨True, 28, 2, true, false, 6, [[.d (.v (.int .i64 0)), .ref 0 0]]⟩ : ARow)), (0, (⟨True, 65, 4, true, true, 0, []⟩ : ARow))]) ?_ ?_ ?_ ?_) ?_
                  · simp only [leV, look_cons, Nat.reduceBEq, cond_true, cond_false]; exact ⟨VLe.ptr_ (f := id) (by decide), VLe.still rfl, trivial⟩
                  · exact ⟨fun _ => ⟨_, rfl, RowLe.cells (VLess.one_ (VLes.cons_ (VLe.still rfl) (VLes.cons_ (VLe.nil_ (by decide)) VLes.nil_)))⟩, fun h => by simp at h, fun h => by simp at h, fun _ => rfl, trivial⟩
                  · simp [wfV, AV.ids, lookR]
                  · simp [wfR, AV.idsL, AV.ids, lookR]
                  refine awp_ret ?_
                  simp only [zz6, Nat.reduceEqDiff, ↓reduceIte]
                  rw [ev, e]
                  refine doneN [0] (by simp [resCs, resC, S, List.getD, look_cons, lookR, F_ag28, F_sz28, F_ok28]) ?_ (by simp [flatA, flatAs, flatD, ]) (by simp [AV.ids, AV.idsL, ]) (by decide) ?_
                  · simp only [List.map_cons, List.map_nil, resA, S_getD, S_mem, lookR_cons, lookR_nil, Nat.reduceLT, Nat.reduceLeDiff, look_cons, Nat.reduceBEq, cond_true, cond_false, resAll, List.getD_cons_zero, List.getD_cons_succ, List.drop_zero, List.drop_succ_cons, List.take_succ_cons, List.take_zero, F_ag28, F_sz28, F_ok28]; rfl
                  · exact ⟨⟨_, rfl, trivial, rfl, rfl, rfl, rfl⟩, by simp [flatDs, flatD, legC], trivial⟩
                · intro hb
                  have hx : decide (x.amt < flo x.ac) = false := hb
                  clear hb
                  have hlo2 : low (pre ++ [x]) = false := by simp only [low] at hlo; simp only [low, List.any_append, hlo, List.any_cons, hx, List.any_nil, Bool.or_false]
                  refine awp_skip ?_
                  simp only [zz6, Nat.reduceEqDiff, ↓reduceIte]
                  refine hK3 _ ?_; try clear hK3 K3
                  refine awp_keepL [6, 13, 15, 73, 74, 75] ?_
                  simp only [zz20, zzI, look_nil, Nat.reduceBEq]
                  refine awp_plain F_mixed [some 86, some 87, some 88, some 89, some 90, some 91, some 92, some 93, some 94, some 95, none] rfl ?_
                  simp only [List.nil_append, List.cons_append, true_and, and_true, zz0, true_implies, Nat.reduceLT, Nat.reduceLeDiff, zzI, look_nil, Nat.reduceBEq, implies_true, zz19, zz23, F_off28_1, zzB, Nat.zero_add, Nat.reduceAdd, F_ok26, F_ag26, F_sz26, zz8, zzD, zzF, zzE, zz16, Option.some.injEq, exists_eq_left', exists_eq_left, Option.map_some, eq_self, reduceCtorEq, and_self, F_off37_0, F_ok24, F_ag24, F_sz24, F_off37_1, F_ok3, F_ag3, F_sz3, F_zero65, F_bld65, zz7, splice, Option.getD_some, List.append_nil, zz1, zzG, zz10, F_fld65_0, F_fld65_1, F_sl26, F_sz65, zz3, newRow1, maxLen_le, Nat.reduceMul, evS_call, F_by65, zz4, zz9, Option.bind_some, zz18, grow, D.agg.injEq, unDs_map, legC, acC, zz6, Nat.reduceEqDiff, ↓reduceIte]
                  have hm : pre.length + 1 ≤ 1000000 := by omega
                  first | refine ⟨le_maxLen hm, by omega, ?_⟩ | refine ⟨by simp, le_maxLen hm, by omega, ?_⟩
                  clear hm
                  refine hK2 _ ?_; try clear hK2 K2
                  refine awp_keepL [6, 13, 73, 74, 75] ?_
                  simp only [zz20, zzI, look_nil, Nat.reduceBEq]
                  refine awp_plain F_mixed [some 96, some 75] rfl ?_
                  simp only [List.nil_append, List.cons_append, true_and, and_true, zz0, true_implies, Nat.reduceLT, Nat.reduceLeDiff, zzI, look_nil, Nat.reduceBEq, implies_true, zz21, gr_v, zz26, evS_move, zz6, Nat.reduceEqDiff, ↓reduceIte]
                  refine ⟨post2.length, _, by simp, le_SK (fun r => bif r == 500 then 94 else r) [] rfl (l' := [(6, .ptr 6 0 0), (13, .ptr 13 0 0), (73, .d (.sl 4 (J.map legC))), (74, .d (iv J.length)), (75, .d (iv (pre ++ [x]).length))]) (m' := [(6, (⟨True, 28, 2, true, false, 6, [[.d (.v (.int .i64 0)), .d (.v (.slice none 0 0))]]⟩ : ARow)), (13, (⟨True, 28, 2, true, false, 13, [[.d (iv id_), .ref 500 (pre ++ [x]).length]]⟩ : ARow)), (500, grow 65 4 500 ((pre ++ [x]).map legC))]) ?_ ?_ ?_ ?_, pre ++ [x], post2, by simp [hsp], hlo2, rfl, rfl⟩
                  · simp only [leV, look_cons, Nat.reduceBEq, cond_true, cond_false, len_map, hsp, wrap_len pre x (by have e := congrArg List.length hsp; simp only [List.length_append, List.length_cons, List.length_map] at e; omega)]
                    exact ⟨VLe.ptr_ (f := (fun r => bif r == 500 then 94 else r)) (r := 6) (by simp), VLe.ptr_ (f := (fun r => bif r == 500 then 94 else r)) (r := 13) (by simp), VLe.still rfl, VLe.still rfl, VLe.still rfl, trivial⟩
                  · exact ⟨fun _ => ⟨_, rfl, RowLe.still (by simp [AV.idsL, AV.ids])⟩, fun h => by simp at h, fun _ => ⟨_, rfl, RowLe.cells (VLess.one_ (VLes.cons_ (VLe.still rfl) (VLes.cons_ (by rw [List.length_append]; exact VLe.ref_ (f := (fun r => bif r == 500 then 94 else r)) (r := 500) (by simp)) VLes.nil_)))⟩, fun h => by simp at h, fun _ => ⟨_, rfl, RowLe.data_ (by simp [legC])⟩, fun h => by simp at h, trivial⟩
                  · simp [wfV, AV.ids, lookR]
                  · refine ⟨by simp [AV.idsL, AV.ids], by simp [AV.idsL, AV.ids, lookR], wf_data _ _, trivial⟩
              · intro hb
                obtain rfl : post = [] := by
                  cases post with
                  | nil => rfl
                  | cons x t => have := of_decide_eq_false hb; simp at hspl; omega
                clear hb
                simp only [List.append_nil] at hsp
                subst hsp
                refine awp_exit ?_
                simp only [zz6, Nat.reduceEqDiff, ↓reduceIte]
                refine hK0 _ ?_; try clear hK0 K0
                refine awp_keepL [6, 13] ?_
                simp only [zz20, zzI, look_nil, Nat.reduceBEq]
                refine awp_seq fun K0 hK0 => ?_
                refine awp_plain F_mixed [some 97, none, some 7] rfl ?_
                simp only [List.nil_append, List.cons_append, true_and, and_true, zz0, true_implies, Nat.reduceLT, Nat.reduceLeDiff, zzI, look_nil, Nat.reduceBEq, implies_true, F_ok28, F_ag28, F_sz28, zz8, zz23, zzD, Nat.reduceAdd, Nat.zero_add, zzF, zzB, zzE, zz16, Option.some.injEq, exists_eq_left', exists_eq_left, Option.map_some, eq_self, reduceCtorEq, and_self, zz18, splice, List.append_nil, zz1, zzG, evS_assign, zz6, Nat.reduceEqDiff, ↓reduceIte]
                refine hK0 _ ?_; try clear hK0 K0
                refine awp_keepL [6, 7] ?_
                simp only [zz20, zzI, look_nil, Nat.reduceBEq]
                have e : postE ⟨nx, l⟩ id_ g = 0 := by rw [postE_def, ho, hid, hlt, hc, hj, hJ, hlo]; try rfl
                have ev : postV ⟨nx, l⟩ id_ g = ⟨id_, J⟩ := by rw [post_val e, ← hJ]
                refine awp_le (le_SK id [] rfl (l' := [(6, .ptr 6 0 0), (7, .d (iv 0))]) (m' := [(6, (⟨True, 28, 2, true, false, 6, [[.d (iv id_), .ref 500 J.length]]⟩ : ARow)), (500, (⟨True, 65, 4, true, true, 500, (J.map legC).map (·.map .d)⟩ : ARow))]) ?_ ?_ ?_ ?_) ?_
                · simp only [leV, look_cons, Nat.reduceBEq, cond_true, cond_false, len_map]; exact ⟨VLe.refl _, VLe.refl _, trivial⟩
                · exact ⟨fun _ => ⟨_, rfl, ⟨id, rfl, rfl, fun _ => rfl, id, .inl, by first | exact VLess.refl _ | (simp only [len_map]; exact VLess.refl _)⟩⟩, fun h => by simp at h, fun _ => (by refine ⟨_, rfl, ?_⟩; exact RowLe.uq_ (by rfl) (by simp) ids_data), fun h => by simp at h, trivial⟩
                · simp [wfV, AV.ids, lookR]
                · simp [wfR, AV.idsL, AV.ids, lookR, legC]
                refine awp_ret ?_
                simp only [zz6, Nat.reduceEqDiff, ↓reduceIte]
                rw [ev, e]
                refine doneN [500] (by simp [resCs, resC, S, List.getD, look_cons, lookR, F_ag28, F_sz28, F_ok28]) ?_ (by simp [flatA, flatAs, flatD, ]) (by simp [AV.ids, AV.idsL, ]) (by decide) ?_
                · simp only [List.map_cons, List.map_nil, resA, S_getD, S_mem, lookR_cons, lookR_nil, Nat.reduceLT, Nat.reduceLeDiff, look_cons, Nat.reduceBEq, cond_true, cond_false, resAll, List.getD_cons_zero, List.getD_cons_succ, List.drop_zero, List.drop_succ_cons, List.take_succ_cons, List.take_zero, F_ag28, F_sz28, F_ok28]; rfl
                · exact ⟨⟨_, rfl, trivial, rfl, rfl, rfl, rfl⟩, by simp [flatDs, flatD, legC], trivial⟩
end Go.Proofs.Ytfbpceolkhlifaa
