import Derived.Test.YtopifbpibkpmmaaWpI
namespace Go.Proofs.Ytopifbpibkpmmaa
open Go.RowKit
set_option linter.unusedVariables false
set_option linter.unusedSimpArgs false
theorem F_ok33 : tyOk Try.prog 33 = true := by kernel_rfl
theorem F_ag33 : aggT Try.prog 33 = true := by kernel_rfl
theorem F_zero33 : zeroT Try.prog 33 = some [(.int .i64 0), (.int .i64 0), (.int .i64 0)] := by kernel_rfl
theorem F_go33 : goFn Try.prog 33 := ⟨_, Try.func33, rfl, rfl⟩
theorem F_go32 : goFn Try.prog 32 := ⟨_, Try.func32, rfl, rfl⟩
theorem F_zero29 : zeroT Try.prog 29 = some [(.int .i64 0), (.int .i64 0)] := by kernel_rfl
theorem F_bld29 : bldT Try.prog 29 = true := by kernel_rfl
theorem F_fld29_0 : fldT Try.prog 29 0 = some (0, 1) := by kernel_rfl
theorem F_fld29_1 : fldT Try.prog 29 1 = some (1, 1) := by kernel_rfl
theorem F_zero46 : zeroT Try.prog 46 = some [(.int .i64 0), (.int .i64 0), (.int .i64 0), (.int .i64 0)] := by kernel_rfl
theorem F_bld46 : bldT Try.prog 46 = true := by kernel_rfl
theorem F_fld46_0 : fldT Try.prog 46 0 = some (0, 2) := by kernel_rfl
theorem F_fld46_1 : fldT Try.prog 46 1 = some (2, 1) := by kernel_rfl
theorem F_fld46_2 : fldT Try.prog 46 2 = some (3, 1) := by kernel_rfl
theorem F_by46 : byT Try.prog 46 = 32 := by kernel_rfl
set_option maxRecDepth 100000 in
set_option maxHeartbeats 4000000 in
theorem aLegs_ (w n : Int) (long : Bool) (l : List FillV) (hl : l.length ≤ 400000) : ACalls Try.prog 15 [.agg [iv w, iv n], .v (.bool long), fillsD l] [⟨46, 4, (lgV w n long l).map posC⟩] (.tp [.ref 0 (lgV w n long l).length, .d (iv (lgE l))]) := by
  refine acalls_S (rs := [.tmp 6, .tmp 7]) Try.func15 rfl rfl 86 [(0, .d (.agg [iv w, iv n])), (1, bv long), (2, .d (fillsD l))] rfl (by simp) rfl ?_
  refine awp_seq fun K0 hK0 => ?_
  refine awp_plain F_mixed [some 3, some 6, some 7] rfl ?_
  simp only [List.nil_append, List.cons_append, true_and, and_true, zz0, true_implies, Nat.reduceLT, Nat.reduceLeDiff, zzI, look_nil, Nat.reduceBEq, implies_true, zz35, newRow1, zz1, zzG, zzD, zz16, Option.some.injEq, exists_eq_left', exists_eq_left, Option.map_some, eq_self, reduceCtorEq, and_self, Nat.reduceAdd, Nat.zero_add, zzF, zzB, zzE, evS_assign, zz6, Nat.reduceEqDiff, ↓reduceIte]
  refine hK0 _ ?_; try clear hK0 K0
  refine awp_keepL [1, 2, 3] ?_
  simp only [zz20, zzI, look_nil, Nat.reduceBEq]
  refine awp_seq fun K0 hK0 => ?_
  refine awp_seq fun K1 hK1 => ?_
  refine awp_plain F_mixed [some 16, some 17, some 18] rfl ?_
  simp only [List.nil_append, List.cons_append, true_and, and_true, zz0, true_implies, Nat.reduceLT, Nat.reduceLeDiff, zzI, look_nil, Nat.reduceBEq, implies_true, evS_move, evS_call, zz12, F_sl23, Option.isSome_some, fillsD, len_map, zz6, Nat.reduceEqDiff, ↓reduceIte]
  refine hK1 _ ?_; try clear hK1 K1
  refine awp_keepL [1, 2, 3, 16, 17, 18] ?_
  simp only [zz20, zzI, look_nil, Nat.reduceBEq]
  refine awp_block ?_
  refine awp_loop (fun m s => ∃ pre post : List FillV, l = pre ++ post ∧ pre.all lgOk = true ∧ m = post.length ∧ s = S 86 [(1, bv long), (2, .d (fillsD l)), (3, .ptr 3 0 0), (16, .d (fillsD l)), (17, .d (iv l.length)), (18, .d (iv pre.length))] [(3, (⟨True, 29, 2, true, false, 3, [[.d (iv w), .d (iv n)]]⟩ : ARow))]) l.length _ (le_SK id [] rfl (l' := [(1, bv long), (2, .d (fillsD l)), (3, .ptr 3 0 0), (16, .d (fillsD l)), (17, .d (iv l.length)), (18, .d (iv ([] : List FillV).length))]) (m' := [(3, (⟨True, 29, 2, true, false, 3, [[.d (iv w), .d (iv n)]]⟩ : ARow))]) ?_ ?_ ?_ ?_) ⟨[], l, rfl, rfl, rfl, rfl⟩ ?_
  · simp only [leV, look_cons, Nat.reduceBEq, cond_true, cond_false, fillsD, len_map]; exact ⟨VLe.refl _, VLe.refl _, VLe.refl _, VLe.refl _, VLe.refl _, VLe.refl _, trivial⟩
  · exact ⟨fun _ => ⟨_, rfl, ⟨id, rfl, rfl, rfl, id, .inl, VLess.refl _⟩⟩, fun h => by simp at h, trivial⟩
  · simp [wfV, AV.ids, AV.idsL, lookR]
  · simp [wfR, AV.idsL, AV.ids]
  rintro m s ⟨pre, post, rfl, hp, rfl, rfl⟩
  refine awp_seq fun K2 hK2 => ?_
  refine awp_plain F_mixed [some 19] rfl ?_
  simp only [List.nil_append, List.cons_append, true_and, and_true, zz0, true_implies, Nat.reduceLT, Nat.reduceLeDiff, zzI, look_nil, Nat.reduceBEq, implies_true, zz21, gr_v, zz22, fillsD, len_map, zz6, Nat.reduceEqDiff, ↓reduceIte]
  refine hK2 _ ?_; try clear hK2 K2
  refine awp_keepL [1, 2, 3, 16, 17, 18, 19] ?_
  simp only [zz20, zzI, look_nil, Nat.reduceBEq]
  refine awp_seq fun K2 hK2 => ?_
  refine awp_condS _ (by decide) (by simp only [look_cons, Nat.reduceBEq, cond_true, cond_false]; rfl) ?_ ?_
  · intro hb
    obtain ⟨x, post, rfl⟩ := more_of hb; clear hb
    refine awp_skip ?_
    simp only [zz6, Nat.reduceEqDiff, ↓reduceIte]
    refine hK2 _ ?_; try clear hK2 K2
    refine awp_keepL [1, 2, 3, 16, 17, 18] ?_
    simp only [zz20, zzI, look_nil, Nat.reduceBEq]
    refine awp_seq fun K2 hK2 => ?_
    refine awp_block ?_
    refine awp_seq fun K3 hK3 => ?_
    refine awp_plain F_mixed [some 20, some 21, some 9, none] rfl ?_
    simp only [List.nil_append, List.cons_append, true_and, and_true, zz0, true_implies, Nat.reduceLT, Nat.reduceLeDiff, zzI, look_nil, Nat.reduceBEq, implies_true, evS_indexAddr, zz23, zz24, F_sl23, F_sz33, Option.map_some, zz16, Option.some.injEq, exists_eq_left', exists_eq_left, eq_self, reduceCtorEq, and_self, F_ok33, F_ag33, zz8, zzD, Nat.reduceAdd, Nat.zero_add, zzF, zzB, zzE, zz32, newRow1, F_zero33, zz10, zz18, splice, List.append_nil, zz1, zzG, fillsD, fillC, getD_mid, len_map, lt_mid, ge_mid, D.agg.injEq, zz6, Nat.reduceEqDiff, ↓reduceIte]
    refine hK3 _ ?_; try clear hK3 K3
    refine awp_keepL [1, 2, 3, 9, 16, 17, 18] ?_
    simp only [zz20, zzI, look_nil, Nat.reduceBEq]
    refine awp_seq fun K3 hK3 => ?_
    refine awp_plain F_mixed [some 22, some 23, some 24, some 25, some 26, some 27, some 28, some 29, some 30, some 31, some 32, some 33, some 34, some 35, some 36, some 37, some 38, some 39] rfl ?_
    simp only [List.nil_append, List.cons_append, true_and, and_true, zz0, true_implies, Nat.reduceLT, Nat.reduceLeDiff, zzI, look_nil, Nat.reduceBEq, implies_true, Nat.reduceSub, S_getD, zz5, and_imp, imp_and, imp_self, and_self, zz19, zz23, F_off33_1, zzB, Nat.zero_add, Nat.reduceAdd, F_ok3, F_ag3, F_sz3, zz8, zzD, zzF, zzE, zz16, Option.some.injEq, exists_eq_left', exists_eq_left, Option.map_some, eq_self, reduceCtorEq, zz21, gr_v, zz22, evS_move, zz25, zz13, F_off33_2, zz6, Nat.reduceEqDiff, ↓reduceIte]
    refine hK3 _ ?_; try clear hK3 K3
    refine awp_keepL [1, 2, 3, 16, 17, 18, 39] ?_
    simp only [zz20, zzI, look_nil, Nat.reduceBEq]
    refine awp_condS _ (by decide) (by simp only [look_cons, Nat.reduceBEq, cond_true, cond_false]; rfl) ?_ ?_
    · intro hb
      have hq : lgOk x = false := by
        cases h : lgOk x with
        | false => rfl
        | true =>
          simp only [lgOk, inR, Bool.and_eq_true, decide_eq_true_eq] at h
          simp [show ¬ x.qty < 0 by omega, show ¬ x.qty > 1099511627776 by omega, show ¬ x.price < 0 by omega, show ¬ x.price > 1073741824 by omega] at hb
          try omega
      clear hb
      have e := lgE_bad (l := pre ++ x :: post) (x := x) (by simp) hq
      refine awp_seq fun K4 hK4 => ?_
      refine awp_plain F_mixed [some 6, some 7] rfl ?_
      simp only [List.nil_append, List.cons_append, true_and, and_true, zz0, true_implies, Nat.reduceLT, Nat.reduceLeDiff, zzI, look_nil, Nat.reduceBEq, implies_true, evS_assign, zz6, Nat.reduceEqDiff, ↓reduceIte]
      refine hK4 _ ?_; try clear hK4 K4
      refine awp_keepL [6, 7] ?_
      simp only [zz20, zzI, look_nil, Nat.reduceBEq]
      refine awp_le (le_SK id [0] rfl (l' := [(6, .ref 0 0), (7, .d (iv 3))]) (m' := [(0, (⟨True, 46, 4, true, true, 0, []⟩ : ARow))]) ?_ ?_ ?_ ?_) ?_
      · simp only [leV, look_cons, Nat.reduceBEq, cond_true, cond_false]; exact ⟨VLe.nil_ (by decide), VLe.still rfl, trivial⟩
      · exact ⟨fun h => by simp at h, fun _ => rfl, trivial⟩
      · simp [wfV, AV.ids, lookR]
      · simp [wfR]
      refine awp_ret ?_
      simp only [zz6, Nat.reduceEqDiff, ↓reduceIte]
      rw [lgV_no (w := w) (n := n) (long := long) e (by decide), e]
      refine done1 0 (by simp only [resCs, resC]; trivial) ?_ (by simp [flatA, flatAs, flatD]) (by simp [AV.ids, AV.idsL]) (by rfl) trivial rfl rfl ?_ (by simp [flatDs, flatD])
      · simp only [List.map_cons, List.map_nil, resA, S_getD, Nat.reduceLT, Nat.reduceLeDiff, look_cons, Nat.reduceBEq, cond_true, cond_false, resAll]; rfl
      · rfl
    · intro hb
      have hq : lgOk x = true := by
        simp only [lgOk, inR, Bool.and_eq_true, decide_eq_true_eq]
        by_cases h1 : x.qty < 0
        · simp [h1] at hb
        · by_cases h2 : x.qty > 1099511627776
          · simp [h1, h2] at hb
          · by_cases h3 : x.price < 0
            · simp [h1, h2, h3] at hb
            · by_cases h4 : x.price > 1073741824
              · simp [h1, h2, h3, h4] at hb
              · omega
      clear hb
      refine awp_skip ?_
      simp only [zz6, Nat.reduceEqDiff, ↓reduceIte]
      refine hK2 _ ?_; try clear hK2 K2
      refine awp_keepL [1, 2, 3, 16, 17, 18] ?_
      simp only [zz20, zzI, look_nil, Nat.reduceBEq]
      refine awp_plain F_mixed [some 40, some 18] rfl ?_
      simp only [List.nil_append, List.cons_append, true_and, and_true, zz0, true_implies, Nat.reduceLT, Nat.reduceLeDiff, zzI, look_nil, Nat.reduceBEq, implies_true, zz21, gr_v, zz26, evS_move, zz6, Nat.reduceEqDiff, ↓reduceIte]
      refine ⟨post.length, _, by simp, le_SK id [] rfl (l' := [(1, bv long), (2, .d (fillsD (pre ++ x :: post))), (3, .ptr 3 0 0), (16, .d (fillsD (pre ++ x :: post))), (17, .d (iv (pre ++ x :: post).length)), (18, .d (iv (pre ++ [x]).length))]) (m' := [(3, (⟨True, 29, 2, true, false, 3, [[.d (iv w), .d (iv n)]]⟩ : ARow))]) ?_ ?_ ?_ ?_, pre ++ [x], post, by simp, by simp [hp, hq], rfl, rfl⟩
      · simp only [leV, look_cons, Nat.reduceBEq, cond_true, cond_false, fillsD, len_map, wrap_len pre x (by simp at hl; omega)]; exact ⟨VLe.refl _, VLe.refl _, VLe.refl _, VLe.refl _, VLe.refl _, VLe.refl _, trivial⟩
      · exact ⟨fun _ => ⟨_, rfl, ⟨id, rfl, rfl, rfl, id, .inl, VLess.refl _⟩⟩, fun h => by simp at h, trivial⟩
      · simp [wfV, AV.ids, AV.idsL, lookR]
      · simp [wfR, AV.idsL, AV.ids]
  · intro hb
    obtain rfl := none_of hb; clear hb
    have hpa : (pre ++ []).all lgOk = true := by simpa using hp
    generalize hLE : pre ++ [] = L at hl hpa ⊢
    clear hp
    refine awp_exit ?_
    simp only [zz6, Nat.reduceEqDiff, ↓reduceIte]
    refine hK0 _ ?_; try clear hK0 K0
    refine awp_keepL [1, 2, 3] ?_
    simp only [zz20, zzI, look_nil, Nat.reduceBEq]
    refine awp_seq fun K0 hK0 => ?_
    refine awp_plain F_mixed [some 10] rfl ?_
    simp only [List.nil_append, List.cons_append, true_and, and_true, zz0, true_implies, Nat.reduceLT, Nat.reduceLeDiff, zzI, look_nil, Nat.reduceBEq, implies_true, evS_assign, zz6, Nat.reduceEqDiff, ↓reduceIte]
    refine hK0 _ ?_; try clear hK0 K0
    refine awp_keepL [1, 2, 3, 10] ?_
    simp only [zz20, zzI, look_nil, Nat.reduceBEq]
    refine awp_seq fun K0 hK0 => ?_
    refine awp_seq fun K1 hK1 => ?_
    refine awp_plain F_mixed [some 41, some 42, some 43] rfl ?_
    simp only [List.nil_append, List.cons_append, true_and, and_true, zz0, true_implies, Nat.reduceLT, Nat.reduceLeDiff, zzI, look_nil, Nat.reduceBEq, implies_true, evS_move, evS_call, zz12, F_sl23, Option.isSome_some, fillsD, len_map, zz6, Nat.reduceEqDiff, ↓reduceIte]
    refine hK1 _ ?_; try clear hK1 K1
    refine awp_keepL [1, 3, 10, 41, 42, 43] ?_
    simp only [zz20, zzI, look_nil, Nat.reduceBEq]
    refine awp_block ?_
    refine awp_loop (fun m s => ∃ pre post : List FillV, L = pre ++ post ∧ pre.all lgC = true ∧ m = post.length ∧ s = S 86 [(1, bv long), (3, .ptr 3 0 0), (10, .ref 10 (lgs w n long pre).length), (41, .d (fillsD L)), (42, .d (iv L.length)), (43, .d (iv pre.length))] [(3, (⟨True, 29, 2, true, false, 3, [[.d (iv w), .d (iv n)]]⟩ : ARow)), (10, grow 46 4 10 ((lgs w n long pre).map posC))]) L.length _ (le_SK id [10] rfl (l' := [(1, bv long), (3, .ptr 3 0 0), (10, .ref 10 (lgs w n long ([] : List FillV)).length), (41, .d (fillsD L)), (42, .d (iv L.length)), (43, .d (iv ([] : List FillV).length))]) (m' := [(3, (⟨True, 29, 2, true, false, 3, [[.d (iv w), .d (iv n)]]⟩ : ARow)), (10, grow 46 4 10 ((lgs w n long ([] : List FillV)).map posC))]) ?_ ?_ ?_ ?_) ⟨[], L, rfl, rfl, rfl, rfl⟩ ?_
    · simp only [leV, look_cons, Nat.reduceBEq, cond_true, cond_false, fillsD, len_map]; exact ⟨VLe.still rfl, VLe.ptr_ (f := id) (r := 3) (by simp), VLe.nil_ (by decide), VLe.still rfl, VLe.still rfl, VLe.still rfl, trivial⟩
    · exact ⟨fun _ => ⟨_, rfl, RowLe.still (by simp [AV.idsL, AV.ids])⟩, fun h => by simp at h, fun h => by simp at h, fun _ => rfl, trivial⟩
    · simp [wfV, AV.ids, lookR]
    · simp [wfR, grow, lgs, AV.idsL, AV.ids]
    rintro m s ⟨pre, post, rfl, hpc, rfl, rfl⟩
    have hpl := lgs_len w n long pre
    refine awp_seq fun K2 hK2 => ?_
    refine awp_plain F_mixed [some 44] rfl ?_
    simp only [List.nil_append, List.cons_append, true_and, and_true, zz0, true_implies, Nat.reduceLT, Nat.reduceLeDiff, zzI, look_nil, Nat.reduceBEq, implies_true, zz21, gr_v, zz22, fillsD, len_map, zz6, Nat.reduceEqDiff, ↓reduceIte]
    refine hK2 _ ?_; try clear hK2 K2
    refine awp_keepL [1, 3, 10, 41, 42, 43, 44] ?_
    simp only [zz20, zzI, look_nil, Nat.reduceBEq]
    refine awp_seq fun K2 hK2 => ?_
    refine awp_condS _ (by decide) (by simp only [look_cons, Nat.reduceBEq, cond_true, cond_false]; rfl) ?_ ?_
    · intro hb
      obtain ⟨x, post, rfl⟩ := more_of hb; clear hb
      have hq := hpa
      simp only [List.all_append, List.all_cons, Bool.and_eq_true] at hq
      have hxk := hq.2.1
      simp only [lgOk, inR, Bool.and_eq_true, decide_eq_true_eq] at hxk
      refine awp_skip ?_
      simp only [zz6, Nat.reduceEqDiff, ↓reduceIte]
      refine hK2 _ ?_; try clear hK2 K2
      refine awp_keepL [1, 3, 10, 41, 42, 43] ?_
      simp only [zz20, zzI, look_nil, Nat.reduceBEq]
      refine awp_seq fun K2 hK2 => ?_
      refine awp_block ?_
      refine awp_seq fun K3 hK3 => ?_
      refine awp_plain F_mixed [some 45, some 46, some 12, none] rfl ?_
      simp only [List.nil_append, List.cons_append, true_and, and_true, zz0, true_implies, Nat.reduceLT, Nat.reduceLeDiff, zzI, look_nil, Nat.reduceBEq, implies_true, evS_indexAddr, zz23, zz24, F_sl23, F_sz33, Option.map_some, zz16, Option.some.injEq, exists_eq_left', exists_eq_left, eq_self, reduceCtorEq, and_self, F_ok33, F_ag33, zz8, zzD, Nat.reduceAdd, Nat.zero_add, zzF, zzB, zzE, zz32, newRow1, F_zero33, zz10, zz18, splice, List.append_nil, zz1, zzG, fillsD, fillC, getD_mid, len_map, lt_mid, ge_mid, D.agg.injEq, zz6, Nat.reduceEqDiff, ↓reduceIte]
      refine hK3 _ ?_; try clear hK3 K3
      refine awp_keepL [1, 3, 10, 12, 41, 42, 43] ?_
      simp only [zz20, zzI, look_nil, Nat.reduceBEq]
      refine awp_seq fun K3 hK3 => ?_
      refine awp_plain F_mixed [some 48, some 49, some 50, some 51, some 52, some 53, some 47, some 54, some 55, some 13, some 14] rfl ?_
      simp only [List.nil_append, List.cons_append, true_and, and_true, zz0, true_implies, Nat.reduceLT, Nat.reduceLeDiff, zzI, look_nil, Nat.reduceBEq, implies_true, zz19, zz23, F_off33_1, zzB, Nat.zero_add, Nat.reduceAdd, F_ok3, F_ag3, F_sz3, zz8, zzD, zzF, zzE, zz16, Option.some.injEq, exists_eq_left', exists_eq_left, Option.map_some, eq_self, reduceCtorEq, and_self, F_off33_2, evS_call, evC_value, evS_move, zz14, evS_assign, wideA, wideC, D.agg.injEq, zz6, Nat.reduceEqDiff, ↓reduceIte]
      refine call_go F_go33 (fun hG => Times_ x.qty x.price (by omega) (by omega) (by omega) (by omega)) (by simp [AV.ids, AV.idsL, wideA, wideC]) (by simp) ?_
      simp only [List.nil_append, List.cons_append, true_and, and_true, zz0, true_implies, Nat.reduceLT, Nat.reduceLeDiff, zzI, look_nil, Nat.reduceBEq, implies_true, zz19, zz23, F_off33_1, zzB, Nat.zero_add, Nat.reduceAdd, F_ok3, F_ag3, F_sz3, zz8, zzD, zzF, zzE, zz16, Option.some.injEq, exists_eq_left', exists_eq_left, Option.map_some, eq_self, reduceCtorEq, and_self, F_off33_2, evS_call, evC_value, evS_move, zz14, evS_assign, wideA, wideC, D.agg.injEq, zz6, Nat.reduceEqDiff, ↓reduceIte, atsL, oksG, freeN, AV.ren, AV.renL, addRows, ORow.row, Nat.reduceMul, Nat.reduceAdd, zz9, Option.bind_some, Option.map_some, forall_eq', D.sl.injEq, S_mem, Option.some.injEq, exists_eq_left', exists_eq_left, exists_eq', exists_eq, List.length_cons, zz2]
      refine call_go F_go32 (fun hG => wInt_ (x.qty * x.price)) (by simp [AV.ids, AV.idsL, wideA, wideC]) (by simp) ?_
      simp only [List.nil_append, List.cons_append, true_and, and_true, zz0, true_implies, Nat.reduceLT, Nat.reduceLeDiff, zzI, look_nil, Nat.reduceBEq, implies_true, zz19, zz23, F_off33_1, zzB, Nat.zero_add, Nat.reduceAdd, F_ok3, F_ag3, F_sz3, zz8, zzD, zzF, zzE, zz16, Option.some.injEq, exists_eq_left', exists_eq_left, Option.map_some, eq_self, reduceCtorEq, and_self, F_off33_2, evS_call, evC_value, evS_move, zz14, evS_assign, wideA, wideC, D.agg.injEq, zz6, Nat.reduceEqDiff, ↓reduceIte, atsL, oksG, freeN, AV.ren, AV.renL, addRows, ORow.row, Nat.reduceMul, Nat.reduceAdd, zz9, Option.bind_some, Option.map_some, forall_eq', D.sl.injEq, S_mem, Option.some.injEq, exists_eq_left', exists_eq_left, exists_eq', exists_eq, List.length_cons, zz2]
      refine hK3 _ ?_; try clear hK3 K3
      refine awp_keepL [1, 3, 10, 12, 13, 14, 41, 42, 43] ?_
      simp only [zz20, zzI, look_nil, Nat.reduceBEq]
      refine awp_seq fun K3 hK3 => ?_
      refine awp_seq fun K4 hK4 => ?_
      refine awp_plain F_mixed [some 56, some 57] rfl ?_
      simp only [List.nil_append, List.cons_append, true_and, and_true, zz0, true_implies, Nat.reduceLT, Nat.reduceLeDiff, zzI, look_nil, Nat.reduceBEq, implies_true, evS_move, zz21, gr_v, zz28, zz6, Nat.reduceEqDiff, ↓reduceIte]
      refine hK4 _ ?_; try clear hK4 K4
      refine awp_keepL [1, 3, 10, 12, 13, 14, 41, 42, 43, 57] ?_
      simp only [zz20, zzI, look_nil, Nat.reduceBEq]
      refine awp_condS _ (by decide) (by simp only [look_cons, Nat.reduceBEq, cond_true, cond_false]; rfl) ?_ ?_
      · intro hb
        have hc : lgC x = false := by show rightN (x.qty * x.price) = false; revert hb; cases rightN (x.qty * x.price) <;> simp
        clear hb
        have e := lgE_big (l := pre ++ x :: post) (x := x) hpa (by simp) hc
        have hc2 : rightN (x.qty * x.price) = false := hc
        try simp only [hc2, cond_false]
        refine awp_seq fun K5 hK5 => ?_
        refine awp_plain F_mixed [some 58, some 6, some 7] rfl ?_
        simp only [List.nil_append, List.cons_append, true_and, and_true, zz0, true_implies, Nat.reduceLT, Nat.reduceLeDiff, zzI, look_nil, Nat.reduceBEq, implies_true, evS_move, evS_assign, zz6, Nat.reduceEqDiff, ↓reduceIte]
        refine hK5 _ ?_; try clear hK5 K5
        refine awp_keepL [6, 7] ?_
        simp only [zz20, zzI, look_nil, Nat.reduceBEq]
        refine awp_le (le_SK id [0] rfl (l' := [(6, .ref 0 0), (7, .d (iv 1))]) (m' := [(0, (⟨True, 46, 4, true, true, 0, []⟩ : ARow))]) ?_ ?_ ?_ ?_) ?_
        · simp only [leV, look_cons, Nat.reduceBEq, cond_true, cond_false]; exact ⟨VLe.nil_ (by decide), VLe.still rfl, trivial⟩
        · exact ⟨fun h => by simp at h, fun _ => rfl, trivial⟩
        · simp [wfV, AV.ids, lookR]
        · simp [wfR]
        refine awp_ret ?_
        simp only [zz6, Nat.reduceEqDiff, ↓reduceIte]
        rw [hLE]
        rw [lgV_no (w := w) (n := n) (long := long) e (by decide), e]
        refine done1 0 (by simp only [resCs, resC]; trivial) ?_ (by simp [flatA, flatAs, flatD]) (by simp [AV.ids, AV.idsL]) (by rfl) trivial rfl rfl ?_ (by simp [flatDs, flatD])
        · simp only [List.map_cons, List.map_nil, resA, S_getD, Nat.reduceLT, Nat.reduceLeDiff, look_cons, Nat.reduceBEq, cond_true, cond_false, resAll]; rfl
        · rfl
      · intro hb
        have hc : lgC x = true := by show rightN (x.qty * x.price) = true; revert hb; cases rightN (x.qty * x.price) <;> simp
        clear hb
        have hc2 : rightN (x.qty * x.price) = true := hc
        have hcb : -4611686018427387904 ≤ x.qty * x.price ∧ x.qty * x.price ≤ 4611686018427387904 := by simpa [rightN] using hc2
        try simp only [hc2, cond_true]
        refine awp_skip ?_
        simp only [zz6, Nat.reduceEqDiff, ↓reduceIte]
        refine hK3 _ ?_; try clear hK3 K3
        refine awp_keepL [1, 3, 10, 12, 13, 41, 42, 43] ?_
        simp only [zz20, zzI, look_nil, Nat.reduceBEq]
        refine awp_seq fun K3 hK3 => ?_
        refine awp_plain F_mixed [some 59, some 60, some 15] rfl ?_
        simp only [List.nil_append, List.cons_append, true_and, and_true, zz0, true_implies, Nat.reduceLT, Nat.reduceLeDiff, zzI, look_nil, Nat.reduceBEq, implies_true, zz19, zz23, F_off33_1, zzB, Nat.zero_add, Nat.reduceAdd, F_ok3, F_ag3, F_sz3, zz8, zzD, zzF, zzE, zz16, Option.some.injEq, exists_eq_left', exists_eq_left, Option.map_some, eq_self, reduceCtorEq, and_self, evS_assign, zz6, Nat.reduceEqDiff, ↓reduceIte]
        refine hK3 _ ?_; try clear hK3 K3
        refine awp_keepL [1, 3, 10, 12, 13, 15, 41, 42, 43] ?_
        simp only [zz20, zzI, look_nil, Nat.reduceBEq]
        refine awp_seq fun K3 hK3 => ?_
        refine awp_seq fun K4 hK4 => ?_
        refine awp_plain F_mixed [some 61, some 62] rfl ?_
        simp only [List.nil_append, List.cons_append, true_and, and_true, zz0, true_implies, Nat.reduceLT, Nat.reduceLeDiff, zzI, look_nil, Nat.reduceBEq, implies_true, evS_move, zz29, gr_v, zz30, zz6, Nat.reduceEqDiff, ↓reduceIte]
        refine hK4 _ ?_; try clear hK4 K4
        refine awp_keepL [1, 3, 10, 12, 13, 15, 41, 42, 43, 62] ?_
        simp only [zz20, zzI, look_nil, Nat.reduceBEq]
        refine awp_condS _ (by decide) (by simp only [look_cons, Nat.reduceBEq, cond_true, cond_false]; rfl) ?_ ?_
        · intro hb
          have hlg : long = false := by simpa using hb
          clear hb
          have hx1 : IntKind.wrap .i64 (0 - x.qty) = 0 - x.qty := wrapI (by omega) (by omega)
          have hx2 : IntKind.wrap .i64 (0 - x.qty * x.price) = 0 - x.qty * x.price := wrapI (by omega) (by omega)
          have hx3 : IntKind.wrap .i64 (0 - (0 - x.qty)) = 0 - (0 - x.qty) := wrapI (by omega) (by omega)
          have hx4 : IntKind.wrap .i64 (0 - (0 - x.qty * x.price)) = 0 - (0 - x.qty * x.price) := wrapI (by omega) (by omega)
          refine awp_plain F_mixed [some 63, some 64, some 65, some 66, some 15, some 13] rfl ?_
          simp only [List.nil_append, List.cons_append, true_and, and_true, zz0, true_implies, Nat.reduceLT, Nat.reduceLeDiff, zzI, look_nil, Nat.reduceBEq, implies_true, evS_move, zz29, gr_v, zz37, evS_assign, hx1, hx2, zz6, Nat.reduceEqDiff, ↓reduceIte]
          refine hK3 _ ?_; try clear hK3 K3
          refine awp_keepL [1, 3, 10, 12, 13, 15, 41, 42, 43] ?_
          simp only [zz20, zzI, look_nil, Nat.reduceBEq]
          refine awp_plain F_mixed [some 67, some 68, some 69, some 70, some 71, some 72, some 73, some 74, some 75, some 76, some 77, some 78, some 79, some 80, some 81, some 82, some 83, some 10] rfl ?_
          simp only [List.nil_append, List.cons_append, true_and, and_true, zz0, true_implies, Nat.reduceLT, Nat.reduceLeDiff, zzI, look_nil, Nat.reduceBEq, implies_true, evS_move, zz19, zz23, F_off33_0, zzB, Nat.zero_add, Nat.reduceAdd, F_ok3, F_ag3, F_sz3, zz8, zzD, zzF, zzE, zz16, Option.some.injEq, exists_eq_left', exists_eq_left, Option.map_some, eq_self, reduceCtorEq, and_self, F_off29_1, F_zero29, F_bld29, zz7, splice, Option.getD_some, List.append_nil, zz1, zzG, zz10, F_fld29_0, F_fld29_1, F_zero46, F_bld46, F_fld46_0, F_fld46_1, F_fld46_2, F_ok29, F_ag29, F_sz29, zz29, gr_v, zz37, F_sl42, F_sz46, zz3, newRow1, maxLen_le, Nat.reduceMul, evS_call, F_by46, zz4, zz9, Option.bind_some, evS_assign, grow, D.agg.injEq, unDs_map, hx1, hx2, hx3, hx4, zz6, Nat.reduceEqDiff, ↓reduceIte]
          have hm : (lgs w n long pre).length + 2 ≤ 1000000 := by simp at hl; omega
          first | refine ⟨le_maxLen hm, by omega, ?_⟩ | refine ⟨by simp, le_maxLen hm, by omega, ?_⟩
          clear hm
          refine hK2 _ ?_; try clear hK2 K2
          refine awp_keepL [1, 3, 10, 41, 42, 43] ?_
          simp only [zz20, zzI, look_nil, Nat.reduceBEq]
          refine awp_plain F_mixed [some 84, some 43] rfl ?_
          simp only [List.nil_append, List.cons_append, true_and, and_true, zz0, true_implies, Nat.reduceLT, Nat.reduceLeDiff, zzI, look_nil, Nat.reduceBEq, implies_true, zz21, gr_v, zz26, evS_move, zz6, Nat.reduceEqDiff, ↓reduceIte]
          refine ⟨post.length, _, by simp, le_SK (fun r => bif r == 10 then 83 else r) [] rfl (l' := [(1, bv long), (3, .ptr 3 0 0), (10, .ref 10 (lgs w n long (pre ++ [x])).length), (41, .d (fillsD (pre ++ x :: post))), (42, .d (iv (pre ++ x :: post).length)), (43, .d (iv (pre ++ [x]).length))]) (m' := [(3, (⟨True, 29, 2, true, false, 3, [[.d (iv w), .d (iv n)]]⟩ : ARow)), (10, grow 46 4 10 ((lgs w n long (pre ++ [x])).map posC))]) ?_ ?_ ?_ ?_, pre ++ [x], post, by simp, by simp [hpc, hc], rfl, rfl⟩
          · simp only [leV, look_cons, Nat.reduceBEq, cond_true, cond_false, fillsD, len_map, wrap_len pre x (by simp at hl; omega)]
            refine ⟨VLe.still rfl, VLe.ptr_ (f := (fun r => bif r == 10 then 83 else r)) (r := 3) (by simp), ?_, VLe.still rfl, VLe.still rfl, VLe.still rfl, trivial⟩
            rw [lgs_snoc]
            rw [show (AV.ref 83 _ : AV) = .ref ((fun r => bif r == 10 then 83 else r) 10) (lgs w n long pre ++ lg1 w n long x).length from by simp [lg1]]; try exact VLe.ref_ (f := (fun r => bif r == 10 then 83 else r)) (r := 10) (by simp)
          · exact ⟨fun _ => ⟨_, rfl, RowLe.still (by simp [AV.idsL, AV.ids])⟩, fun h => by simp at h, fun _ => ⟨_, rfl, RowLe.data_ (by rw [lgs_snoc]; simp [posC, lg1, lq, hlg])⟩, fun h => by simp at h, trivial⟩
          · simp [wfV, AV.ids, lookR, grow]
          · exact ⟨by simp [AV.idsL, AV.ids], wf_data _ _, trivial⟩
        · intro hb
          have hlg : long = true := by simpa using hb
          clear hb
          have hx1 : IntKind.wrap .i64 (0 - x.qty) = 0 - x.qty := wrapI (by omega) (by omega)
          have hx2 : IntKind.wrap .i64 (0 - x.qty * x.price) = 0 - x.qty * x.price := wrapI (by omega) (by omega)
          have hx3 := hx1
          have hx4 := hx2
          refine awp_skip ?_
          simp only [zz6, Nat.reduceEqDiff, ↓reduceIte]
          refine hK3 _ ?_; try clear hK3 K3
          refine awp_keepL [1, 3, 10, 12, 13, 15, 41, 42, 43] ?_
          simp only [zz20, zzI, look_nil, Nat.reduceBEq]
          refine awp_plain F_mixed [some 67, some 68, some 69, some 70, some 71, some 72, some 73, some 74, some 75, some 76, some 77, some 78, some 79, some 80, some 81, some 82, some 83, some 10] rfl ?_
          simp only [List.nil_append, List.cons_append, true_and, and_true, zz0, true_implies, Nat.reduceLT, Nat.reduceLeDiff, zzI, look_nil, Nat.reduceBEq, implies_true, evS_move, zz19, zz23, F_off33_0, zzB, Nat.zero_add, Nat.reduceAdd, F_ok3, F_ag3, F_sz3, zz8, zzD, zzF, zzE, zz16, Option.some.injEq, exists_eq_left', exists_eq_left, Option.map_some, eq_self, reduceCtorEq, and_self, F_off29_1, F_zero29, F_bld29, zz7, splice, Option.getD_some, List.append_nil, zz1, zzG, zz10, F_fld29_0, F_fld29_1, F_zero46, F_bld46, F_fld46_0, F_fld46_1, F_fld46_2, F_ok29, F_ag29, F_sz29, zz29, gr_v, zz37, F_sl42, F_sz46, zz3, newRow1, maxLen_le, Nat.reduceMul, evS_call, F_by46, zz4, zz9, Option.bind_some, evS_assign, grow, D.agg.injEq, unDs_map, hx1, hx2, hx3, hx4, zz6, Nat.reduceEqDiff, ↓reduceIte]
          have hm : (lgs w n long pre).length + 2 ≤ 1000000 := by simp at hl; omega
          first | refine ⟨le_maxLen hm, by omega, ?_⟩ | refine ⟨by simp, le_maxLen hm, by omega, ?_⟩
          clear hm
          refine hK2 _ ?_; try clear hK2 K2
          refine awp_keepL [1, 3, 10, 41, 42, 43] ?_
          simp only [zz20, zzI, look_nil, Nat.reduceBEq]
          refine awp_plain F_mixed [some 84, some 43] rfl ?_
          simp only [List.nil_append, List.cons_append, true_and, and_true, zz0, true_implies, Nat.reduceLT, Nat.reduceLeDiff, zzI, look_nil, Nat.reduceBEq, implies_true, zz21, gr_v, zz26, evS_move, zz6, Nat.reduceEqDiff, ↓reduceIte]
          refine ⟨post.length, _, by simp, le_SK (fun r => bif r == 10 then 83 else r) [] rfl (l' := [(1, bv long), (3, .ptr 3 0 0), (10, .ref 10 (lgs w n long (pre ++ [x])).length), (41, .d (fillsD (pre ++ x :: post))), (42, .d (iv (pre ++ x :: post).length)), (43, .d (iv (pre ++ [x]).length))]) (m' := [(3, (⟨True, 29, 2, true, false, 3, [[.d (iv w), .d (iv n)]]⟩ : ARow)), (10, grow 46 4 10 ((lgs w n long (pre ++ [x])).map posC))]) ?_ ?_ ?_ ?_, pre ++ [x], post, by simp, by simp [hpc, hc], rfl, rfl⟩
          · simp only [leV, look_cons, Nat.reduceBEq, cond_true, cond_false, fillsD, len_map, wrap_len pre x (by simp at hl; omega)]
            refine ⟨VLe.still rfl, VLe.ptr_ (f := (fun r => bif r == 10 then 83 else r)) (r := 3) (by simp), ?_, VLe.still rfl, VLe.still rfl, VLe.still rfl, trivial⟩
            rw [lgs_snoc]
            rw [show (AV.ref 83 _ : AV) = .ref ((fun r => bif r == 10 then 83 else r) 10) (lgs w n long pre ++ lg1 w n long x).length from by simp [lg1]]; try exact VLe.ref_ (f := (fun r => bif r == 10 then 83 else r)) (r := 10) (by simp)
          · exact ⟨fun _ => ⟨_, rfl, RowLe.still (by simp [AV.idsL, AV.ids])⟩, fun h => by simp at h, fun _ => ⟨_, rfl, RowLe.data_ (by rw [lgs_snoc]; simp [posC, lg1, lq, hlg])⟩, fun h => by simp at h, trivial⟩
          · simp [wfV, AV.ids, lookR, grow]
          · exact ⟨by simp [AV.idsL, AV.ids], wf_data _ _, trivial⟩
    · intro hb
      obtain rfl := none_of hb; clear hb
      have e0 : lgE (pre ++ []) = 0 := lgE_ok hpa (by simpa using hpc)
      refine awp_exit ?_
      simp only [zz6, Nat.reduceEqDiff, ↓reduceIte]
      refine hK0 _ ?_; try clear hK0 K0
      refine awp_keepL [10] ?_
      simp only [zz20, zzI, look_nil, Nat.reduceBEq]
      refine awp_seq fun K0 hK0 => ?_
      refine awp_plain F_mixed [some 85, some 6, some 7] rfl ?_
      simp only [List.nil_append, List.cons_append, true_and, and_true, zz0, true_implies, Nat.reduceLT, Nat.reduceLeDiff, zzI, look_nil, Nat.reduceBEq, implies_true, evS_move, evS_assign, zz6, Nat.reduceEqDiff, ↓reduceIte]
      refine hK0 _ ?_; try clear hK0 K0
      refine awp_keepL [6, 7] ?_
      simp only [zz20, zzI, look_nil, Nat.reduceBEq]
      refine awp_ret ?_
      simp only [zz6, Nat.reduceEqDiff, ↓reduceIte]
      rw [hLE, lgV_yes e0, e0]
      try simp only [List.append_nil]
      refine done1 10 (by simp only [resCs, resC]; trivial) ?_ (by simp [flatA, flatAs, flatD, posC]) (by simp [AV.ids, AV.idsL, posC]) (by rfl) trivial rfl rfl ?_ (by simp [flatDs, flatD, posC])
      · simp only [List.map_cons, List.map_nil, resA, S_getD, Nat.reduceLT, Nat.reduceLeDiff, look_cons, Nat.reduceBEq, cond_true, cond_false, resAll]; rfl
      · rfl
end Go.Proofs.Ytopifbpibkpmmaa
