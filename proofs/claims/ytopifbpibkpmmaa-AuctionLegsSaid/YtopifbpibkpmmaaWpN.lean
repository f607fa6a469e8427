import Derived.Test.YtopifbpibkpmmaaWpJ
import Derived.Test.YtopifbpibkpmmaaWpK
namespace Go.Proofs.Ytopifbpibkpmmaa
open Go.RowKit
set_option linter.unusedVariables false
set_option linter.unusedSimpArgs false
theorem F_go15 : goFn Try.prog 15 := ⟨_, Try.func15, rfl, rfl⟩
theorem F_go10 : goFn Try.prog 10 := ⟨_, Try.func10, rfl, rfl⟩
theorem F_bool4 : Try.prog.underlying 4 = some .bool := by kernel_rfl
theorem aLegsF (w n : Int) (long : Bool) (l : List FillV) (hl : l.length ≤ 400000) : ACalls Try.prog 15 [.agg [iv w, iv n], .v (.bool long), fillsD l] [] (.tp [.d (poss (lgV w n long l)), .d (iv (lgE l))]) :=
  (aLegs_ w n long l hl).freezeT (by simp [frzOk, frzOkL])
set_option maxRecDepth 100000 in
set_option maxHeartbeats 4000000 in
theorem auctionLegs_ (w n : Int) (long : Bool) (l : List FillV) : ACalls Try.prog 6 [.agg [iv w, iv n], .v (.bool long), fillsD l] [] (bv true) := by
  refine acalls_S (rs := [.tmp 6]) Try.func6 rfl rfl 122 [(0, .d (.agg [iv w, iv n])), (1, bv long), (2, .d (fillsD l))] rfl (by simp) rfl ?_
  refine awp_seq fun K0 hK0 => ?_
  refine awp_plain F_mixed [some 3, some 6] rfl ?_
  simp only [List.nil_append, List.cons_append, true_and, and_true, zz0, true_implies, Nat.reduceLT, Nat.reduceLeDiff, zzI, look_nil, Nat.reduceBEq, implies_true, zz35, newRow1, zz1, zzG, zzD, zz16, Option.some.injEq, exists_eq_left', exists_eq_left, Option.map_some, eq_self, reduceCtorEq, and_self, Nat.reduceAdd, Nat.zero_add, zzF, zzB, zzE, evS_assign, zz6, Nat.reduceEqDiff, ↓reduceIte]
  refine hK0 _ ?_; try clear hK0 K0
  refine awp_keepL [1, 2, 3] ?_
  simp only [zz20, zzI, look_nil, Nat.reduceBEq]
  refine awp_seq fun K0 hK0 => ?_
  refine awp_seq fun K1 hK1 => ?_
  refine awp_plain F_mixed [some 12, some 13, some 14] rfl ?_
  simp only [List.nil_append, List.cons_append, true_and, and_true, zz0, true_implies, Nat.reduceLT, Nat.reduceLeDiff, zzI, look_nil, Nat.reduceBEq, implies_true, evS_move, evS_call, zz12, F_sl23, Option.isSome_some, zz21, gr_v, zz25, fillsD, len_map, zz6, Nat.reduceEqDiff, ↓reduceIte]
  refine hK1 _ ?_; try clear hK1 K1
  refine awp_keepL [1, 2, 3, 14] ?_
  simp only [zz20, zzI, look_nil, Nat.reduceBEq]
  refine awp_condS _ (by decide) (by simp only [look_cons, Nat.reduceBEq, cond_true, cond_false]; rfl) ?_ ?_
  · intro hb
    clear hb
    refine awp_seq fun K2 hK2 => ?_
    refine awp_plain F_mixed [some 6] rfl ?_
    simp only [List.nil_append, List.cons_append, true_and, and_true, zz0, true_implies, Nat.reduceLT, Nat.reduceLeDiff, zzI, look_nil, Nat.reduceBEq, implies_true, evS_assign, zz6, Nat.reduceEqDiff, ↓reduceIte]
    refine hK2 _ ?_; try clear hK2 K2
    refine awp_keepL [6] ?_
    simp only [zz20, zzI, look_nil, Nat.reduceBEq]
    refine awp_ret ?_
    simp only [zz6, Nat.reduceEqDiff, ↓reduceIte]
    refine done0 (by simp only [resCs, resC]; trivial) ?_ (by simp [flatA, flatAs, flatD]) (by simp [AV.ids, AV.idsL])
    simp only [List.map_cons, List.map_nil, resA, S_getD, Nat.reduceLT, Nat.reduceLeDiff, look_cons, Nat.reduceBEq, cond_true, cond_false, resAll]
    
  · intro hb
    have hl : l.length ≤ 300 := by simp at hb; omega
    clear hb
    refine awp_skip ?_
    simp only [zz6, Nat.reduceEqDiff, ↓reduceIte]
    refine hK0 _ ?_; try clear hK0 K0
    refine awp_keepL [1, 2, 3] ?_
    simp only [zz20, zzI, look_nil, Nat.reduceBEq]
    refine awp_seq fun K0 hK0 => ?_
    refine awp_plain F_mixed [some 16, some 17, some 18, some 19, some 15, some 20, some 21, some 7, some 8] rfl ?_
    simp only [List.nil_append, List.cons_append, true_and, and_true, zz0, true_implies, Nat.reduceLT, Nat.reduceLeDiff, zzI, look_nil, Nat.reduceBEq, implies_true, F_ok29, F_ag29, F_sz29, zz8, zz23, zzD, Nat.reduceAdd, Nat.zero_add, zzF, zzB, zzE, zz16, Option.some.injEq, exists_eq_left', exists_eq_left, Option.map_some, eq_self, reduceCtorEq, and_self, evS_move, evS_call, evC_value, zz14, evS_assign, fillsD, zz6, Nat.reduceEqDiff, ↓reduceIte]
    refine call_go F_go15 (fun hG => aLegsF w n long l (by omega)) (by simp [AV.ids, AV.idsL]) (by simp) ?_
    simp only [List.nil_append, List.cons_append, true_and, and_true, zz0, true_implies, Nat.reduceLT, Nat.reduceLeDiff, zzI, look_nil, Nat.reduceBEq, implies_true, F_ok29, F_ag29, F_sz29, zz8, zz23, zzD, Nat.reduceAdd, Nat.zero_add, zzF, zzB, zzE, zz16, Option.some.injEq, exists_eq_left', exists_eq_left, Option.map_some, eq_self, reduceCtorEq, and_self, evS_move, evS_call, evC_value, zz14, evS_assign, fillsD, zz6, Nat.reduceEqDiff, ↓reduceIte, atsL, oksG, freeN, AV.ren, AV.renL, addRows, ORow.row, Nat.reduceMul, Nat.reduceAdd, zz9, Option.bind_some, Option.map_some, forall_eq', D.sl.injEq, S_mem, Option.some.injEq, exists_eq_left', exists_eq_left, exists_eq', exists_eq, List.length_cons, zz2]
    refine hK0 _ ?_; try clear hK0 K0
    refine awp_keepL [1, 2, 3, 7, 8] ?_
    simp only [zz20, zzI, look_nil, Nat.reduceBEq]
    refine awp_seq fun K0 hK0 => ?_
    refine awp_seq fun K1 hK1 => ?_
    refine awp_plain F_mixed [some 22, some 23] rfl ?_
    simp only [List.nil_append, List.cons_append, true_and, and_true, zz0, true_implies, Nat.reduceLT, Nat.reduceLeDiff, zzI, look_nil, Nat.reduceBEq, implies_true, evS_move, zz21, gr_v, zz28, zz6, Nat.reduceEqDiff, ↓reduceIte]
    refine hK1 _ ?_; try clear hK1 K1
    refine awp_keepL [1, 2, 3, 7, 23] ?_
    simp only [zz20, zzI, look_nil, Nat.reduceBEq]
    refine awp_condS _ (by decide) (by simp only [look_cons, Nat.reduceBEq, cond_true, cond_false]; rfl) ?_ ?_
    · intro hb
      have he : lgE l ≠ 0 := by simpa using hb
      clear hb
      have hv := lgV_no (w := w) (n := n) (long := long) rfl he
      refine awp_seq fun K2 hK2 => ?_
      refine awp_plain F_mixed [some 24, some 25, some 26, some 27, some 28, some 29, some 6] rfl ?_
      simp only [List.nil_append, List.cons_append, true_and, and_true, zz0, true_implies, Nat.reduceLT, Nat.reduceLeDiff, zzI, look_nil, Nat.reduceBEq, implies_true, Nat.reduceSub, S_getD, zz5, and_imp, imp_and, imp_self, and_self, evS_move, evS_call, zz12, F_sl42, Option.isSome_some, zz21, gr_v, zz34, evC_value, zz13, evS_assign, hv, poss, List.map_nil, List.length_nil, zz6, Nat.reduceEqDiff, ↓reduceIte]
      refine call_go F_go10 (fun hG => wakes19_) (by simp [AV.ids, AV.idsL]) (by simp) ?_
      simp only [List.nil_append, List.cons_append, true_and, and_true, zz0, true_implies, Nat.reduceLT, Nat.reduceLeDiff, zzI, look_nil, Nat.reduceBEq, implies_true, Nat.reduceSub, S_getD, zz5, and_imp, imp_and, imp_self, and_self, evS_move, evS_call, zz12, F_sl42, Option.isSome_some, zz21, gr_v, zz34, evC_value, zz13, evS_assign, hv, poss, List.map_nil, zz6, Nat.reduceEqDiff, ↓reduceIte, atsL, oksG, freeN, AV.ren, AV.renL, addRows, ORow.row, Nat.reduceMul, Nat.reduceAdd, zz9, Option.bind_some, Option.map_some, forall_eq', D.sl.injEq, zz16, Option.some.injEq, exists_eq_left', exists_eq_left, exists_eq', exists_eq, zzD, zz2]
      refine hK2 _ ?_; try clear hK2 K2
      refine awp_keepL [6] ?_
      simp only [zz20, zzI, look_nil, Nat.reduceBEq]
      refine awp_ret ?_
      simp only [zz6, Nat.reduceEqDiff, ↓reduceIte]
      refine done0 (by simp only [resCs, resC]; trivial) ?_ (by simp [flatA, flatAs, flatD]) (by simp [AV.ids, AV.idsL])
      simp only [List.map_cons, List.map_nil, resA, S_getD, Nat.reduceLT, Nat.reduceLeDiff, look_cons, Nat.reduceBEq, cond_true, cond_false, resAll]
      try rfl
    · intro hb
      have he : lgE l = 0 := by simpa using hb
      clear hb
      have hv := lgV_yes (w := w) (n := n) (long := long) he
      have hll := lgs_len w n long l
      have hm6 : IntKind.wrap .i64 (2 * (l.length : Int)) = ((2 * l.length : Nat) : Int) := by rw [wrapI (by omega) (by omega)]; omega
      simp only [hv]
      refine awp_skip ?_
      simp only [zz6, Nat.reduceEqDiff, ↓reduceIte]
      refine hK0 _ ?_; try clear hK0 K0
      refine awp_keepL [1, 2, 3, 7] ?_
      simp only [zz20, zzI, look_nil, Nat.reduceBEq]
      refine awp_seq fun K0 hK0 => ?_
      refine awp_seq fun K1 hK1 => ?_
      refine awp_plain F_mixed [some 30, some 31, some 32, some 33, some 34, some 35] rfl ?_
      simp only [List.nil_append, List.cons_append, true_and, and_true, zz0, true_implies, Nat.reduceLT, Nat.reduceLeDiff, zzI, look_nil, Nat.reduceBEq, implies_true, evS_move, evS_call, zz12, F_sl42, Option.isSome_some, F_sl23, zz21, gr_v, zz36, zz28, poss, fillsD, len_map, hll, hm6, bne_self_eq_false, zz6, Nat.reduceEqDiff, ↓reduceIte]
      refine hK1 _ ?_; try clear hK1 K1
      refine awp_keepL [1, 2, 3, 7, 35] ?_
      simp only [zz20, zzI, look_nil, Nat.reduceBEq]
      refine awp_condS _ (by decide) (by simp only [look_cons, Nat.reduceBEq, cond_true, cond_false]; rfl) ?_ ?_
      · intro hb
        cases hb
      · intro hb
        clear hb
        refine awp_skip ?_
        simp only [zz6, Nat.reduceEqDiff, ↓reduceIte]
        refine hK0 _ ?_; try clear hK0 K0
        refine awp_keepL [1, 2, 3, 7] ?_
        simp only [zz20, zzI, look_nil, Nat.reduceBEq]
        refine awp_seq fun K0 hK0 => ?_
        refine awp_seq fun K1 hK1 => ?_
        refine awp_plain F_mixed [some 9] rfl ?_
        simp only [List.nil_append, List.cons_append, true_and, and_true, zz0, true_implies, Nat.reduceLT, Nat.reduceLeDiff, zzI, look_nil, Nat.reduceBEq, implies_true, evS_assign, zz6, Nat.reduceEqDiff, ↓reduceIte]
        refine hK1 _ ?_; try clear hK1 K1
        refine awp_keepL [1, 2, 3, 7, 9] ?_
        simp only [zz20, zzI, look_nil, Nat.reduceBEq]
        refine awp_block ?_
        refine awp_loop (fun m s => ∃ pre post : List FillV, l = pre ++ post ∧ m = post.length ∧ s = S 122 [(1, bv long), (2, .d (fillsD l)), (3, .ptr 3 0 0), (7, .d (poss (lgs w n long l))), (9, .d (iv pre.length))] [(3, (⟨True, 29, 2, true, false, 3, [[.d (iv w), .d (iv n)]]⟩ : ARow))]) l.length _ (le_SK id [] rfl (l' := [(1, bv long), (2, .d (fillsD l)), (3, .ptr 3 0 0), (7, .d (poss (lgs w n long l))), (9, .d (iv ([] : List FillV).length))]) (m' := [(3, (⟨True, 29, 2, true, false, 3, [[.d (iv w), .d (iv n)]]⟩ : ARow))]) ?_ ?_ ?_ ?_) ⟨[], l, rfl, rfl, rfl⟩ ?_
        · simp only [leV, look_cons, Nat.reduceBEq, cond_true, cond_false, fillsD, poss, len_map]; exact ⟨VLe.refl _, VLe.refl _, VLe.refl _, VLe.refl _, VLe.refl _, trivial⟩
        · exact ⟨fun _ => ⟨_, rfl, ⟨id, rfl, rfl, rfl, id, .inl, VLess.refl _⟩⟩, fun h => by simp at h, trivial⟩
        · simp [wfV, AV.ids, AV.idsL, lookR]
        · simp [wfR, AV.idsL, AV.ids]
        rintro m s ⟨pre, post, rfl, rfl, rfl⟩
        refine awp_seq fun K2 hK2 => ?_
        refine awp_seq fun K3 hK3 => ?_
        refine awp_plain F_mixed [some 36, some 37, some 38, some 39] rfl ?_
        simp only [List.nil_append, List.cons_append, true_and, and_true, zz0, true_implies, Nat.reduceLT, Nat.reduceLeDiff, zzI, look_nil, Nat.reduceBEq, implies_true, evS_move, evS_call, zz12, F_sl23, Option.isSome_some, zz21, gr_v, zz22, fillsD, len_map, zz6, Nat.reduceEqDiff, ↓reduceIte]
        refine hK3 _ ?_; try clear hK3 K3
        refine awp_keepL [1, 2, 3, 7, 9, 39] ?_
        simp only [zz20, zzI, look_nil, Nat.reduceBEq]
        refine awp_condS _ (by decide) (by simp only [look_cons, Nat.reduceBEq, cond_true, cond_false]; rfl) ?_ ?_
        · intro hb
          obtain ⟨x, post, rfl⟩ := more_of hb; clear hb
          have hlp := lgs_len w n long pre
          have hlc : (lgs w n long (pre ++ x :: post)).length = 2 * (pre ++ x :: post).length := lgs_len _ _ _ _
          have hl3 : (pre ++ x :: post).length = pre.length + 1 + post.length := by simp; omega
          have j1 : (IntKind.wrap .i64 (2 * (pre.length : Int))) = ((2 * pre.length : Nat) : Int) := by rw [wrapI (by omega) (by omega)]; omega
          have j2 : (IntKind.wrap .i64 (((2 * pre.length : Nat) : Int) + 1)) = ((2 * pre.length + 1 : Nat) : Int) := by rw [wrapI (by omega) (by omega)]; omega
          have a1 := ge0 (2 * pre.length)
          have a2 := ge0 (2 * pre.length + 1)
          have b1 := ltI (show 2 * pre.length < (lgs w n long (pre ++ x :: post)).length by omega)
          have b2 := ltI (show 2 * pre.length + 1 < (lgs w n long (pre ++ x :: post)).length by omega)
          have g1 : ((lgs w n long (pre ++ x :: post)).map posC).getD (2 * pre.length) [] = [iv x.frm, iv n, iv (lq long x.qty), iv (lq long (x.qty * x.price))] := by
            rw [lgs_cons, List.map_append]
            exact gd_mid' (A := (lgs w n long pre).map posC) _ _ (by simp [hlp])
          have g2 : ((lgs w n long (pre ++ x :: post)).map posC).getD (2 * pre.length + 1) [] = [iv w, iv n, iv (0 - lq long x.qty), iv (0 - lq long (x.qty * x.price))] := by
            rw [lgs_cons, show lgs w n long pre ++ (lg1 w n long x ++ lgs w n long post) = (lgs w n long pre ++ [(⟨x.frm, n, lq long x.qty, lq long (x.qty * x.price)⟩ : PosV)]) ++ (⟨w, n, 0 - lq long x.qty, 0 - lq long (x.qty * x.price)⟩ :: lgs w n long post) by simp [lg1], List.map_append]
            exact gd_mid' (A := (lgs w n long pre ++ [(⟨x.frm, n, lq long x.qty, lq long (x.qty * x.price)⟩ : PosV)]).map posC) _ _ (by simp [hlp])
          have hok := lgE_zero he
          have hxk := hok.1
          have hxc := hok.2
          simp only [List.all_append, List.all_cons, Bool.and_eq_true] at hxk hxc
          have hk := hxk.2.1
          simp only [lgOk, inR, Bool.and_eq_true, decide_eq_true_eq] at hk
          have hcb : -4611686018427387904 ≤ x.qty * x.price ∧ x.qty * x.price ≤ 4611686018427387904 := by simpa [lgC, rightN] using hxc.2.1
          have z1 : IntKind.wrap .i64 (lq long x.qty + (0 - lq long x.qty)) = 0 := by rw [wrapI (by omega) (by omega)]; omega
          have z2 : IntKind.wrap .i64 (lq long (x.qty * x.price) + (0 - lq long (x.qty * x.price))) = 0 := by rw [wrapI (by omega) (by omega)]; omega
          have z3 : (decide (lq long x.qty > 0) == (bif long then decide (x.qty > 0) else false)) = true := by cases long <;> simp [lq]; omega
          have z5 : decide (0 < lq long x.qty) = (long && decide (0 < x.qty)) := by cases long <;> simp [lq]; omega
          have z4 : IntKind.wrap .i64 (lq long x.qty * x.price) = lq long (x.qty * x.price) := by
            cases long with
            | true => exact wrapI (n := x.qty * x.price) (by omega) (by omega)
            | false => simp only [lq, cond_false]; rw [show (0 - x.qty) * x.price = 0 - x.qty * x.price by rw [Int.sub_mul]; simp]; exact wrapI (by omega) (by omega)
          refine awp_skip ?_
          simp only [zz6, Nat.reduceEqDiff, ↓reduceIte]
          refine hK2 _ ?_; try clear hK2 K2
          refine awp_keepL [1, 2, 3, 7, 9] ?_
          simp only [zz20, zzI, look_nil, Nat.reduceBEq]
          refine awp_seq fun K2 hK2 => ?_
          refine awp_block ?_
          refine awp_seq fun K3 hK3 => ?_
          refine awp_tree F_mixed [some 42, some 43, some 44, some 45, some 46, some 47, some 48, some 49, some 50, some 51, some 52, some 10, some 11, none, none] rfl (.one 0 (.one 1 (.one 2 (.one 3 (.one 4 (.one 5 (.one 6 (.one 7 (.one 8 (.one 9 (.one 11 (.one 12 (.two (.one 10 (.one 13 (.one 14 .nil))) (.one 13 (.one 10 (.one 14 .nil)))))))))))))))) (by kernel_rfl) ?_
          simp only [List.nil_append, List.cons_append, true_and, and_true, zz0, true_implies, Nat.reduceLT, Nat.reduceLeDiff, zzI, look_nil, Nat.reduceBEq, implies_true, evS_move, zz21, gr_v, zz36, evS_indexAddr, zz23, zz24, F_sl42, F_sz46, Option.map_some, zz16, Option.some.injEq, exists_eq_left', exists_eq_left, eq_self, reduceCtorEq, and_self, F_ok46, F_ag46, zz8, zzD, Nat.reduceAdd, Nat.zero_add, zzF, zzB, zzE, zz26, zz32, newRow1, F_zero46, zz10, zz18, splice, List.append_nil, zz1, zzG, poss, j1, j2, a1, a2, b1, b2, g1, g2, len_map, Int.toNat_natCast, D.agg.injEq, zz6, Nat.reduceEqDiff, ↓reduceIte, evT, List.getElem?_cons_zero, List.getElem?_cons_succ, and_self]
          refine hK3 _ ?_; try clear hK3 K3
          refine awp_keepL [1, 2, 3, 7, 9, 10, 11] ?_
          simp only [zz20, zzI, look_nil, Nat.reduceBEq]
          refine awp_seq fun K3 hK3 => ?_
          refine awp_draw F_mixed [some 53, some 54, some 55, some 56, some 57, some 58, some 59, some 60, some 61, some 62, some 63, some 64, some 65, some 66, some 67, some 68, some 69, some 70, some 71, some 72, some 73, some 74, some 75, some 76, some 77, some 78, some 79, some 80, some 81, some 82, some 83, some 84, some 85, some 86, some 87, some 88, some 89, some 90, some 91, some 92, some 93, some 94, some 95, some 96, some 97, some 98, some 99, some 100, some 101, some 102, some 103, some 104, some 105, some 106, some 107, some 108, some 109, some 110, some 111, some 112, some 113, some 114, some 115, some 116, some 117, some 118, some 119, some 120] rfl (by kernel_rfl) ?_
          simp only [List.nil_append, List.cons_append, true_and, and_true, zz0, true_implies, Nat.reduceLT, Nat.reduceLeDiff, zzI, look_nil, Nat.reduceBEq, implies_true, Nat.reduceSub, S_getD, zz5, and_imp, imp_and, imp_self, and_self, zz19, zz23, F_off46_1, zzB, Nat.zero_add, Nat.reduceAdd, F_ok3, F_ag3, F_sz3, zz8, zzD, zzF, zzE, zz16, Option.some.injEq, exists_eq_left', exists_eq_left, Option.map_some, eq_self, reduceCtorEq, zz21, gr_v, zz26, zz28, evS_move, F_off46_2, zz13, F_off46_0, F_off29_0, evS_indexAddr, zz24, F_sl23, F_sz33, F_off33_0, F_off29_1, F_ok29, F_ag29, F_sz29, evS_call, evC_value, zz29, zz30, zz25, F_off33_1, b_neqb, pure_neqb F_bool4, F_off33_2, zz36, List.append_eq, fillsD, fillC, getD_mid, len_map, lt_mid, ge_mid, z1, z2, z3, z4, bne_self_eq_false, zz6, Nat.reduceEqDiff, ↓reduceIte]
          refine call_go F_go16 (fun hG => kKey_ w n) (by simp [AV.ids, AV.idsL]) (by simp) ?_
          simp only [List.nil_append, List.cons_append, true_and, and_true, zz0, true_implies, Nat.reduceLT, Nat.reduceLeDiff, zzI, look_nil, Nat.reduceBEq, implies_true, Nat.reduceSub, S_getD, zz5, and_imp, imp_and, imp_self, and_self, zz19, zz23, F_off46_1, zzB, Nat.zero_add, Nat.reduceAdd, F_ok3, F_ag3, F_sz3, zz8, zzD, zzF, zzE, zz16, Option.some.injEq, exists_eq_left', exists_eq_left, Option.map_some, eq_self, reduceCtorEq, zz21, gr_v, zz26, zz28, evS_move, F_off46_2, zz13, F_off46_0, F_off29_0, evS_indexAddr, zz24, F_sl23, F_sz33, F_off33_0, F_off29_1, F_ok29, F_ag29, F_sz29, evS_call, evC_value, zz29, zz30, zz25, F_off33_1, b_neqb, pure_neqb F_bool4, F_off33_2, zz36, List.append_eq, fillsD, fillC, getD_mid, len_map, lt_mid, ge_mid, z1, z2, z3, z4, bne_self_eq_false, zz6, Nat.reduceEqDiff, ↓reduceIte, atsL, oksG, freeN, AV.ren, AV.renL, addRows, ORow.row, Nat.reduceMul, Nat.reduceAdd, zz9, Option.bind_some, Option.map_some, forall_eq', D.sl.injEq, S_mem, Option.some.injEq, exists_eq_left', exists_eq_left, exists_eq', exists_eq, List.length_cons, zz2]
          refine hK3 _ ?_; try clear hK3 K3
          refine awp_keepL [1, 2, 3, 7, 9, 120] ?_
          simp only [zz20, zzI, look_nil, Nat.reduceBEq]
          refine awp_condS _ (by decide) (by simp only [look_cons, Nat.reduceBEq, cond_true, cond_false]; rfl) ?_ ?_
          · intro hb
            simp [z3] at hb
            exact (hb z5).elim
          · intro hb
            clear hb
            refine awp_skip ?_
            simp only [zz6, Nat.reduceEqDiff, ↓reduceIte]
            refine hK2 _ ?_; try clear hK2 K2
            refine awp_keepL [1, 2, 3, 7, 9] ?_
            simp only [zz20, zzI, look_nil, Nat.reduceBEq]
            refine awp_plain F_mixed [some 40, some 41, some 9] rfl ?_
            simp only [List.nil_append, List.cons_append, true_and, and_true, zz0, true_implies, Nat.reduceLT, Nat.reduceLeDiff, zzI, look_nil, Nat.reduceBEq, implies_true, evS_move, zz21, gr_v, zz26, evS_assign, zz6, Nat.reduceEqDiff, ↓reduceIte]
            refine ⟨post.length, _, by simp, le_SK id [] rfl (l' := [(1, bv long), (2, .d (fillsD (pre ++ x :: post))), (3, .ptr 3 0 0), (7, .d (poss (lgs w n long (pre ++ x :: post)))), (9, .d (iv (pre ++ [x]).length))]) (m' := [(3, (⟨True, 29, 2, true, false, 3, [[.d (iv w), .d (iv n)]]⟩ : ARow))]) ?_ ?_ ?_ ?_, pre ++ [x], post, by simp, rfl, rfl⟩
            · simp only [leV, look_cons, Nat.reduceBEq, cond_true, cond_false, fillsD, poss, len_map, wrap_len pre x (by simp at hl; omega)]; exact ⟨VLe.refl _, VLe.refl _, VLe.refl _, VLe.refl _, VLe.refl _, trivial⟩
            · exact ⟨fun _ => ⟨_, rfl, ⟨id, rfl, rfl, rfl, id, .inl, VLess.refl _⟩⟩, fun h => by simp at h, trivial⟩
            · simp [wfV, AV.ids, AV.idsL, lookR]
            · simp [wfR, AV.idsL, AV.ids]
        · intro hb
          obtain rfl := none_of hb; clear hb
          refine awp_exit ?_
          simp only [zz6, Nat.reduceEqDiff, ↓reduceIte]
          refine hK0 _ ?_; try clear hK0 K0
          refine awp_keepL [] ?_
          simp only [zz20, zzI, look_nil, Nat.reduceBEq]
          refine awp_seq fun K0 hK0 => ?_
          refine awp_plain F_mixed [some 121, some 6] rfl ?_
          simp only [List.nil_append, List.cons_append, true_and, and_true, zz0, true_implies, Nat.reduceLT, Nat.reduceLeDiff, zzI, look_nil, Nat.reduceBEq, implies_true, evS_call, evC_value, evS_assign, zz6, Nat.reduceEqDiff, ↓reduceIte]
          refine call_go F_go10 (fun hG => wakes19_) (by simp [AV.ids, AV.idsL]) (by simp) ?_
          simp only [List.nil_append, List.cons_append, true_and, and_true, zz0, true_implies, Nat.reduceLT, Nat.reduceLeDiff, zzI, look_nil, Nat.reduceBEq, implies_true, evS_call, evC_value, evS_assign, zz6, Nat.reduceEqDiff, ↓reduceIte, atsL, oksG, freeN, AV.ren, AV.renL, addRows, ORow.row, Nat.reduceMul, Nat.reduceAdd, zz9, Option.bind_some, Option.map_some, forall_eq', D.sl.injEq, zz16, Option.some.injEq, exists_eq_left', exists_eq_left, exists_eq', exists_eq, zzD, zz2]
          refine hK0 _ ?_; try clear hK0 K0
          refine awp_keepL [6] ?_
          simp only [zz20, zzI, look_nil, Nat.reduceBEq]
          refine awp_ret ?_
          simp only [zz6, Nat.reduceEqDiff, ↓reduceIte]
          refine done0 (by simp only [resCs, resC]; trivial) ?_ (by simp [flatA, flatAs, flatD]) (by simp [AV.ids, AV.idsL])
          simp only [List.map_cons, List.map_nil, resA, S_getD, Nat.reduceLT, Nat.reduceLeDiff, look_cons, Nat.reduceBEq, cond_true, cond_false, resAll]
          try rfl
end Go.Proofs.Ytopifbpibkpmmaa
