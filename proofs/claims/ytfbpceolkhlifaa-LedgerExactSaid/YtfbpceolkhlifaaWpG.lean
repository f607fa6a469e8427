import Derived.Test.YtfbpceolkhlifaaWpE
import Derived.Test.YtfbpceolkhlifaaWpF
namespace Go.Proofs.Ytfbpceolkhlifaa
open Go.RowKit
set_option linter.unusedVariables false
set_option linter.unusedSimpArgs false
theorem F_go48 : goFn Try.prog 48 := ⟨_, Try.func48, rfl, rfl⟩
theorem F_by37 : byT Try.prog 37 = 32 := by kernel_rfl
theorem F_go49 : goFn Try.prog 49 := ⟨_, Try.func49, rfl, rfl⟩
theorem F_zero24 : zeroT Try.prog 24 = some [(.int .i64 0), (.int .i64 0), (.int .i64 0)] := by kernel_rfl
theorem F_eqi24 (a0 b0 : Int) (a1 b1 : Int) (a2 b2 : Int) (w : World) : (Op.equalIn 10000 24 (.agg #[.int .i64 a0, .int .i64 a1, .int .i64 a2]) (.agg #[.int .i64 b0, .int .i64 b1, .int .i64 b2])).run Try.prog w = .ok (veqL [.int .i64 a0, .int .i64 a1, .int .i64 a2] [.int .i64 b0, .int .i64 b1, .int .i64 b2]) w := by
  have u3 := Try.underlying3
  have g3 := Try.isAgg3
  have z3 := Try.sizeOf3
  have hS : Try.prog.underlying 24 = some (.struct (Try.prog.fieldsOf 24)) := by kernel_rfl
  have hp : Try.prog.stoodInHeld 24 = false := by kernel_rfl
  rw [show (10000 : Nat) = 9999 + 1 from rfl, run_equalIn_agg w 9999 24 _ _ hS hp]
  simp only [Program.fieldsOf, Try.underlying24]
  go_simp
  by_cases h0 : a0 = b0 <;> by_cases h1 : a1 = b1 <;> by_cases h2 : a2 = b2 <;> simp [veqL, veq, h0, h1, h2]
theorem F_eql24 (a0 b0 : Int) (a1 b1 : Int) (a2 b2 : Int) (x y : Operand) : pureBin Try.prog .eql 24 x y (.agg #[.int .i64 a0, .int .i64 a1, .int .i64 a2]) (.agg #[.int .i64 b0, .int .i64 b1, .int .i64 b2]) = True := by
  have hm : Try.prog.eqGuardType Try.prog.depth 24 = false := by kernel_rfl
  simp only [pureBin, Pure, eq_iff_iff, iff_true]
  intro w
  simp only [Sem.run_bind, run_eqGuard_agg w .eql 24 x y _ _ hm, Result.andThen_ok, run_eql_struct, F_eqi24, binV]
theorem F_go39 : goFn Try.prog 39 := ⟨_, Try.func39, rfl, rfl⟩
theorem F_bld37 : bldT Try.prog 37 = true := by kernel_rfl
theorem F_fld37_0 : fldT Try.prog 37 0 = some (0, 3) := by kernel_rfl
theorem F_fld37_1 : fldT Try.prog 37 1 = some (3, 1) := by kernel_rfl
theorem F_by3 : byT Try.prog 3 = 8 := by kernel_rfl
theorem legSC : SC Try.prog 50 [] legCmpD isLeg 4 where
  go := ⟨_, Try.func50, rfl, rfl⟩
  call x y hx hy := by
    obtain ⟨a, rfl⟩ := hx
    obtain ⟨b, rfl⟩ := hy
    exact legCmp_ a b
  len x hx := by obtain ⟨b, rfl⟩ := hx; rfl
  flat x hx := by obtain ⟨b, rfl⟩ := hx; simp [legC, flatDs, flatD]
  cell x hx := by obtain ⟨b, rfl⟩ := hx; simp [legC, cell1s, AV.cell1, Value.oneCell']
  swo := legCmp_swo
theorem legSortC (l : List LegV) (hl : l.length ≤ 1000000) : MCalls Try.prog 49 [.m 0, .d (.v (.func (.func 50) #[] #[]))] [⟨37, 4, l.map legC⟩] [⟨37, 4, (legSort l).map legC⟩] [] (.tp []) := by
  have e := mcalls_fn0 (sLeg_sort legSC (l.map legC) (okM_legs l) (by simpa using hl))
  rw [sort_legs] at e
  exact e

set_option maxRecDepth 100000 in
set_option maxHeartbeats 4000000 in
theorem Join_ (l : List LegV) (hl : l.length ≤ 1000000) : ACalls Try.prog 30 [legs l] [⟨37, 4, (joinV l).map legC⟩] (.tp [.ref 0 (joinV l).length, .d (iv (joinR l))]) := by
  refine acalls_S (rs := [.tmp 2, .tmp 3]) Try.func30 rfl rfl 68 [(0, .d (legs l))] rfl (by simp) rfl ?_
  refine awp_seq fun K0 hK0 => ?_
  refine awp_plain F_mixed [some 2, some 3] rfl ?_
  simp only [List.nil_append, List.cons_append, true_and, and_true, zz0, true_implies, Nat.reduceLT, Nat.reduceLeDiff, zzI, look_nil, Nat.reduceBEq, implies_true, evS_assign, zz6, Nat.reduceEqDiff, ↓reduceIte]
  refine hK0 _ ?_; try clear hK0 K0
  refine awp_keepL [0] ?_
  simp only [zz20, zzI, look_nil, Nat.reduceBEq]
  refine awp_seq fun K0 hK0 => ?_
  refine awp_seq fun K1 hK1 => ?_
  refine awp_plain F_mixed [some 11, some 12, some 13] rfl ?_
  simp only [List.nil_append, List.cons_append, true_and, and_true, zz0, true_implies, Nat.reduceLT, Nat.reduceLeDiff, zzI, look_nil, Nat.reduceBEq, implies_true, evS_move, evS_call, evC_value, zz29, gr_v, zz30, legs, zz6, Nat.reduceEqDiff, ↓reduceIte]
  refine call_go F_go48 (fun hG => eRight_ l hl) (by simp [AV.ids, AV.idsL]) (by simp) ?_
  simp only [List.nil_append, List.cons_append, true_and, and_true, zz0, true_implies, Nat.reduceLT, Nat.reduceLeDiff, zzI, look_nil, Nat.reduceBEq, implies_true, evS_move, evS_call, evC_value, zz29, gr_v, zz30, legs, zz6, Nat.reduceEqDiff, ↓reduceIte, atsL, oksG, freeN, AV.ren, AV.renL, addRows, ORow.row, Nat.reduceMul, Nat.reduceAdd, zz9, Option.bind_some, Option.map_some, forall_eq', D.sl.injEq, zz16, Option.some.injEq, exists_eq_left', exists_eq_left, exists_eq', exists_eq, zzD, zz2]
  refine hK1 _ ?_; try clear hK1 K1
  refine awp_keepL [0, 13] ?_
  simp only [zz20, zzI, look_nil, Nat.reduceBEq]
  refine awp_condS _ (by decide) (by simp only [look_cons, Nat.reduceBEq, cond_true, cond_false]; rfl) ?_ ?_
  · intro hb
    have hok : l.all legOk = false := by simpa using hb
    clear hb
    have hjr : joinR l = 3 := by simp only [joinR, hok, cond_false]
    have hjv : joinV l = [] := by simp only [joinV, hjr]; rfl
    refine awp_seq fun K2 hK2 => ?_
    refine awp_plain F_mixed [some 2, some 3] rfl ?_
    simp only [List.nil_append, List.cons_append, true_and, and_true, zz0, true_implies, Nat.reduceLT, Nat.reduceLeDiff, zzI, look_nil, Nat.reduceBEq, implies_true, evS_assign, zz6, Nat.reduceEqDiff, ↓reduceIte]
    refine hK2 _ ?_; try clear hK2 K2
    refine awp_keepL [2, 3] ?_
    simp only [zz20, zzI, look_nil, Nat.reduceBEq]
    refine awp_le (le_SK id [0] rfl (l' := [(2, .ref 0 0), (3, .d (iv 3))]) (m' := [(0, (⟨True, 37, 4, true, true, 0, []⟩ : ARow))]) ?_ ?_ ?_ ?_) ?_
    · simp only [leV, look_cons, Nat.reduceBEq, cond_true, cond_false]; exact ⟨VLe.nil_ (by decide), VLe.still rfl, trivial⟩
    · exact ⟨fun h => by simp at h, fun _ => rfl, trivial⟩
    · simp [wfV, AV.ids, lookR]
    · simp [wfR]
    refine awp_ret ?_
    simp only [zz6, Nat.reduceEqDiff, ↓reduceIte]
    rw [hjv, hjr]
    refine done1 0 (by simp only [resCs, resC]; trivial) ?_ (by simp [flatA, flatAs, flatD]) (by simp [AV.ids, AV.idsL]) (by rfl) trivial rfl rfl ?_ (by simp [flatDs, flatD])
    · simp only [List.map_cons, List.map_nil, resA, S_getD, Nat.reduceLT, Nat.reduceLeDiff, look_cons, Nat.reduceBEq, cond_true, cond_false, resAll]; rfl
    · rfl
  · intro hb
    have hok : l.all legOk = true := by simpa using hb
    clear hb
    refine awp_skip ?_
    simp only [zz6, Nat.reduceEqDiff, ↓reduceIte]
    refine hK0 _ ?_; try clear hK0 K0
    refine awp_keepL [0] ?_
    simp only [zz20, zzI, look_nil, Nat.reduceBEq]
    refine awp_seq fun K0 hK0 => ?_
    refine awp_plain F_mixed [some 14, some 15, some 16, some 4] rfl ?_
    simp only [List.nil_append, List.cons_append, true_and, and_true, zz0, true_implies, Nat.reduceLT, Nat.reduceLeDiff, zzI, look_nil, Nat.reduceBEq, implies_true, F_sl32, F_zero37, F_sz37, zz3, newRow1, zz1, zzG, zzD, zz16, Option.some.injEq, exists_eq_left', exists_eq_left, Option.map_some, eq_self, reduceCtorEq, and_self, Nat.reduceAdd, Nat.zero_add, zzF, zzB, zzE, maxLen_le, Nat.reduceMul, evS_move, evS_call, F_by37, zz4, zz9, Option.bind_some, evS_assign, legs, len_map, List.nil_append, zz6, Nat.reduceEqDiff, ↓reduceIte]
    first | refine ⟨le_maxLen hl, by omega, ?_⟩ | refine ⟨by simp, le_maxLen hl, by omega, ?_⟩ | skip
    refine hK0 _ ?_; try clear hK0 K0
    refine awp_keepL [4] ?_
    simp only [zz20, zzI, look_nil, Nat.reduceBEq]
    refine awp_seq fun K0 hK0 => ?_
    refine awp_le (le_SK id [] rfl (l' := [(4, .ref 16 l.length)]) (m' := [(16, (⟨True, 37, 4, false, true, 14, aV ((l).map legC)⟩ : ARow))]) ?_ ?_ ?_ ?_) ?_
    · simp only [leV, look_cons, Nat.reduceBEq, cond_true, cond_false, len_map]; exact ⟨VLe.refl _, trivial⟩
    · exact ⟨fun _ => ⟨_, rfl, RowLe.same (by simp [aV]) (by first | exact ids_data | (simp only [List.nil_append]; exact ids_data))⟩, fun h => by simp at h, trivial⟩
    · simp [wfV, AV.ids, lookR]
    · exact ⟨fun e he r' hr' => by rw [aV_ids _ e he] at hr'; simp at hr', trivial⟩
    refine awp_le (le_SK id [] rfl (l' := [(4, .ref 16 l.length)]) (m' := [(16, (⟨True, 37, 4, true, true, 14, aV ((l).map legC)⟩ : ARow))]) ?_ ?_ ?_ ?_) ?_
    · simp only [leV, look_cons, Nat.reduceBEq, cond_true, cond_false]; exact ⟨VLe.refl _, trivial⟩
    · exact ⟨fun _ => ⟨_, rfl, RowLe.uq_ (by rfl) rfl (aV_ids _)⟩, fun h => by simp at h, trivial⟩
    · simp [wfV, AV.ids, lookR]
    · exact ⟨fun e he r' hr' => by rw [aV_ids _ e he] at hr'; simp at hr', trivial⟩
    refine awp_mut [some 17, some 18] rfl 1 rfl ?_
    simp only [List.nil_append, List.cons_append, true_and, and_true, zz0, true_implies, Nat.reduceLT, Nat.reduceLeDiff, zzI, look_nil, Nat.reduceBEq, implies_true, evS_move, evS_call, evC_value, aV, len_map, zzB, zz6, Nat.reduceEqDiff, ↓reduceIte]
    refine mut_go [16] F_go49 (legSortC l hl) (by simp [AV.ids, AV.idsL]) (by decide) (by first | exact ⟨by decide, by simp⟩ | rfl) ?_
    simp only [List.nil_append, List.cons_append, true_and, and_true, zz0, true_implies, Nat.reduceLT, Nat.reduceLeDiff, zzI, look_nil, Nat.reduceBEq, implies_true, evS_move, evS_call, evC_value, aV, len_map, zzB, zz6, Nat.reduceEqDiff, ↓reduceIte, mArgs_nil, asE_cl, asF_cl, asD_ptr, asG_ptr, asD_ep, asG_ep, List.mem_singleton, forall_eq, asEc_cons, asEc_nil, mArgs_d, mArgs_m, mRows_nil, mRows_cons, mNewL, nxM, mBase, mName, oksL, List.getElem?_cons_zero, List.getElem?_cons_succ, zzF, asE_ag, asE_d, asE_ref, asEc_cons, asEc_nil, asF_d, asF_ref, asF_ag, asGs, AV.ids, AV.idsL, List.length_singleton, List.not_mem_nil, false_implies, forall_const, atsL, asD_self, asD_nil, asD_sl, asD_agg, asD_int, asD_bool, asD_func, asD_ag, asD_ref, asG_d, asG_ag, asG_ref, freeN, AV.ren, AV.renL, addRows, ORow.row, Nat.reduceMul, Nat.reduceAdd, zz9, Option.bind_some, Option.map_some, forall_eq', D.sl.injEq, zz16, Option.some.injEq, exists_eq_left', exists_eq_left, exists_eq', exists_eq, zzD, S_func, Sk_func]
    refine ⟨by simp [flatDs, flatD, legC], ?_⟩
    generalize hSS : legSort l = SS
    have hSl : SS.length = l.length := by rw [← hSS]; exact legSort_len l
    refine hK0 _ ?_; try clear hK0 K0
    refine awp_keepL [4] ?_
    simp only [zz20, zzI, look_nil, Nat.reduceBEq]
    refine awp_seq fun K0 hK0 => ?_
    refine awp_plain F_mixed [some 5] rfl ?_
    simp only [List.nil_append, List.cons_append, true_and, and_true, zz0, true_implies, Nat.reduceLT, Nat.reduceLeDiff, zzI, look_nil, Nat.reduceBEq, implies_true, evS_assign, zz6, Nat.reduceEqDiff, ↓reduceIte]
    refine hK0 _ ?_; try clear hK0 K0
    refine awp_keepL [4, 5] ?_
    simp only [zz20, zzI, look_nil, Nat.reduceBEq]
    refine awp_seq fun K0 hK0 => ?_
    refine awp_seq fun K1 hK1 => ?_
    refine awp_plain F_mixed [some 6] rfl ?_
    simp only [List.nil_append, List.cons_append, true_and, and_true, zz0, true_implies, Nat.reduceLT, Nat.reduceLeDiff, zzI, look_nil, Nat.reduceBEq, implies_true, evS_assign, zz6, Nat.reduceEqDiff, ↓reduceIte]
    refine hK1 _ ?_; try clear hK1 K1
    refine awp_keepL [4, 5, 6] ?_
    simp only [zz20, zzI, look_nil, Nat.reduceBEq]
    refine awp_block ?_
    refine awp_loop (fun m s => ∃ P R out : List LegV, SS = P ++ R ∧ joinE SS = joinE R ∧ joinO SS = out ++ joinO R ∧ out.length ≤ P.length ∧ m = R.length ∧ s = S 68 [(4, .ref 16 SS.length), (5, .ref 5 (out).length), (6, .d (iv P.length))] [(16, (⟨True, 37, 4, true, true, 14, aV ((SS).map legC)⟩ : ARow)), (5, grow 37 4 5 (out.map legC))]) SS.length _ (le_SK id [5] rfl (l' := [(4, .ref 16 SS.length), (5, .ref 5 (([] : List LegV)).length), (6, .d (iv ([] : List LegV).length))]) (m' := [(16, (⟨True, 37, 4, true, true, 14, aV ((SS).map legC)⟩ : ARow)), (5, grow 37 4 5 (([] : List LegV).map legC))]) ?_ ?_ ?_ ?_) ⟨[], SS, [], rfl, rfl, rfl, by simp, rfl, rfl⟩ ?_
    · simp only [leV, look_cons, Nat.reduceBEq, cond_true, cond_false, ← hSl]; exact ⟨VLe.ref_ (f := id) (r := 16) (by simp), VLe.nil_ (by decide), VLe.still rfl, trivial⟩
    · exact ⟨fun _ => ⟨_, rfl, RowLe.same rfl ids_data⟩, fun h => by simp at h, fun h => by simp at h, fun _ => rfl, trivial⟩
    · simp [wfV, AV.ids, lookR]
    · exact ⟨fun e he r' hr' => by rw [aV_ids _ e he] at hr'; simp at hr', by simp [wfR, grow, AV.idsL, AV.ids], trivial⟩
    rintro m s ⟨P, R, out, hPR, hE, hO, hol, rfl, rfl⟩
    refine awp_seq fun K2 hK2 => ?_
    refine awp_seq fun K3 hK3 => ?_
    refine awp_plain F_mixed [some 19, some 20, some 21, some 22] rfl ?_
    simp only [List.nil_append, List.cons_append, true_and, and_true, zz0, true_implies, Nat.reduceLT, Nat.reduceLeDiff, zzI, look_nil, Nat.reduceBEq, implies_true, evS_move, evS_call, zz12, F_sl32, Option.isSome_some, zz21, gr_v, zz22, zz6, Nat.reduceEqDiff, ↓reduceIte]
    refine hK3 _ ?_; try clear hK3 K3
    refine awp_keepL [4, 5, 6, 22] ?_
    simp only [zz20, zzI, look_nil, Nat.reduceBEq]
    refine awp_condS _ (by decide) (by simp only [look_cons, Nat.reduceBEq, cond_true, cond_false]; rfl) ?_ ?_
    · intro hb
      have hPl := congrArg List.length hPR
      simp only [List.length_append] at hPl
      obtain ⟨x, R2, rfl⟩ : ∃ x t, R = x :: t := by
        cases R with
        | nil => have := of_decide_eq_true hb; simp at hPl; omega
        | cons x t => exact ⟨x, t, rfl⟩
      clear hb
      simp only [List.length_cons] at hPl
      have gx : (SS.map legC).getD P.length [] = [iv x.ac.kind, iv x.ac.who, iv x.ac.cur, iv x.amt] := by
        rw [hPR, List.map_append]; exact gd_mid' (A := P.map legC) _ _ (by simp)
      have b1 := ltI (show P.length < SS.length by omega)
      have c1 := eq_true (show P.length < SS.length by omega)
      refine awp_skip ?_
      simp only [zz6, Nat.reduceEqDiff, ↓reduceIte]
      refine hK2 _ ?_; try clear hK2 K2
      refine awp_keepL [4, 5, 6] ?_
      simp only [zz20, zzI, look_nil, Nat.reduceBEq]
      refine awp_block ?_
      refine awp_seq fun K2 hK2 => ?_
      refine awp_plain F_mixed [some 7] rfl ?_
      simp only [List.nil_append, List.cons_append, true_and, and_true, zz0, true_implies, Nat.reduceLT, Nat.reduceLeDiff, zzI, look_nil, Nat.reduceBEq, implies_true, evS_assign, zz6, Nat.reduceEqDiff, ↓reduceIte]
      refine hK2 _ ?_; try clear hK2 K2
      refine awp_keepL [4, 5, 6, 7] ?_
      simp only [zz20, zzI, look_nil, Nat.reduceBEq]
      refine awp_seq fun K2 hK2 => ?_
      refine awp_plain F_mixed [some 23, some 24, some 25, some 26, some 27, some 8, none] rfl ?_
      simp only [List.nil_append, List.cons_append, true_and, and_true, zz0, true_implies, Nat.reduceLT, Nat.reduceLeDiff, zzI, look_nil, Nat.reduceBEq, implies_true, evS_move, evS_indexAddr, zz23, zz24, F_sl32, F_sz37, Option.map_some, zz16, Option.some.injEq, exists_eq_left', exists_eq_left, eq_self, reduceCtorEq, and_self, zz19, F_off37_0, zzB, Nat.zero_add, Nat.reduceAdd, F_ok24, F_ag24, F_sz24, zz8, zzD, zzF, zzE, zz32, newRow1, F_zero24, zz10, zz18, splice, List.append_nil, zz1, zzG, aV_len, aV_get, len_map, gx, b1, c1, ge0, Int.toNat_natCast, Nat.le_refl, List.map_cons, zz6, Nat.reduceEqDiff, ↓reduceIte]
      refine hK2 _ ?_; try clear hK2 K2
      refine awp_keepL [4, 5, 6, 7, 8] ?_
      simp only [zz20, zzI, look_nil, Nat.reduceBEq]
      refine awp_seq fun K2 hK2 => ?_
      refine awp_block ?_
      refine awp_loop (fun m s => ∃ A B : List LegV, x :: R2 = A ++ B ∧ (∀ a ∈ A, acSame a.ac x.ac = true) ∧ m = B.length ∧ s = S 68 [(4, .ref 16 SS.length), (5, .ref 5 out.length), (6, .d (iv (P.length + (A).length : Nat))), (7, .ref 7 (A).length), (8, .ptr 8 0 0)] [(16, (⟨True, 37, 4, true, true, 14, aV ((SS).map legC)⟩ : ARow)), (5, grow 37 4 5 (out.map legC)), (7, grow 3 1 7 ((amts A).map fun n => [iv n])), (8, (⟨True, 24, 3, true, false, 8, [[.d (iv x.ac.kind), .d (iv x.ac.who), .d (iv x.ac.cur)]]⟩ : ARow))]) (x :: R2).length _ (le_SK id [7] rfl (l' := [(4, .ref 16 SS.length), (5, .ref 5 out.length), (6, .d (iv (P.length + (([] : List LegV)).length : Nat))), (7, .ref 7 (([] : List LegV)).length), (8, .ptr 8 0 0)]) (m' := [(16, (⟨True, 37, 4, true, true, 14, aV ((SS).map legC)⟩ : ARow)), (5, grow 37 4 5 (out.map legC)), (7, grow 3 1 7 ((amts ([] : List LegV)).map fun n => [iv n])), (8, (⟨True, 24, 3, true, false, 8, [[.d (iv x.ac.kind), .d (iv x.ac.who), .d (iv x.ac.cur)]]⟩ : ARow))]) ?_ ?_ ?_ ?_) ⟨[], x :: R2, rfl, by simp, rfl, rfl⟩ ?_
      · simp only [leV, look_cons, Nat.reduceBEq, cond_true, cond_false]; exact ⟨VLe.ref_ (f := id) (r := 16) (by simp), VLe.ref_ (f := id) (r := 5) (by simp), VLe.still rfl, VLe.nil_ (by decide), VLe.ptr_ (f := id) (r := 8) (by simp), trivial⟩
      · exact ⟨fun _ => ⟨_, rfl, RowLe.still (aV_ids _)⟩, fun h => by simp at h, fun _ => ⟨_, rfl, RowLe.data_ rfl⟩, fun h => by simp at h, fun h => by simp at h, fun _ => rfl, fun _ => ⟨_, rfl, RowLe.still (by simp [AV.idsL, AV.ids])⟩, fun h => by simp at h, trivial⟩
      · simp [wfV, AV.ids, lookR]
      · exact ⟨fun e he r' hr' => by rw [aV_ids _ e he] at hr'; simp at hr', wf_data _ _, by simp [grow, amts], by simp [AV.idsL, AV.ids], trivial⟩
      rintro m s ⟨A, B0, hAB, hA, rfl, rfl⟩
      have hABl := congrArg List.length hAB
      simp only [List.length_cons, List.length_append] at hABl
      have hAl : (amts A).length = A.length := by simp [amts]
      have hcase : (B0 = [] ∧ (((P.length + A.length : Nat) : Int) < (SS.length : Int)) = False ∧ (P.length + A.length < SS.length) = False ∧ (SS.map legC).getD (P.length + A.length) [] = []) ∨ (∃ b B2, B0 = b :: B2 ∧ (((P.length + A.length : Nat) : Int) < (SS.length : Int)) = True ∧ (P.length + A.length < SS.length) = True ∧ (SS.map legC).getD (P.length + A.length) [] = [iv b.ac.kind, iv b.ac.who, iv b.ac.cur, iv b.amt]) := by
        cases B0 with
        | nil =>
          simp only [List.length_nil] at hABl
          refine .inl ⟨rfl, by simp only [eq_iff_iff, iff_false]; omega, by simp only [eq_iff_iff, iff_false]; omega, ?_⟩
          simp [List.getD, List.getElem?_eq_none (show SS.length ≤ P.length + A.length by omega)]
        | cons b B2 =>
          simp only [List.length_cons] at hABl
          refine .inr ⟨b, B2, rfl, by simp only [eq_iff_iff, iff_true]; omega, by simp only [eq_iff_iff, iff_true]; omega, ?_⟩
          rw [hPR, hAB, show P ++ (A ++ b :: B2) = (P ++ A) ++ b :: B2 by simp, List.map_append]
          exact gd_mid' (A := (P ++ A).map legC) _ _ (by simp)
      rcases hcase with ⟨rfl, b2, c2, gb⟩ | ⟨b, B2, rfl, b2, c2, gb⟩
      · skip
        refine awp_seq fun K4 hK4 => ?_
        refine awp_seq fun K5 hK5 => ?_
        refine awp_draw F_mixed [some 28, some 29, some 30, some 31, some 32, some 33, some 34, some 35, some 36, some 37, some 38, some 39, some 40] rfl (by kernel_rfl) ?_
        simp only [List.nil_append, List.cons_append, true_and, and_true, zz0, true_implies, Nat.reduceLT, Nat.reduceLeDiff, zzI, look_nil, Nat.reduceBEq, implies_true, Nat.reduceSub, S_getD, zz5, and_imp, imp_and, imp_self, and_self, evS_move, evS_call, zz12, F_sl32, Option.isSome_some, zz21, gr_v, zz22, evS_indexAddr, zz23, zz24, F_sz37, Option.map_some, zz16, Option.some.injEq, exists_eq_left', exists_eq_left, eq_self, reduceCtorEq, zz19, F_off37_0, zzB, Nat.zero_add, Nat.reduceAdd, F_ok24, F_ag24, F_sz24, zz8, zzD, zzF, zzE, gr_ag, gr_agg, grL_cons, grL_nil, grD_cons, grD_nil, b_eqla, b_neqa, F_eql24, zz13, pickK_l, pickK_r, decide_true, decide_false, Bool.false_eq_true, false_implies, b2, c2, gb, List.take_nil, List.drop_nil, aV_len, aV_get, len_map, ge0, Int.toNat_natCast, Nat.le_refl, zzG, veqL, veq, zz6, Nat.reduceEqDiff, ↓reduceIte]
        refine hK5 _ ?_; try clear hK5 K5
        refine awp_keepL [4, 5, 6, 7, 8, 40] ?_
        simp only [zz20, zzI, look_nil, Nat.reduceBEq]
        refine awp_condS _ (by decide) (by simp only [look_cons, Nat.reduceBEq, cond_true, cond_false]; rfl) ?_ ?_
        · intro hb
          first | cases hb | simp at hb
        · intro hb
          clear hb
          have hAx : ∃ A2, A = x :: A2 := ⟨R2, by simpa using hAB.symm⟩
          have hB0 : ([] : List LegV) = [] ∨ ∃ b t, ([] : List LegV) = b :: t ∧ acSame b.ac x.ac = false := .inl rfl
          obtain ⟨A2, rfl⟩ : ∃ A2, A = x :: A2 := hAx
          have hA2 : ∀ a ∈ A2, acSame a.ac x.ac = true := fun a ha => hA a (List.mem_cons_of_mem _ ha)
          have hjs := join_step hA2 hB0
          have hRR : x :: R2 = x :: (A2 ++ ([] : List LegV)) := hAB
          rw [hRR] at hE hO hPR
          have hBl : ([] : List LegV).length < (x :: R2).length := by rw [hRR]; simp <;> omega
          have hsl : (amts (x :: A2)).length ≤ 1000000 := by simp only [List.length_cons] at hABl hAl ⊢; omega
          refine awp_exit ?_
          simp only [zz6, Nat.reduceEqDiff, ↓reduceIte]
          refine hK2 _ ?_; try clear hK2 K2
          refine awp_keepL [4, 5, 6, 7, 8] ?_
          simp only [zz20, zzI, look_nil, Nat.reduceBEq]
          refine awp_seq fun K2 hK2 => ?_
          refine awp_plain F_mixed [some 52, some 53, some 51, some 54, some 55, some 9, some 10] rfl ?_
          simp only [List.nil_append, List.cons_append, true_and, and_true, zz0, true_implies, Nat.reduceLT, Nat.reduceLeDiff, zzI, look_nil, Nat.reduceBEq, implies_true, evS_move, evS_call, evC_value, zz14, zzD, Nat.reduceAdd, Nat.zero_add, zzF, evS_assign, ints, grow, D.sl.injEq, len_map, zz6, Nat.reduceEqDiff, ↓reduceIte]
          refine call_go F_go39 (fun hG => Sum_ (amts (x :: A2)) (by omega)) (by simp [AV.ids, AV.idsL]) (by simp) ?_
          simp only [List.nil_append, List.cons_append, true_and, and_true, zz0, true_implies, Nat.reduceLT, Nat.reduceLeDiff, zzI, look_nil, Nat.reduceBEq, implies_true, evS_move, evS_call, evC_value, zz14, zzD, Nat.reduceAdd, Nat.zero_add, zzF, evS_assign, ints, grow, D.sl.injEq, len_map, zz6, Nat.reduceEqDiff, ↓reduceIte, atsL, oksG, freeN, AV.ren, AV.renL, addRows, ORow.row, Nat.reduceMul, Nat.reduceAdd, zz9, Option.bind_some, Option.map_some, forall_eq', D.sl.injEq, zz16, Option.some.injEq, exists_eq_left', exists_eq_left, exists_eq', exists_eq, List.length_cons, zz2]
          refine ⟨by simp [amts], ?_⟩
          refine hK2 _ ?_; try clear hK2 K2
          refine awp_keepL [4, 5, 6, 8, 9, 10] ?_
          simp only [zz20, zzI, look_nil, Nat.reduceBEq]
          refine awp_seq fun K2 hK2 => ?_
          refine awp_seq fun K3 hK3 => ?_
          refine awp_plain F_mixed [some 56, some 57] rfl ?_
          simp only [List.nil_append, List.cons_append, true_and, and_true, zz0, true_implies, Nat.reduceLT, Nat.reduceLeDiff, zzI, look_nil, Nat.reduceBEq, implies_true, evS_move, zz21, gr_v, zz28, zz6, Nat.reduceEqDiff, ↓reduceIte]
          refine hK3 _ ?_; try clear hK3 K3
          refine awp_keepL [4, 5, 6, 8, 9, 10, 57] ?_
          simp only [zz20, zzI, look_nil, Nat.reduceBEq]
          refine awp_condS _ (by decide) (by simp only [look_cons, Nat.reduceBEq, cond_true, cond_false]; rfl) ?_ ?_
          · intro hb
            have hse : (sumE (amts (x :: A2)) != 0) = true := hb
            clear hb
            refine awp_seq fun K4 hK4 => ?_
            refine awp_plain F_mixed [some 58, some 2, some 3] rfl ?_
            simp only [List.nil_append, List.cons_append, true_and, and_true, zz0, true_implies, Nat.reduceLT, Nat.reduceLeDiff, zzI, look_nil, Nat.reduceBEq, implies_true, evS_move, evS_assign, zz6, Nat.reduceEqDiff, ↓reduceIte]
            refine hK4 _ ?_; try clear hK4 K4
            refine awp_keepL [2, 3] ?_
            simp only [zz20, zzI, look_nil, Nat.reduceBEq]
            refine awp_le (le_SK id [0] rfl (l' := [(2, .ref 0 0), (3, .d (iv (sumE (amts (x :: A2)))))]) (m' := [(0, (⟨True, 37, 4, true, true, 0, []⟩ : ARow))]) ?_ ?_ ?_ ?_) ?_
            · simp only [leV, look_cons, Nat.reduceBEq, cond_true, cond_false]; exact ⟨VLe.nil_ (by decide), VLe.still rfl, trivial⟩
            · exact ⟨fun h => by simp at h, fun _ => rfl, trivial⟩
            · simp [wfV, AV.ids, lookR]
            · simp [wfR]
            refine awp_ret ?_
            simp only [zz6, Nat.reduceEqDiff, ↓reduceIte]
            have hjE : joinE SS ≠ 0 := by rw [hE, hjs.1, hse]; simpa using hse
            have hjr : joinR l = joinE SS := by simp only [joinR, hok, cond_true, hSS]
            have hjv : joinV l = [] := by simp only [joinV, show (joinR l == 0) = false by rw [hjr]; simpa using hjE, cond_false]
            have hje : joinE SS = sumE (amts (x :: A2)) := by rw [hE, hjs.1, hse]; rfl
            rw [hjv, hjr, hje]
            refine done1 0 (by simp only [resCs, resC]; trivial) ?_ (by simp [flatA, flatAs, flatD]) (by simp [AV.ids, AV.idsL]) (by rfl) trivial rfl rfl ?_ (by simp [flatDs, flatD])
            · simp only [List.map_cons, List.map_nil, resA, S_getD, Nat.reduceLT, Nat.reduceLeDiff, look_cons, Nat.reduceBEq, cond_true, cond_false, resAll]; rfl
            · rfl
          · intro hb
            have hse : (sumE (amts (x :: A2)) != 0) = false := hb
            clear hb
            have hE2 := hE.trans (hjs.1.trans (by rw [hse]; try rfl))
            refine awp_skip ?_
            simp only [zz6, Nat.reduceEqDiff, ↓reduceIte]
            refine hK2 _ ?_; try clear hK2 K2
            refine awp_keepL [4, 5, 6, 8, 9] ?_
            simp only [zz20, zzI, look_nil, Nat.reduceBEq]
            refine awp_seq fun K2 hK2 => ?_
            refine awp_plain F_mixed [some 59, some 60] rfl ?_
            simp only [List.nil_append, List.cons_append, true_and, and_true, zz0, true_implies, Nat.reduceLT, Nat.reduceLeDiff, zzI, look_nil, Nat.reduceBEq, implies_true, evS_move, zz21, gr_v, zz28, zz6, Nat.reduceEqDiff, ↓reduceIte]
            refine hK2 _ ?_; try clear hK2 K2
            refine awp_keepL [4, 5, 6, 8, 9, 60] ?_
            simp only [zz20, zzI, look_nil, Nat.reduceBEq]
            refine awp_condS _ (by decide) (by simp only [look_cons, Nat.reduceBEq, cond_true, cond_false]; rfl) ?_ ?_
            · intro hb
              have hsv : (sumV (amts (x :: A2)) != 0) = true := hb
              clear hb
              have hO2 := hO.trans (by rw [hjs.2, hsv, cond_true, ← List.append_assoc])
              refine awp_plain F_mixed [some 61, some 62, some 63, some 64, some 65, some 66, some 5] rfl ?_
              simp only [List.nil_append, List.cons_append, true_and, and_true, zz0, true_implies, Nat.reduceLT, Nat.reduceLeDiff, zzI, look_nil, Nat.reduceBEq, implies_true, evS_move, F_ok24, F_ag24, F_sz24, zz8, zz23, zzD, Nat.reduceAdd, Nat.zero_add, zzF, zzB, zzE, zz16, Option.some.injEq, exists_eq_left', exists_eq_left, Option.map_some, eq_self, reduceCtorEq, and_self, F_zero37, F_bld37, zz7, splice, Option.getD_some, List.append_nil, zz1, zzG, zz10, F_fld37_0, F_fld37_1, F_sl32, F_sz37, zz3, newRow1, maxLen_le, Nat.reduceMul, evS_call, F_by37, zz4, zz9, Option.bind_some, evS_assign, grow, D.agg.injEq, unDs_map, zz6, Nat.reduceEqDiff, ↓reduceIte]
              have hm : out.length + 1 ≤ 1000000 := by omega
              first | refine ⟨le_maxLen hm, by omega, ?_⟩ | refine ⟨by simp, le_maxLen hm, by omega, ?_⟩
              clear hm
              refine ⟨([] : List LegV).length, _, hBl, le_SK (fun r => bif r == 5 then 66 else r) [] rfl (l' := [(4, .ref 16 SS.length), (5, .ref 5 ((out ++ [(⟨x.ac, sumV (amts (x :: A2))⟩ : LegV)])).length), (6, .d (iv (P ++ (x :: A2)).length))]) (m' := [(16, (⟨True, 37, 4, true, true, 14, aV ((SS).map legC)⟩ : ARow)), (5, grow 37 4 5 ((out ++ [(⟨x.ac, sumV (amts (x :: A2))⟩ : LegV)]).map legC))]) ?_ ?_ ?_ ?_, P ++ (x :: A2), ([] : List LegV), (out ++ [(⟨x.ac, sumV (amts (x :: A2))⟩ : LegV)]), by rw [hPR]; simp, hE2, hO2, by simp; omega, rfl, rfl⟩
              · simp only [leV, look_cons, Nat.reduceBEq, cond_true, cond_false, List.length_append]
                refine ⟨?_, ?_, VLe.still rfl, trivial⟩
                · exact VLe.ref_ (f := (fun r => bif r == 5 then 66 else r)) (r := 16) (by simp)
                · exact VLe.ref_ (f := (fun r => bif r == 5 then 66 else r)) (r := 5) (by simp)
              · exact ⟨fun _ => ⟨_, rfl, RowLe.still (aV_ids _)⟩, fun h => by simp at h, fun _ => ⟨_, rfl, RowLe.data_ (by simp [legC])⟩, fun h => by simp at h, trivial⟩
              · simp [wfV, AV.ids, lookR, grow]
              · exact ⟨fun e he r' hr' => by rw [aV_ids _ e he] at hr'; simp at hr', wf_data _ _, trivial⟩
            · intro hb
              have hsv : (sumV (amts (x :: A2)) != 0) = false := hb
              clear hb
              have hO2 := hO.trans (by rw [hjs.2, hsv, cond_false, List.nil_append])
              refine awp_skip ?_
              simp only [zz6, Nat.reduceEqDiff, ↓reduceIte]
              refine ⟨([] : List LegV).length, _, hBl, le_SK (fun r => bif r == 5 then 5 else r) [] rfl (l' := [(4, .ref 16 SS.length), (5, .ref 5 (out).length), (6, .d (iv (P ++ (x :: A2)).length))]) (m' := [(16, (⟨True, 37, 4, true, true, 14, aV ((SS).map legC)⟩ : ARow)), (5, grow 37 4 5 (out.map legC))]) ?_ ?_ ?_ ?_, P ++ (x :: A2), ([] : List LegV), out, by rw [hPR]; simp, hE2, hO2, by simp; omega, rfl, rfl⟩
              · simp only [leV, look_cons, Nat.reduceBEq, cond_true, cond_false, List.length_append]
                refine ⟨?_, ?_, VLe.still rfl, trivial⟩
                · exact VLe.ref_ (f := (fun r => bif r == 5 then 5 else r)) (r := 16) (by simp)
                · exact VLe.ref_ (f := (fun r => bif r == 5 then 5 else r)) (r := 5) (by simp)
              · exact ⟨fun _ => ⟨_, rfl, RowLe.still (aV_ids _)⟩, fun h => by simp at h, fun _ => ⟨_, rfl, RowLe.data_ (by simp [legC])⟩, fun h => by simp at h, trivial⟩
              · simp [wfV, AV.ids, lookR, grow]
              · exact ⟨fun e he r' hr' => by rw [aV_ids _ e he] at hr'; simp at hr', wf_data _ _, trivial⟩
      · skip
        refine awp_seq fun K4 hK4 => ?_
        refine awp_seq fun K5 hK5 => ?_
        refine awp_draw F_mixed [some 28, some 29, some 30, some 31, some 32, some 33, some 34, some 35, some 36, some 37, some 38, some 39, some 40] rfl (by kernel_rfl) ?_
        simp only [List.nil_append, List.cons_append, true_and, and_true, zz0, true_implies, Nat.reduceLT, Nat.reduceLeDiff, zzI, look_nil, Nat.reduceBEq, implies_true, Nat.reduceSub, S_getD, zz5, and_imp, imp_and, imp_self, and_self, evS_move, evS_call, zz12, F_sl32, Option.isSome_some, zz21, gr_v, zz22, evS_indexAddr, zz23, zz24, F_sz37, Option.map_some, zz16, Option.some.injEq, exists_eq_left', exists_eq_left, eq_self, reduceCtorEq, zz19, F_off37_0, zzB, Nat.zero_add, Nat.reduceAdd, F_ok24, F_ag24, F_sz24, zz8, zzD, zzF, zzE, gr_ag, gr_agg, grL_cons, grL_nil, grD_cons, grD_nil, b_eqla, b_neqa, F_eql24, zz13, pickK_l, pickK_r, decide_true, decide_false, Bool.false_eq_true, false_implies, b2, c2, gb, List.take_nil, List.drop_nil, aV_len, aV_get, len_map, ge0, Int.toNat_natCast, Nat.le_refl, zzG, veqL, veq, zz6, Nat.reduceEqDiff, ↓reduceIte]
        refine hK5 _ ?_; try clear hK5 K5
        refine awp_keepL [4, 5, 6, 7, 8, 40] ?_
        simp only [zz20, zzI, look_nil, Nat.reduceBEq]
        refine awp_condS _ (by decide) (by simp only [look_cons, Nat.reduceBEq, cond_true, cond_false]; rfl) ?_ ?_
        · intro hb
          have hsm : acSame b.ac x.ac = true := by simpa [acSame, Bool.and_assoc] using hb
          clear hb
          have hA3 : ∀ a ∈ A ++ [b], acSame a.ac x.ac = true := fun a ha => by
            rcases List.mem_append.1 ha with ha | ha
            · exact hA a ha
            · obtain rfl : a = b := by simpa using ha
              exact hsm
          simp only [List.length_cons] at hABl
          have hwi : IntKind.wrap .i64 (((P.length + A.length : Nat) : Int) + 1) = ((P.length + (A.length + 1) : Nat) : Int) := by rw [wrapI (by omega) (by omega)]; omega
          refine awp_skip ?_
          simp only [zz6, Nat.reduceEqDiff, ↓reduceIte]
          refine hK4 _ ?_; try clear hK4 K4
          refine awp_keepL [4, 5, 6, 7, 8] ?_
          simp only [zz20, zzI, look_nil, Nat.reduceBEq]
          refine awp_seq fun K4 hK4 => ?_
          refine awp_block ?_
          refine awp_plain F_mixed [some 43, some 44, some 45, some 46, some 47, some 48, some 49, some 50, some 7] rfl ?_
          simp only [List.nil_append, List.cons_append, true_and, and_true, zz0, true_implies, Nat.reduceLT, Nat.reduceLeDiff, zzI, look_nil, Nat.reduceBEq, implies_true, evS_move, evS_indexAddr, zz23, zz24, F_sl32, F_sz37, Option.map_some, zz16, Option.some.injEq, exists_eq_left', exists_eq_left, eq_self, reduceCtorEq, and_self, zz19, F_off37_1, zzB, Nat.zero_add, Nat.reduceAdd, F_ok3, F_ag3, F_sz3, zz8, zzD, zzF, zzE, F_sl50, F_zero3, zz3, newRow1, zz1, zzG, maxLen_le, Nat.reduceMul, evS_call, F_by3, zz4, zz9, Option.bind_some, evS_assign, aV_len, aV_get, len_map, gb, b2, c2, ge0, Int.toNat_natCast, Nat.le_refl, List.map_cons, grow, D.agg.injEq, unDs_map, zz6, Nat.reduceEqDiff, ↓reduceIte]
          have hm : A.length + 1 ≤ 1000000 := by omega
          first | refine ⟨le_maxLen hm, by omega, ?_⟩ | refine ⟨by simp [amts], le_maxLen hm, by omega, ?_⟩
          clear hm
          refine hK4 _ ?_; try clear hK4 K4
          refine awp_keepL [4, 5, 6, 7, 8] ?_
          simp only [zz20, zzI, look_nil, Nat.reduceBEq]
          refine awp_plain F_mixed [some 41, some 42, some 6] rfl ?_
          simp only [List.nil_append, List.cons_append, true_and, and_true, zz0, true_implies, Nat.reduceLT, Nat.reduceLeDiff, zzI, look_nil, Nat.reduceBEq, implies_true, evS_move, zz21, gr_v, zz26, evS_assign, hwi, zz6, Nat.reduceEqDiff, ↓reduceIte]
          refine ⟨B2.length, _, by simp, le_SK (fun r => bif r == 7 then 50 else r) [] rfl (l' := [(4, .ref 16 SS.length), (5, .ref 5 out.length), (6, .d (iv (P.length + (A ++ [b]).length : Nat))), (7, .ref 7 (A ++ [b]).length), (8, .ptr 8 0 0)]) (m' := [(16, (⟨True, 37, 4, true, true, 14, aV ((SS).map legC)⟩ : ARow)), (5, grow 37 4 5 (out.map legC)), (7, grow 3 1 7 ((amts (A ++ [b])).map fun n => [iv n])), (8, (⟨True, 24, 3, true, false, 8, [[.d (iv x.ac.kind), .d (iv x.ac.who), .d (iv x.ac.cur)]]⟩ : ARow))]) ?_ ?_ ?_ ?_, A ++ [b], B2, by simp [hAB], hA3, rfl, rfl⟩
          · simp only [leV, look_cons, Nat.reduceBEq, cond_true, cond_false, hwi, List.length_append, List.length_singleton]
            refine ⟨?_, ?_, VLe.still rfl, ?_, ?_, trivial⟩
            · exact VLe.ref_ (f := fun r => bif r == 7 then 50 else r) (r := 16) (by simp)
            · exact VLe.ref_ (f := fun r => bif r == 7 then 50 else r) (r := 5) (by simp)
            · exact VLe.ref_ (f := fun r => bif r == 7 then 50 else r) (r := 7) (by simp)
            · exact VLe.ptr_ (f := fun r => bif r == 7 then 50 else r) (r := 8) (by simp)
          · exact ⟨fun _ => ⟨_, rfl, RowLe.still (aV_ids _)⟩, fun h => by simp at h, fun _ => ⟨_, rfl, RowLe.data_ rfl⟩, fun h => by simp at h, fun _ => ⟨_, rfl, RowLe.data_ (by simp [amts])⟩, fun h => by simp at h, fun _ => ⟨_, rfl, RowLe.still (by simp [AV.idsL, AV.ids])⟩, fun h => by simp at h, trivial⟩
          · simp [wfV, AV.ids, lookR, grow]
          · exact ⟨fun e he r' hr' => by rw [aV_ids _ e he] at hr'; simp at hr', wf_data _ _, wf_data _ _, by simp [AV.idsL, AV.ids], trivial⟩
        · intro hb
          have hns : acSame b.ac x.ac = false := by
            cases h : acSame b.ac x.ac with
            | false => rfl
            | true => rw [acSame_iff] at h; rw [h] at hb; simp at hb
          clear hb
          have hAx : ∃ A2, A = x :: A2 := by
            cases A with
            | nil => simp at hAB; rw [← hAB.1, acSame_refl] at hns; cases hns
            | cons a A2 => simp at hAB; exact ⟨A2, by rw [hAB.1]⟩
          have hB0 : (b :: B2) = [] ∨ ∃ b_ t, (b :: B2) = b_ :: t ∧ acSame b_.ac x.ac = false := .inr ⟨b, B2, rfl, hns⟩
          simp only [List.length_cons] at hABl
          obtain ⟨A2, rfl⟩ : ∃ A2, A = x :: A2 := hAx
          have hA2 : ∀ a ∈ A2, acSame a.ac x.ac = true := fun a ha => hA a (List.mem_cons_of_mem _ ha)
          have hjs := join_step hA2 hB0
          have hRR : x :: R2 = x :: (A2 ++ (b :: B2)) := hAB
          rw [hRR] at hE hO hPR
          have hBl : (b :: B2).length < (x :: R2).length := by rw [hRR]; simp <;> omega
          have hsl : (amts (x :: A2)).length ≤ 1000000 := by simp only [List.length_cons] at hABl hAl ⊢; omega
          refine awp_exit ?_
          simp only [zz6, Nat.reduceEqDiff, ↓reduceIte]
          refine hK2 _ ?_; try clear hK2 K2
          refine awp_keepL [4, 5, 6, 7, 8] ?_
          simp only [zz20, zzI, look_nil, Nat.reduceBEq]
          refine awp_seq fun K2 hK2 => ?_
          refine awp_plain F_mixed [some 52, some 53, some 51, some 54, some 55, some 9, some 10] rfl ?_
          simp only [List.nil_append, List.cons_append, true_and, and_true, zz0, true_implies, Nat.reduceLT, Nat.reduceLeDiff, zzI, look_nil, Nat.reduceBEq, implies_true, evS_move, evS_call, evC_value, zz14, zzD, Nat.reduceAdd, Nat.zero_add, zzF, evS_assign, ints, grow, D.sl.injEq, len_map, zz6, Nat.reduceEqDiff, ↓reduceIte]
          refine call_go F_go39 (fun hG => Sum_ (amts (x :: A2)) (by omega)) (by simp [AV.ids, AV.idsL]) (by simp) ?_
          simp only [List.nil_append, List.cons_append, true_and, and_true, zz0, true_implies, Nat.reduceLT, Nat.reduceLeDiff, zzI, look_nil, Nat.reduceBEq, implies_true, evS_move, evS_call, evC_value, zz14, zzD, Nat.reduceAdd, Nat.zero_add, zzF, evS_assign, ints, grow, D.sl.injEq, len_map, zz6, Nat.reduceEqDiff, ↓reduceIte, atsL, oksG, freeN, AV.ren, AV.renL, addRows, ORow.row, Nat.reduceMul, Nat.reduceAdd, zz9, Option.bind_some, Option.map_some, forall_eq', D.sl.injEq, zz16, Option.some.injEq, exists_eq_left', exists_eq_left, exists_eq', exists_eq, List.length_cons, zz2]
          refine ⟨by simp [amts], ?_⟩
          refine hK2 _ ?_; try clear hK2 K2
          refine awp_keepL [4, 5, 6, 8, 9, 10] ?_
          simp only [zz20, zzI, look_nil, Nat.reduceBEq]
          refine awp_seq fun K2 hK2 => ?_
          refine awp_seq fun K3 hK3 => ?_
          refine awp_plain F_mixed [some 56, some 57] rfl ?_
          simp only [List.nil_append, List.cons_append, true_and, and_true, zz0, true_implies, Nat.reduceLT, Nat.reduceLeDiff, zzI, look_nil, Nat.reduceBEq, implies_true, evS_move, zz21, gr_v, zz28, zz6, Nat.reduceEqDiff, ↓reduceIte]
          refine hK3 _ ?_; try clear hK3 K3
          refine awp_keepL [4, 5, 6, 8, 9, 10, 57] ?_
          simp only [zz20, zzI, look_nil, Nat.reduceBEq]
          refine awp_condS _ (by decide) (by simp only [look_cons, Nat.reduceBEq, cond_true, cond_false]; rfl) ?_ ?_
          · intro hb
            have hse : (sumE (amts (x :: A2)) != 0) = true := hb
            clear hb
            refine awp_seq fun K4 hK4 => ?_
            refine awp_plain F_mixed [some 58, some 2, some 3] rfl ?_
            simp only [List.nil_append, List.cons_append, true_and, and_true, zz0, true_implies, Nat.reduceLT, Nat.reduceLeDiff, zzI, look_nil, Nat.reduceBEq, implies_true, evS_move, evS_assign, zz6, Nat.reduceEqDiff, ↓reduceIte]
            refine hK4 _ ?_; try clear hK4 K4
            refine awp_keepL [2, 3] ?_
            simp only [zz20, zzI, look_nil, Nat.reduceBEq]
            refine awp_le (le_SK id [0] rfl (l' := [(2, .ref 0 0), (3, .d (iv (sumE (amts (x :: A2)))))]) (m' := [(0, (⟨True, 37, 4, true, true, 0, []⟩ : ARow))]) ?_ ?_ ?_ ?_) ?_
            · simp only [leV, look_cons, Nat.reduceBEq, cond_true, cond_false]; exact ⟨VLe.nil_ (by decide), VLe.still rfl, trivial⟩
            · exact ⟨fun h => by simp at h, fun _ => rfl, trivial⟩
            · simp [wfV, AV.ids, lookR]
            · simp [wfR]
            refine awp_ret ?_
            simp only [zz6, Nat.reduceEqDiff, ↓reduceIte]
            have hjE : joinE SS ≠ 0 := by rw [hE, hjs.1, hse]; simpa using hse
            have hjr : joinR l = joinE SS := by simp only [joinR, hok, cond_true, hSS]
            have hjv : joinV l = [] := by simp only [joinV, show (joinR l == 0) = false by rw [hjr]; simpa using hjE, cond_false]
            have hje : joinE SS = sumE (amts (x :: A2)) := by rw [hE, hjs.1, hse]; rfl
            rw [hjv, hjr, hje]
            refine done1 0 (by simp only [resCs, resC]; trivial) ?_ (by simp [flatA, flatAs, flatD]) (by simp [AV.ids, AV.idsL]) (by rfl) trivial rfl rfl ?_ (by simp [flatDs, flatD])
            · simp only [List.map_cons, List.map_nil, resA, S_getD, Nat.reduceLT, Nat.reduceLeDiff, look_cons, Nat.reduceBEq, cond_true, cond_false, resAll]; rfl
            · rfl
          · intro hb
            have hse : (sumE (amts (x :: A2)) != 0) = false := hb
            clear hb
            have hE2 := hE.trans (hjs.1.trans (by rw [hse]; try rfl))
            refine awp_skip ?_
            simp only [zz6, Nat.reduceEqDiff, ↓reduceIte]
            refine hK2 _ ?_; try clear hK2 K2
            refine awp_keepL [4, 5, 6, 8, 9] ?_
            simp only [zz20, zzI, look_nil, Nat.reduceBEq]
            refine awp_seq fun K2 hK2 => ?_
            refine awp_plain F_mixed [some 59, some 60] rfl ?_
            simp only [List.nil_append, List.cons_append, true_and, and_true, zz0, true_implies, Nat.reduceLT, Nat.reduceLeDiff, zzI, look_nil, Nat.reduceBEq, implies_true, evS_move, zz21, gr_v, zz28, zz6, Nat.reduceEqDiff, ↓reduceIte]
            refine hK2 _ ?_; try clear hK2 K2
            refine awp_keepL [4, 5, 6, 8, 9, 60] ?_
            simp only [zz20, zzI, look_nil, Nat.reduceBEq]
            refine awp_condS _ (by decide) (by simp only [look_cons, Nat.reduceBEq, cond_true, cond_false]; rfl) ?_ ?_
            · intro hb
              have hsv : (sumV (amts (x :: A2)) != 0) = true := hb
              clear hb
              have hO2 := hO.trans (by rw [hjs.2, hsv, cond_true, ← List.append_assoc])
              refine awp_plain F_mixed [some 61, some 62, some 63, some 64, some 65, some 66, some 5] rfl ?_
              simp only [List.nil_append, List.cons_append, true_and, and_true, zz0, true_implies, Nat.reduceLT, Nat.reduceLeDiff, zzI, look_nil, Nat.reduceBEq, implies_true, evS_move, F_ok24, F_ag24, F_sz24, zz8, zz23, zzD, Nat.reduceAdd, Nat.zero_add, zzF, zzB, zzE, zz16, Option.some.injEq, exists_eq_left', exists_eq_left, Option.map_some, eq_self, reduceCtorEq, and_self, F_zero37, F_bld37, zz7, splice, Option.getD_some, List.append_nil, zz1, zzG, zz10, F_fld37_0, F_fld37_1, F_sl32, F_sz37, zz3, newRow1, maxLen_le, Nat.reduceMul, evS_call, F_by37, zz4, zz9, Option.bind_some, evS_assign, grow, D.agg.injEq, unDs_map, zz6, Nat.reduceEqDiff, ↓reduceIte]
              have hm : out.length + 1 ≤ 1000000 := by omega
              first | refine ⟨le_maxLen hm, by omega, ?_⟩ | refine ⟨by simp, le_maxLen hm, by omega, ?_⟩
              clear hm
              refine ⟨(b :: B2).length, _, hBl, le_SK (fun r => bif r == 5 then 66 else r) [] rfl (l' := [(4, .ref 16 SS.length), (5, .ref 5 ((out ++ [(⟨x.ac, sumV (amts (x :: A2))⟩ : LegV)])).length), (6, .d (iv (P ++ (x :: A2)).length))]) (m' := [(16, (⟨True, 37, 4, true, true, 14, aV ((SS).map legC)⟩ : ARow)), (5, grow 37 4 5 ((out ++ [(⟨x.ac, sumV (amts (x :: A2))⟩ : LegV)]).map legC))]) ?_ ?_ ?_ ?_, P ++ (x :: A2), (b :: B2), (out ++ [(⟨x.ac, sumV (amts (x :: A2))⟩ : LegV)]), by rw [hPR]; simp, hE2, hO2, by simp; omega, rfl, rfl⟩
              · simp only [leV, look_cons, Nat.reduceBEq, cond_true, cond_false, List.length_append]
                refine ⟨?_, ?_, VLe.still rfl, trivial⟩
                · exact VLe.ref_ (f := (fun r => bif r == 5 then 66 else r)) (r := 16) (by simp)
                · exact VLe.ref_ (f := (fun r => bif r == 5 then 66 else r)) (r := 5) (by simp)
              · exact ⟨fun _ => ⟨_, rfl, RowLe.still (aV_ids _)⟩, fun h => by simp at h, fun _ => ⟨_, rfl, RowLe.data_ (by simp [legC])⟩, fun h => by simp at h, trivial⟩
              · simp [wfV, AV.ids, lookR, grow]
              · exact ⟨fun e he r' hr' => by rw [aV_ids _ e he] at hr'; simp at hr', wf_data _ _, trivial⟩
            · intro hb
              have hsv : (sumV (amts (x :: A2)) != 0) = false := hb
              clear hb
              have hO2 := hO.trans (by rw [hjs.2, hsv, cond_false, List.nil_append])
              refine awp_skip ?_
              simp only [zz6, Nat.reduceEqDiff, ↓reduceIte]
              refine ⟨(b :: B2).length, _, hBl, le_SK (fun r => bif r == 5 then 5 else r) [] rfl (l' := [(4, .ref 16 SS.length), (5, .ref 5 (out).length), (6, .d (iv (P ++ (x :: A2)).length))]) (m' := [(16, (⟨True, 37, 4, true, true, 14, aV ((SS).map legC)⟩ : ARow)), (5, grow 37 4 5 (out.map legC))]) ?_ ?_ ?_ ?_, P ++ (x :: A2), (b :: B2), out, by rw [hPR]; simp, hE2, hO2, by simp; omega, rfl, rfl⟩
              · simp only [leV, look_cons, Nat.reduceBEq, cond_true, cond_false, List.length_append]
                refine ⟨?_, ?_, VLe.still rfl, trivial⟩
                · exact VLe.ref_ (f := (fun r => bif r == 5 then 5 else r)) (r := 16) (by simp)
                · exact VLe.ref_ (f := (fun r => bif r == 5 then 5 else r)) (r := 5) (by simp)
              · exact ⟨fun _ => ⟨_, rfl, RowLe.still (aV_ids _)⟩, fun h => by simp at h, fun _ => ⟨_, rfl, RowLe.data_ (by simp [legC])⟩, fun h => by simp at h, trivial⟩
              · simp [wfV, AV.ids, lookR, grow]
              · exact ⟨fun e he r' hr' => by rw [aV_ids _ e he] at hr'; simp at hr', wf_data _ _, trivial⟩
    · intro hb
      have hR : R = [] := by
        have hPl := congrArg List.length hPR
        simp only [List.length_append] at hPl
        cases R with
        | nil => rfl
        | cons x t => have := of_decide_eq_false hb; simp at hPl; omega
      clear hb
      subst hR
      have hjr : joinR l = 0 := by simp only [joinR, hok, cond_true, hSS, hE, joinE]
      have hjv : joinV l = out := by simp only [joinV, hjr, hSS, hO, joinO, List.append_nil]; rfl
      refine awp_exit ?_
      simp only [zz6, Nat.reduceEqDiff, ↓reduceIte]
      refine hK0 _ ?_; try clear hK0 K0
      refine awp_keepL [5] ?_
      simp only [zz20, zzI, look_nil, Nat.reduceBEq]
      refine awp_seq fun K0 hK0 => ?_
      refine awp_plain F_mixed [some 67, some 2, some 3] rfl ?_
      simp only [List.nil_append, List.cons_append, true_and, and_true, zz0, true_implies, Nat.reduceLT, Nat.reduceLeDiff, zzI, look_nil, Nat.reduceBEq, implies_true, evS_move, evS_assign, zz6, Nat.reduceEqDiff, ↓reduceIte]
      refine hK0 _ ?_; try clear hK0 K0
      refine awp_keepL [2, 3] ?_
      simp only [zz20, zzI, look_nil, Nat.reduceBEq]
      refine awp_ret ?_
      simp only [zz6, Nat.reduceEqDiff, ↓reduceIte]
      rw [hjv, hjr]
      refine done1 5 (by simp only [resCs, resC]; trivial) ?_ (by simp [flatA, flatAs, flatD, legC]) (by simp [AV.ids, AV.idsL, legC]) (by rfl) trivial rfl rfl ?_ (by simp [flatDs, flatD, legC])
      · simp only [List.map_cons, List.map_nil, resA, S_getD, Nat.reduceLT, Nat.reduceLeDiff, look_cons, Nat.reduceBEq, cond_true, cond_false, resAll]; rfl
      · rfl
end Go.Proofs.Ytfbpceolkhlifaa
