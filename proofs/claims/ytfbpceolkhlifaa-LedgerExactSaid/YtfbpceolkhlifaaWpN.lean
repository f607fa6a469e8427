import Derived.Test.YtfbpceolkhlifaaWpK
import Derived.Test.YtfbpceolkhlifaaSpecLB
namespace Go.Proofs.Ytfbpceolkhlifaa
open Go.RowKit
set_option linter.unusedVariables false
set_option linter.unusedSimpArgs false
theorem F_go58 : goFn Try.prog 58 := ⟨_, Try.func58, rfl, rfl⟩
theorem F_ok50 : tyOk Try.prog 50 = true := by kernel_rfl
theorem F_ag50 : aggT Try.prog 50 = false := by kernel_rfl
theorem F_sz50 : szT Try.prog 50 = 1 := by kernel_rfl
theorem F_go47 : goFn Try.prog 47 := ⟨_, Try.func47, rfl, rfl⟩
theorem F_off28_1 : offT Try.prog 28 1 = some 1 := by kernel_rfl
theorem F_ok26 : tyOk Try.prog 26 = true := by kernel_rfl
theorem F_ag26 : aggT Try.prog 26 = false := by kernel_rfl
theorem F_sz26 : szT Try.prog 26 = 1 := by kernel_rfl
theorem F_sl26 : sliceT Try.prog 26 = some 65 := by kernel_rfl
theorem F_sz65 : szT Try.prog 65 = 4 := by kernel_rfl
theorem F_ok65 : tyOk Try.prog 65 = true := by kernel_rfl
theorem F_ag65 : aggT Try.prog 65 = true := by kernel_rfl
theorem F_zero65 : zeroT Try.prog 65 = some [(.int .i64 0), (.int .i64 0), (.int .i64 0), (.int .i64 0)] := by kernel_rfl
theorem F_off65_0 : offT Try.prog 65 0 = some 0 := by kernel_rfl
theorem F_go41 : goFn Try.prog 41 := ⟨_, Try.func41, rfl, rfl⟩
theorem F_off65_1 : offT Try.prog 65 1 = some 3 := by kernel_rfl
theorem F_eqi24 (a0 b0 : Int) (a1 b1 : Int) (a2 b2 : Int) (w : World) : (Op.equalIn 10000 24 (.agg #[.int .i64 a0, .int .i64 a1, .int .i64 a2]) (.agg #[.int .i64 b0, .int .i64 b1, .int .i64 b2])).run Try.prog w = .ok (veqL [.int .i64 a0, .int .i64 a1, .int .i64 a2] [.int .i64 b0, .int .i64 b1, .int .i64 b2]) w := by
  have u3 := Try.underlying3
  have g3 := Try.isAgg3
  have z3 := Try.sizeOf3
  have hS : Try.prog.underlying 24 = some (.struct (Try.prog.fieldsOf 24)) := by kernel_rfl
  have hp : Try.prog.stoodInHeld 24 = false := by kernel_rfl
  rw [show (10000 : Nat) = 9999 + 1 from rfl, run_equalIn_agg w 9999 24 _ _ hS hp]
  simp only [Program.fieldsOf, Try.underlying24]
  go_simp
  by_cases h0 : a0 = b0 <;> by_cases h1 : a1 = b1 <;> by_cases h2 : a2 = b2 <;> simp [veqL, veq, h0, h1, h2]
theorem F_eql24 (a0 b0 : Int) (a1 b1 : Int) (a2 b2 : Int) (x y : Operand) : pureBin Try.prog .eql 24 x y (.agg #[.int .i64 a0, .int .i64 a1, .int .i64 a2]) (.agg #[.int .i64 b0, .int .i64 b1, .int .i64 b2]) = True := by
  have hm : Try.prog.eqGuardType Try.prog.depth 24 = false := by kernel_rfl
  simp only [pureBin, Pure, eq_iff_iff, iff_true]
  intro w
  simp only [Sem.run_bind, run_eqGuard_agg w .eql 24 x y _ _ hm, Result.andThen_ok, run_eql_struct, F_eqi24, binV]
theorem flo_ (a : AcV) : ACalls Try.prog 31 [.agg (acC a)] [] (.d (iv (flo a))) := by
  refine acalls_S (rs := [.tmp 2]) Try.func31 rfl rfl 15 [(0, .d (.agg (acC a)))] rfl (by simp) rfl ?_
  refine awp_seq fun K0 hK0 => ?_
  refine awp_plain F_mixed [some 1, some 2] rfl ?_
  simp only [List.nil_append, List.cons_append, true_and, and_true, zz0, true_implies, Nat.reduceLT, Nat.reduceLeDiff, zzI, look_nil, Nat.reduceBEq, implies_true, zz35, newRow1, zz1, zzG, zzD, zz16, Option.some.injEq, exists_eq_left', exists_eq_left, Option.map_some, eq_self, reduceCtorEq, and_self, Nat.reduceAdd, Nat.zero_add, zzF, zzB, zzE, evS_assign, acC, zz6, Nat.reduceEqDiff, ↓reduceIte]
  refine hK0 _ ?_; try clear hK0 K0
  refine awp_keepL [1] ?_
  simp only [zz20, zzI, look_nil, Nat.reduceBEq]
  refine awp_seq fun K0 hK0 => ?_
  refine awp_seq fun K1 hK1 => ?_
  refine awp_plain F_mixed [some 3, some 4, some 5, some 6, some 7, some 8, some 9, some 10, some 11, some 12, some 13, some 14] rfl ?_
  simp only [List.nil_append, List.cons_append, true_and, and_true, zz0, true_implies, Nat.reduceLT, Nat.reduceLeDiff, zzI, look_nil, Nat.reduceBEq, implies_true, Nat.reduceSub, S_getD, zz5, and_imp, imp_and, imp_self, and_self, F_ok24, F_ag24, F_sz24, zz8, zz23, zzD, Nat.reduceAdd, Nat.zero_add, zzF, zzB, zzE, zz16, Option.some.injEq, exists_eq_left', exists_eq_left, Option.map_some, eq_self, reduceCtorEq, evS_call, evC_value, evS_move, zz19, F_off24_0, F_ok3, F_ag3, F_sz3, zz21, gr_v, zz34, zz13, pickK_l, pickK_r, acC, D.agg.injEq, zz6, Nat.reduceEqDiff, ↓reduceIte]
  refine call_go F_go36 (fun hG => acRight_ a) (by simp [AV.ids, AV.idsL]) (by simp) ?_
  simp only [List.nil_append, List.cons_append, true_and, and_true, zz0, true_implies, Nat.reduceLT, Nat.reduceLeDiff, zzI, look_nil, Nat.reduceBEq, implies_true, Nat.reduceSub, S_getD, zz5, and_imp, imp_and, imp_self, and_self, F_ok24, F_ag24, F_sz24, zz8, zz23, zzD, Nat.reduceAdd, Nat.zero_add, zzF, zzB, zzE, zz16, Option.some.injEq, exists_eq_left', exists_eq_left, Option.map_some, eq_self, reduceCtorEq, evS_call, evC_value, evS_move, zz19, F_off24_0, F_ok3, F_ag3, F_sz3, zz21, gr_v, zz34, zz13, pickK_l, pickK_r, acC, D.agg.injEq, zz6, Nat.reduceEqDiff, ↓reduceIte, atsL, oksG, freeN, AV.ren, AV.renL, addRows, ORow.row, Nat.reduceMul, Nat.reduceAdd, zz9, Option.bind_some, Option.map_some, forall_eq', D.sl.injEq, S_mem, Option.some.injEq, exists_eq_left', exists_eq_left, exists_eq', exists_eq, List.length_cons, zz2]
  refine hK1 _ ?_; try clear hK1 K1
  refine awp_keepL [14] ?_
  simp only [zz20, zzI, look_nil, Nat.reduceBEq]
  refine awp_condS _ (by decide) (by simp only [look_cons, Nat.reduceBEq, cond_true, cond_false]; rfl) ?_ ?_
  · intro hb
    have e : (acOk a && (a.kind == 3 || a.kind == 4)) = true := hb
    clear hb
    refine awp_seq fun K2 hK2 => ?_
    refine awp_plain F_mixed [some 2] rfl ?_
    simp only [List.nil_append, List.cons_append, true_and, and_true, zz0, true_implies, Nat.reduceLT, Nat.reduceLeDiff, zzI, look_nil, Nat.reduceBEq, implies_true, evS_assign, zz6, Nat.reduceEqDiff, ↓reduceIte]
    refine hK2 _ ?_; try clear hK2 K2
    refine awp_keepL [2] ?_
    simp only [zz20, zzI, look_nil, Nat.reduceBEq]
    refine awp_ret ?_
    simp only [zz6, Nat.reduceEqDiff, ↓reduceIte]
    refine done0 (by simp only [resCs, resC]; trivial) ?_ (by simp [flatA, flatAs, flatD]) (by simp [AV.ids, AV.idsL])
    simp only [List.map_cons, List.map_nil, resA, S_getD, Nat.reduceLT, Nat.reduceLeDiff, look_cons, Nat.reduceBEq, cond_true, cond_false, resAll]
    simp only [flo, e, cond_true]
  · intro hb
    have e : (acOk a && (a.kind == 3 || a.kind == 4)) = false := hb
    clear hb
    refine awp_skip ?_
    simp only [zz6, Nat.reduceEqDiff, ↓reduceIte]
    refine hK0 _ ?_; try clear hK0 K0
    refine awp_keepL [] ?_
    simp only [zz20, zzI, look_nil, Nat.reduceBEq]
    refine awp_seq fun K0 hK0 => ?_
    refine awp_plain F_mixed [some 2] rfl ?_
    simp only [List.nil_append, List.cons_append, true_and, and_true, zz0, true_implies, Nat.reduceLT, Nat.reduceLeDiff, zzI, look_nil, Nat.reduceBEq, implies_true, evS_assign, zz6, Nat.reduceEqDiff, ↓reduceIte]
    refine hK0 _ ?_; try clear hK0 K0
    refine awp_keepL [2] ?_
    simp only [zz20, zzI, look_nil, Nat.reduceBEq]
    refine awp_ret ?_
    simp only [zz6, Nat.reduceEqDiff, ↓reduceIte]
    refine done0 (by simp only [resCs, resC]; trivial) ?_ (by simp [flatA, flatAs, flatD]) (by simp [AV.ids, AV.idsL])
    simp only [List.map_cons, List.map_nil, resA, S_getD, Nat.reduceLT, Nat.reduceLeDiff, look_cons, Nat.reduceBEq, cond_true, cond_false, resAll]
    simp only [flo, e, cond_false]
theorem rFlo_ (a : AcV) : ACalls Try.prog 34 [.agg (acC a)] [] (.d (iv (flo a))) := by
  refine acalls_S (rs := [.tmp 2]) Try.func34 rfl rfl 15 [(0, .d (.agg (acC a)))] rfl (by simp) rfl ?_
  refine awp_seq fun K0 hK0 => ?_
  refine awp_plain F_mixed [some 1, some 2] rfl ?_
  simp only [List.nil_append, List.cons_append, true_and, and_true, zz0, true_implies, Nat.reduceLT, Nat.reduceLeDiff, zzI, look_nil, Nat.reduceBEq, implies_true, zz35, newRow1, zz1, zzG, zzD, zz16, Option.some.injEq, exists_eq_left', exists_eq_left, Option.map_some, eq_self, reduceCtorEq, and_self, Nat.reduceAdd, Nat.zero_add, zzF, zzB, zzE, evS_assign, acC, zz6, Nat.reduceEqDiff, ↓reduceIte]
  refine hK0 _ ?_; try clear hK0 K0
  refine awp_keepL [1] ?_
  simp only [zz20, zzI, look_nil, Nat.reduceBEq]
  refine awp_seq fun K0 hK0 => ?_
  refine awp_seq fun K1 hK1 => ?_
  refine awp_plain F_mixed [some 3, some 4, some 5, some 6, some 7, some 8, some 9, some 10, some 11, some 12, some 13, some 14] rfl ?_
  simp only [List.nil_append, List.cons_append, true_and, and_true, zz0, true_implies, Nat.reduceLT, Nat.reduceLeDiff, zzI, look_nil, Nat.reduceBEq, implies_true, Nat.reduceSub, S_getD, zz5, and_imp, imp_and, imp_self, and_self, F_ok24, F_ag24, F_sz24, zz8, zz23, zzD, Nat.reduceAdd, Nat.zero_add, zzF, zzB, zzE, zz16, Option.some.injEq, exists_eq_left', exists_eq_left, Option.map_some, eq_self, reduceCtorEq, evS_call, evC_value, evS_move, zz19, F_off24_0, F_ok3, F_ag3, F_sz3, zz21, gr_v, zz34, zz13, pickK_l, pickK_r, acC, D.agg.injEq, zz6, Nat.reduceEqDiff, ↓reduceIte]
  refine call_go F_go19 (fun hG => rAcRight_ a) (by simp [AV.ids, AV.idsL]) (by simp) ?_
  simp only [List.nil_append, List.cons_append, true_and, and_true, zz0, true_implies, Nat.reduceLT, Nat.reduceLeDiff, zzI, look_nil, Nat.reduceBEq, implies_true, Nat.reduceSub, S_getD, zz5, and_imp, imp_and, imp_self, and_self, F_ok24, F_ag24, F_sz24, zz8, zz23, zzD, Nat.reduceAdd, Nat.zero_add, zzF, zzB, zzE, zz16, Option.some.injEq, exists_eq_left', exists_eq_left, Option.map_some, eq_self, reduceCtorEq, evS_call, evC_value, evS_move, zz19, F_off24_0, F_ok3, F_ag3, F_sz3, zz21, gr_v, zz34, zz13, pickK_l, pickK_r, acC, D.agg.injEq, zz6, Nat.reduceEqDiff, ↓reduceIte, atsL, oksG, freeN, AV.ren, AV.renL, addRows, ORow.row, Nat.reduceMul, Nat.reduceAdd, zz9, Option.bind_some, Option.map_some, forall_eq', D.sl.injEq, S_mem, Option.some.injEq, exists_eq_left', exists_eq_left, exists_eq', exists_eq, List.length_cons, zz2]
  refine hK1 _ ?_; try clear hK1 K1
  refine awp_keepL [14] ?_
  simp only [zz20, zzI, look_nil, Nat.reduceBEq]
  refine awp_condS _ (by decide) (by simp only [look_cons, Nat.reduceBEq, cond_true, cond_false]; rfl) ?_ ?_
  · intro hb
    have e : (acOk a && (a.kind == 3 || a.kind == 4)) = true := hb
    clear hb
    refine awp_seq fun K2 hK2 => ?_
    refine awp_plain F_mixed [some 2] rfl ?_
    simp only [List.nil_append, List.cons_append, true_and, and_true, zz0, true_implies, Nat.reduceLT, Nat.reduceLeDiff, zzI, look_nil, Nat.reduceBEq, implies_true, evS_assign, zz6, Nat.reduceEqDiff, ↓reduceIte]
    refine hK2 _ ?_; try clear hK2 K2
    refine awp_keepL [2] ?_
    simp only [zz20, zzI, look_nil, Nat.reduceBEq]
    refine awp_ret ?_
    simp only [zz6, Nat.reduceEqDiff, ↓reduceIte]
    refine done0 (by simp only [resCs, resC]; trivial) ?_ (by simp [flatA, flatAs, flatD]) (by simp [AV.ids, AV.idsL])
    simp only [List.map_cons, List.map_nil, resA, S_getD, Nat.reduceLT, Nat.reduceLeDiff, look_cons, Nat.reduceBEq, cond_true, cond_false, resAll]
    simp only [flo, e, cond_true]
  · intro hb
    have e : (acOk a && (a.kind == 3 || a.kind == 4)) = false := hb
    clear hb
    refine awp_skip ?_
    simp only [zz6, Nat.reduceEqDiff, ↓reduceIte]
    refine hK0 _ ?_; try clear hK0 K0
    refine awp_keepL [] ?_
    simp only [zz20, zzI, look_nil, Nat.reduceBEq]
    refine awp_seq fun K0 hK0 => ?_
    refine awp_plain F_mixed [some 2] rfl ?_
    simp only [List.nil_append, List.cons_append, true_and, and_true, zz0, true_implies, Nat.reduceLT, Nat.reduceLeDiff, zzI, look_nil, Nat.reduceBEq, implies_true, evS_assign, zz6, Nat.reduceEqDiff, ↓reduceIte]
    refine hK0 _ ?_; try clear hK0 K0
    refine awp_keepL [2] ?_
    simp only [zz20, zzI, look_nil, Nat.reduceBEq]
    refine awp_ret ?_
    simp only [zz6, Nat.reduceEqDiff, ↓reduceIte]
    refine done0 (by simp only [resCs, resC]; trivial) ?_ (by simp [flatA, flatAs, flatD]) (by simp [AV.ids, AV.idsL])
    simp only [List.map_cons, List.map_nil, resA, S_getD, Nat.reduceLT, Nat.reduceLeDiff, look_cons, Nat.reduceBEq, cond_true, cond_false, resAll]
    simp only [flo, e, cond_false]
theorem chk1_ (k : Int) : ACalls Try.prog 41 [iv k] [] (bv true) := by
  refine acalls_S (rs := [.tmp 2]) Try.func41 rfl rfl 3 [(0, .d (iv k))] rfl (by simp) rfl ?_
  refine awp_seq fun K0 hK0 => ?_
  refine awp_plain F_mixed [some 2] rfl ?_
  simp only [List.nil_append, List.cons_append, true_and, and_true, zz0, true_implies, Nat.reduceLT, Nat.reduceLeDiff, zzI, look_nil, Nat.reduceBEq, implies_true, evS_assign, zz6, Nat.reduceEqDiff, ↓reduceIte]
  refine hK0 _ ?_; try clear hK0 K0
  refine awp_keepL [] ?_
  simp only [zz20, zzI, look_nil, Nat.reduceBEq]
  refine awp_seq fun K0 hK0 => ?_
  refine awp_plain F_mixed [some 2] rfl ?_
  simp only [List.nil_append, List.cons_append, true_and, and_true, zz0, true_implies, Nat.reduceLT, Nat.reduceLeDiff, zzI, look_nil, Nat.reduceBEq, implies_true, evS_assign, zz6, Nat.reduceEqDiff, ↓reduceIte]
  refine hK0 _ ?_; try clear hK0 K0
  refine awp_keepL [2] ?_
  simp only [zz20, zzI, look_nil, Nat.reduceBEq]
  refine awp_ret ?_
  simp only [zz6, Nat.reduceEqDiff, ↓reduceIte]
  refine done0 (by simp only [resCs, resC]; trivial) ?_ (by simp [flatA, flatAs, flatD]) (by simp [AV.ids, AV.idsL])
  simp only [List.map_cons, List.map_nil, resA, S_getD, Nat.reduceLT, Nat.reduceLeDiff, look_cons, Nat.reduceBEq, cond_true, cond_false, resAll]
  
def idxI (l : List Int) (k : Int) : Int := if l.contains k then ((l.takeWhile fun x => x != k).length : Nat) else -1
theorem idxI_no {l : List Int} {k : Int} (h : l.contains k = false) : idxI l k = -1 := by simp only [idxI, h]; rfl
theorem idxI_hit {pre post : List Int} {k : Int} (h : pre.contains k = false) : idxI (pre ++ k :: post) k = pre.length := by
  have e : (pre ++ k :: post).takeWhile (fun x => x != k) = pre := by
    induction pre with
    | nil => simp [List.takeWhile]
    | cons y pre ih =>
      simp only [List.contains_cons, Bool.or_eq_false_iff] at h
      have hy : (y != k) = true := by
        have := h.1
        simp only [beq_eq_false_iff_ne, ne_eq] at this
        simp only [bne_iff_ne, ne_eq]
        exact fun e => this e.symm
      simp [List.takeWhile, hy, ih h.2]
  simp only [idxI, e]
  simp
theorem idxI_has {l : List Int} {k : Int} : decide (idxI l k ≥ 0) = l.contains k := by
  cases h : l.contains k with
  | false => rw [idxI_no h]; rfl
  | true => simp only [idxI, h]; exact decide_eq_true (by simp)
theorem Index_ (l : List Int) (k : Int) (hl : l.length ≤ 1000000) : ACalls Try.prog 58 [ints l, iv k] [] (.d (iv (idxI l k))) := by
  refine acalls_S (rs := [.tmp 4]) Try.func58 rfl rfl 19 [(0, .d (ints l)), (1, .d (iv k))] rfl (by simp) rfl ?_
  refine awp_seq fun K0 hK0 => ?_
  refine awp_plain F_mixed [some 4] rfl ?_
  simp only [List.nil_append, List.cons_append, true_and, and_true, zz0, true_implies, Nat.reduceLT, Nat.reduceLeDiff, zzI, look_nil, Nat.reduceBEq, implies_true, evS_assign, zz6, Nat.reduceEqDiff, ↓reduceIte]
  refine hK0 _ ?_; try clear hK0 K0
  refine awp_keepL [0, 1] ?_
  simp only [zz20, zzI, look_nil, Nat.reduceBEq]
  refine awp_seq fun K0 hK0 => ?_
  refine awp_seq fun K1 hK1 => ?_
  refine awp_plain F_mixed [some 6, some 7, some 8] rfl ?_
  simp only [List.nil_append, List.cons_append, true_and, and_true, zz0, true_implies, Nat.reduceLT, Nat.reduceLeDiff, zzI, look_nil, Nat.reduceBEq, implies_true, evS_move, evS_call, zz12, F_sl50, Option.isSome_some, ints, len_map, zz6, Nat.reduceEqDiff, ↓reduceIte]
  refine hK1 _ ?_; try clear hK1 K1
  refine awp_keepL [0, 1, 7, 8] ?_
  simp only [zz20, zzI, look_nil, Nat.reduceBEq]
  refine awp_block ?_
  refine awp_loop (fun m s => ∃ pre post : List Int, l = pre ++ post ∧ pre.contains k = false ∧ m = post.length ∧ s = S 19 [(0, .d (ints l)), (1, .d (iv k)), (7, .d (iv l.length)), (8, .d (iv pre.length))] []) l.length _ (le_SK id [] rfl (l' := [(0, .d (ints l)), (1, .d (iv k)), (7, .d (iv l.length)), (8, .d (iv ([] : List Int).length))]) (m' := []) ?_ ?_ ?_ ?_) ⟨[], l, rfl, rfl, rfl, rfl⟩ ?_
  · simp only [leV, look_cons, Nat.reduceBEq, cond_true, cond_false, ints, len_map]; exact ⟨VLe.refl _, VLe.refl _, VLe.refl _, VLe.refl _, trivial⟩
  · exact trivial
  · simp [wfV, AV.ids, AV.idsL, lookR]
  · simp [wfR, AV.idsL, AV.ids]
  rintro m s ⟨pre, post, rfl, hp, rfl, rfl⟩
  refine awp_seq fun K2 hK2 => ?_
  refine awp_plain F_mixed [some 9] rfl ?_
  simp only [List.nil_append, List.cons_append, true_and, and_true, zz0, true_implies, Nat.reduceLT, Nat.reduceLeDiff, zzI, look_nil, Nat.reduceBEq, implies_true, zz21, gr_v, zz22, zz6, Nat.reduceEqDiff, ↓reduceIte]
  refine hK2 _ ?_; try clear hK2 K2
  refine awp_keepL [0, 1, 7, 8, 9] ?_
  simp only [zz20, zzI, look_nil, Nat.reduceBEq]
  refine awp_seq fun K2 hK2 => ?_
  refine awp_condS _ (by decide) (by simp only [look_cons, Nat.reduceBEq, cond_true, cond_false]; rfl) ?_ ?_
  · intro hb
    obtain ⟨x, post, rfl⟩ := more_of hb; clear hb
    refine awp_skip ?_
    simp only [zz6, Nat.reduceEqDiff, ↓reduceIte]
    refine hK2 _ ?_; try clear hK2 K2
    refine awp_keepL [0, 1, 7, 8] ?_
    simp only [zz20, zzI, look_nil, Nat.reduceBEq]
    refine awp_seq fun K2 hK2 => ?_
    refine awp_block ?_
    refine awp_seq fun K3 hK3 => ?_
    refine awp_plain F_mixed [some 10, some 5] rfl ?_
    simp only [List.nil_append, List.cons_append, true_and, and_true, zz0, true_implies, Nat.reduceLT, Nat.reduceLeDiff, zzI, look_nil, Nat.reduceBEq, implies_true, evS_move, evS_assign, zz6, Nat.reduceEqDiff, ↓reduceIte]
    refine hK3 _ ?_; try clear hK3 K3
    refine awp_keepL [0, 1, 5, 7, 8] ?_
    simp only [zz20, zzI, look_nil, Nat.reduceBEq]
    refine awp_seq fun K3 hK3 => ?_
    refine awp_plain F_mixed [some 11, some 12, some 13, some 14, some 15, some 16] rfl ?_
    simp only [List.nil_append, List.cons_append, true_and, and_true, zz0, true_implies, Nat.reduceLT, Nat.reduceLeDiff, zzI, look_nil, Nat.reduceBEq, implies_true, evS_move, evS_indexAddr, zz23, zz24, F_sl50, F_sz3, Option.map_some, zz16, Option.some.injEq, exists_eq_left', exists_eq_left, eq_self, reduceCtorEq, and_self, F_ok3, F_ag3, zz8, zzD, Nat.reduceAdd, Nat.zero_add, zzF, zzB, zzE, zz21, gr_v, zz34, ints, getD_mid, len_map, lt_mid, ge_mid, zzG, zz6, Nat.reduceEqDiff, ↓reduceIte]
    refine hK3 _ ?_; try clear hK3 K3
    refine awp_keepL [0, 1, 5, 7, 8, 16] ?_
    simp only [zz20, zzI, look_nil, Nat.reduceBEq]
    refine awp_condS _ (by decide) (by simp only [look_cons, Nat.reduceBEq, cond_true, cond_false]; rfl) ?_ ?_
    · intro hb
      have hq : k = x := by simpa using hb
      clear hb
      subst hq
      refine awp_seq fun K4 hK4 => ?_
      refine awp_plain F_mixed [some 17, some 4] rfl ?_
      simp only [List.nil_append, List.cons_append, true_and, and_true, zz0, true_implies, Nat.reduceLT, Nat.reduceLeDiff, zzI, look_nil, Nat.reduceBEq, implies_true, evS_move, evS_assign, zz6, Nat.reduceEqDiff, ↓reduceIte]
      refine hK4 _ ?_; try clear hK4 K4
      refine awp_keepL [4] ?_
      simp only [zz20, zzI, look_nil, Nat.reduceBEq]
      refine awp_ret ?_
      simp only [zz6, Nat.reduceEqDiff, ↓reduceIte]
      refine done0 (by simp only [resCs, resC]; trivial) ?_ (by simp [flatA, flatAs, flatD]) (by simp [AV.ids, AV.idsL])
      simp only [List.map_cons, List.map_nil, resA, S_getD, Nat.reduceLT, Nat.reduceLeDiff, look_cons, Nat.reduceBEq, cond_true, cond_false, resAll]
      rw [idxI_hit hp]
    · intro hb
      have hq : ¬ k = x := by simpa using hb
      clear hb
      refine awp_skip ?_
      simp only [zz6, Nat.reduceEqDiff, ↓reduceIte]
      refine hK2 _ ?_; try clear hK2 K2
      refine awp_keepL [0, 1, 7, 8] ?_
      simp only [zz20, zzI, look_nil, Nat.reduceBEq]
      refine awp_plain F_mixed [some 18, some 8] rfl ?_
      simp only [List.nil_append, List.cons_append, true_and, and_true, zz0, true_implies, Nat.reduceLT, Nat.reduceLeDiff, zzI, look_nil, Nat.reduceBEq, implies_true, zz21, gr_v, zz26, evS_move, zz6, Nat.reduceEqDiff, ↓reduceIte]
      refine ⟨post.length, _, by simp, le_SK id [] rfl (l' := [(0, .d (ints (pre ++ x :: post))), (1, .d (iv k)), (7, .d (iv (pre ++ x :: post).length)), (8, .d (iv (pre ++ [x]).length))]) (m' := []) ?_ ?_ ?_ ?_, pre ++ [x], post, by simp, by rw [List.contains_append, hp]; simp [hq], rfl, rfl⟩
      · simp only [leV, look_cons, Nat.reduceBEq, cond_true, cond_false, ints, len_map, wrap_len pre x (by simp at hl; omega)]; exact ⟨VLe.refl _, VLe.refl _, VLe.refl _, VLe.refl _, trivial⟩
      · exact trivial
      · simp [wfV, AV.ids, AV.idsL, lookR]
      · simp [wfR, AV.idsL, AV.ids]
  · intro hb
    obtain rfl := none_of hb; clear hb
    refine awp_exit ?_
    simp only [zz6, Nat.reduceEqDiff, ↓reduceIte]
    refine hK0 _ ?_; try clear hK0 K0
    refine awp_keepL [] ?_
    simp only [zz20, zzI, look_nil, Nat.reduceBEq]
    refine awp_seq fun K0 hK0 => ?_
    refine awp_plain F_mixed [some 4] rfl ?_
    simp only [List.nil_append, List.cons_append, true_and, and_true, zz0, true_implies, Nat.reduceLT, Nat.reduceLeDiff, zzI, look_nil, Nat.reduceBEq, implies_true, evS_assign, zz6, Nat.reduceEqDiff, ↓reduceIte]
    refine hK0 _ ?_; try clear hK0 K0
    refine awp_keepL [4] ?_
    simp only [zz20, zzI, look_nil, Nat.reduceBEq]
    refine awp_ret ?_
    simp only [zz6, Nat.reduceEqDiff, ↓reduceIte]
    refine done0 (by simp only [resCs, resC]; trivial) ?_ (by simp [flatA, flatAs, flatD]) (by simp [AV.ids, AV.idsL])
    simp only [List.map_cons, List.map_nil, resA, S_getD, Nat.reduceLT, Nat.reduceLeDiff, look_cons, Nat.reduceBEq, cond_true, cond_false, resAll]
    rw [List.append_nil, idxI_no hp]
theorem Contains_ (l : List Int) (k : Int) (h : l.length ≤ 1000000) : ACalls Try.prog 47 [ints l, iv k] [] (bv (l.contains k)) := by
  refine acalls_S (rs := [.tmp 4]) Try.func47 rfl rfl 9 [(0, .d (ints l)), (1, .d (iv k))] rfl (by simp) rfl ?_
  refine awp_seq fun K0 hK0 => ?_
  refine awp_plain F_mixed [some 4] rfl ?_
  simp only [List.nil_append, List.cons_append, true_and, and_true, zz0, true_implies, Nat.reduceLT, Nat.reduceLeDiff, zzI, look_nil, Nat.reduceBEq, implies_true, evS_assign, zz6, Nat.reduceEqDiff, ↓reduceIte]
  refine hK0 _ ?_; try clear hK0 K0
  refine awp_keepL [0, 1] ?_
  simp only [zz20, zzI, look_nil, Nat.reduceBEq]
  refine awp_seq fun K0 hK0 => ?_
  refine awp_plain F_mixed [some 5, some 6, some 7, some 8, some 4] rfl ?_
  simp only [List.nil_append, List.cons_append, true_and, and_true, zz0, true_implies, Nat.reduceLT, Nat.reduceLeDiff, zzI, look_nil, Nat.reduceBEq, implies_true, evS_move, evS_call, evC_value, zz21, gr_v, zz31, evS_assign, zz6, Nat.reduceEqDiff, ↓reduceIte]
  refine call_go F_go58 (fun hG => Index_ l k h) (by simp [AV.ids, AV.idsL]) (by simp) ?_
  simp only [List.nil_append, List.cons_append, true_and, and_true, zz0, true_implies, Nat.reduceLT, Nat.reduceLeDiff, zzI, look_nil, Nat.reduceBEq, implies_true, evS_move, evS_call, evC_value, zz21, gr_v, zz31, evS_assign, zz6, Nat.reduceEqDiff, ↓reduceIte, atsL, oksG, freeN, AV.ren, AV.renL, addRows, ORow.row, Nat.reduceMul, Nat.reduceAdd, zz9, Option.bind_some, Option.map_some, forall_eq', D.sl.injEq, zz16, Option.some.injEq, exists_eq_left', exists_eq_left, exists_eq', exists_eq, zzD, zz2]
  refine hK0 _ ?_; try clear hK0 K0
  refine awp_keepL [4] ?_
  simp only [zz20, zzI, look_nil, Nat.reduceBEq]
  refine awp_ret ?_
  simp only [zz6, Nat.reduceEqDiff, ↓reduceIte]
  refine done0 (by simp only [resCs, resC]; trivial) ?_ (by simp [flatA, flatAs, flatD]) (by simp [AV.ids, AV.idsL])
  simp only [List.map_cons, List.map_nil, resA, S_getD, Nat.reduceLT, Nat.reduceLeDiff, look_cons, Nat.reduceBEq, cond_true, cond_false, resAll]
  rw [idxI_has]
theorem tot1_ (k : Int) (ks : List Int) (h : ks.length ≤ 1000000) : ACalls Try.prog 46 [iv k, .pt [ints ks]] [] (bv (ks.contains k)) := by
  refine acalls_S (rs := [.tmp 3]) Try.func46 rfl rfl 7 [(0, .d (iv k)), (1, .d (.pt [ints ks]))] rfl (by simp) rfl ?_
  refine awp_seq fun K0 hK0 => ?_
  refine awp_plain F_mixed [some 3] rfl ?_
  simp only [List.nil_append, List.cons_append, true_and, and_true, zz0, true_implies, Nat.reduceLT, Nat.reduceLeDiff, zzI, look_nil, Nat.reduceBEq, implies_true, evS_assign, zz6, Nat.reduceEqDiff, ↓reduceIte]
  refine hK0 _ ?_; try clear hK0 K0
  refine awp_keepL [0, 1] ?_
  simp only [zz20, zzI, look_nil, Nat.reduceBEq]
  refine awp_seq fun K0 hK0 => ?_
  refine awp_plain F_mixed [some 4, some 5, some 6, some 3] rfl ?_
  simp only [List.nil_append, List.cons_append, true_and, and_true, zz0, true_implies, Nat.reduceLT, Nat.reduceLeDiff, zzI, look_nil, Nat.reduceBEq, implies_true, F_ok50, F_ag50, F_sz50, zz8, zz23, zzD, Nat.reduceAdd, Nat.zero_add, zzF, zzB, zzE, zz16, Option.some.injEq, exists_eq_left', exists_eq_left, Option.map_some, eq_self, reduceCtorEq, and_self, evS_move, evS_call, evC_value, evS_assign, evLd_pt_one, List.length_cons, List.getD_cons_zero, zz6, Nat.reduceEqDiff, ↓reduceIte]
  refine call_go F_go47 (fun hG => Contains_ ks k h) (by simp [AV.ids, AV.idsL]) (by simp) ?_
  simp only [List.nil_append, List.cons_append, true_and, and_true, zz0, true_implies, Nat.reduceLT, Nat.reduceLeDiff, zzI, look_nil, Nat.reduceBEq, implies_true, F_ok50, F_ag50, F_sz50, zz8, zz23, zzD, Nat.reduceAdd, Nat.zero_add, zzF, zzB, zzE, zz16, Option.some.injEq, exists_eq_left', exists_eq_left, Option.map_some, eq_self, reduceCtorEq, and_self, evS_move, evS_call, evC_value, evS_assign, evLd_pt_one, List.length_cons, List.getD_cons_zero, zz6, Nat.reduceEqDiff, ↓reduceIte, atsL, oksG, freeN, AV.ren, AV.renL, addRows, ORow.row, Nat.reduceMul, Nat.reduceAdd, zz9, Option.bind_some, Option.map_some, forall_eq', D.sl.injEq, S_mem, Option.some.injEq, exists_eq_left', exists_eq_left, exists_eq', exists_eq, List.length_cons, zz2]
  refine hK0 _ ?_; try clear hK0 K0
  refine awp_keepL [3] ?_
  simp only [zz20, zzI, look_nil, Nat.reduceBEq]
  refine awp_ret ?_
  simp only [zz6, Nat.reduceEqDiff, ↓reduceIte]
  refine done0 (by simp only [resCs, resC]; trivial) ?_ (by simp [flatA, flatAs, flatD]) (by simp [AV.ids, AV.idsL])
  simp only [List.map_cons, List.map_nil, resA, S_getD, Nat.reduceLT, Nat.reduceLeDiff, look_cons, Nat.reduceBEq, cond_true, cond_false, resAll]
  
theorem sumsA_ (nx : Int) (l : List LegV) (c : Int) (hl : l.length ≤ 500000) : ACalls Try.prog 40 [.agg (ledC ⟨nx, l⟩), iv c, fnD 41] [⟨3, 1, (sumsL c (fun _ => true) l).map fun n => [iv n]⟩] (.ref 0 (sumsL c (fun _ => true) l).length) := by
  refine acalls_S (rs := [.tmp 6]) Try.func40 rfl rfl 36 [(0, .d (.agg (ledC ⟨nx, l⟩))), (1, .d (iv c)), (2, .d (fnD 41))] rfl (by simp) rfl ?_
  refine awp_seq fun K0 hK0 => ?_
  refine awp_plain F_mixed [some 3, some 6] rfl ?_
  simp only [List.nil_append, List.cons_append, true_and, and_true, zz0, true_implies, Nat.reduceLT, Nat.reduceLeDiff, zzI, look_nil, Nat.reduceBEq, implies_true, zz35, newRow1, zz1, zzG, zzD, zz16, Option.some.injEq, exists_eq_left', exists_eq_left, Option.map_some, eq_self, reduceCtorEq, and_self, Nat.reduceAdd, Nat.zero_add, zzF, zzB, zzE, evS_assign, ledC, legs, zz6, Nat.reduceEqDiff, ↓reduceIte]
  refine hK0 _ ?_; try clear hK0 K0
  refine awp_keepL [1, 2, 3] ?_
  simp only [zz20, zzI, look_nil, Nat.reduceBEq]
  refine awp_seq fun K0 hK0 => ?_
  refine awp_plain F_mixed [some 7] rfl ?_
  simp only [List.nil_append, List.cons_append, true_and, and_true, zz0, true_implies, Nat.reduceLT, Nat.reduceLeDiff, zzI, look_nil, Nat.reduceBEq, implies_true, evS_assign, zz6, Nat.reduceEqDiff, ↓reduceIte]
  refine hK0 _ ?_; try clear hK0 K0
  refine awp_keepL [1, 2, 3, 7] ?_
  simp only [zz20, zzI, look_nil, Nat.reduceBEq]
  refine awp_seq fun K0 hK0 => ?_
  refine awp_seq fun K1 hK1 => ?_
  refine awp_plain F_mixed [some 10, some 11, some 12, some 13] rfl ?_
  simp only [List.nil_append, List.cons_append, true_and, and_true, zz0, true_implies, Nat.reduceLT, Nat.reduceLeDiff, zzI, look_nil, Nat.reduceBEq, implies_true, zz19, zz23, F_off28_1, zzB, Nat.zero_add, Nat.reduceAdd, F_ok26, F_ag26, F_sz26, zz8, zzD, zzF, zzE, zz16, Option.some.injEq, exists_eq_left', exists_eq_left, Option.map_some, eq_self, reduceCtorEq, and_self, evS_call, zz12, F_sl26, Option.isSome_some, evS_move, legs, len_map, zz6, Nat.reduceEqDiff, ↓reduceIte]
  refine hK1 _ ?_; try clear hK1 K1
  refine awp_keepL [1, 2, 7, 11, 12, 13] ?_
  simp only [zz20, zzI, look_nil, Nat.reduceBEq]
  refine awp_block ?_
  refine awp_loop (fun m s => ∃ pre post : List LegV, l = pre ++ post ∧ m = post.length ∧ s = S 36 [(1, .d (iv c)), (2, .d (fnD 41)), (7, .ref 7 (sumsL c (fun _ => true) pre).length), (11, .d (legs (pre ++ post))), (12, .d (iv (pre ++ post).length)), (13, .d (iv pre.length))] [(7, grow 3 1 7 ((sumsL c (fun _ => true) pre).map fun n => [iv n]))]) l.length _ (le_SK id [7] rfl (l' := [(1, .d (iv c)), (2, .d (fnD 41)), (7, .ref 7 (sumsL c (fun _ => true) ([] : List LegV)).length), (11, .d (legs (([] : List LegV) ++ l))), (12, .d (iv (([] : List LegV) ++ l).length)), (13, .d (iv ([] : List LegV).length))]) (m' := [(7, grow 3 1 7 ((sumsL c (fun _ => true) ([] : List LegV)).map fun n => [iv n]))]) ?_ ?_ ?_ ?_) ⟨[], l, rfl, rfl, rfl⟩ ?_
  · simp only [leV, look_cons, Nat.reduceBEq, cond_true, cond_false, legs, len_map, List.nil_append]; exact ⟨VLe.still rfl, VLe.still rfl, VLe.nil_ (by decide), VLe.still rfl, VLe.still rfl, VLe.still rfl, trivial⟩
  · exact ⟨fun h => by simp at h, fun _ => rfl, trivial⟩
  · simp [wfV, AV.ids, lookR]
  · simp [wfR, grow, sumsL, amts]
  rintro m s ⟨pre, post, hsp, rfl, rfl⟩
  have hql := sumsL_len c (fun _ => true) pre
  refine awp_seq fun K2 hK2 => ?_
  refine awp_plain F_mixed [some 14] rfl ?_
  simp only [List.nil_append, List.cons_append, true_and, and_true, zz0, true_implies, Nat.reduceLT, Nat.reduceLeDiff, zzI, look_nil, Nat.reduceBEq, implies_true, zz21, gr_v, zz22, zz6, Nat.reduceEqDiff, ↓reduceIte]
  refine hK2 _ ?_; try clear hK2 K2
  refine awp_keepL [1, 2, 7, 11, 12, 13, 14] ?_
  simp only [zz20, zzI, look_nil, Nat.reduceBEq]
  refine awp_seq fun K2 hK2 => ?_
  refine awp_condS _ (by decide) (by simp only [look_cons, Nat.reduceBEq, cond_true, cond_false]; rfl) ?_ ?_
  · intro hb
    obtain ⟨x, post, rfl⟩ := more_of hb; clear hb
    refine awp_skip ?_
    simp only [zz6, Nat.reduceEqDiff, ↓reduceIte]
    refine hK2 _ ?_; try clear hK2 K2
    refine awp_keepL [1, 2, 7, 11, 12, 13] ?_
    simp only [zz20, zzI, look_nil, Nat.reduceBEq]
    refine awp_seq fun K2 hK2 => ?_
    refine awp_block ?_
    refine awp_seq fun K3 hK3 => ?_
    refine awp_plain F_mixed [some 15, some 16, some 9, none] rfl ?_
    simp only [List.nil_append, List.cons_append, true_and, and_true, zz0, true_implies, Nat.reduceLT, Nat.reduceLeDiff, zzI, look_nil, Nat.reduceBEq, implies_true, evS_indexAddr, zz23, zz24, F_sl26, F_sz65, Option.map_some, zz16, Option.some.injEq, exists_eq_left', exists_eq_left, eq_self, reduceCtorEq, and_self, F_ok65, F_ag65, zz8, zzD, Nat.reduceAdd, Nat.zero_add, zzF, zzB, zzE, zz32, newRow1, F_zero65, zz10, zz18, splice, List.append_nil, zz1, zzG, legs, legC, getD_mid, len_map, lt_mid, ge_mid, D.agg.injEq, zz6, Nat.reduceEqDiff, ↓reduceIte]
    refine hK3 _ ?_; try clear hK3 K3
    refine awp_keepL [1, 2, 7, 9, 11, 12, 13] ?_
    simp only [zz20, zzI, look_nil, Nat.reduceBEq]
    refine awp_seq fun K3 hK3 => ?_
    refine awp_plain F_mixed [some 17, some 18, some 19, some 20, some 21, some 22, some 23, some 24, some 25, some 26, some 27, some 28] rfl ?_
    simp only [List.nil_append, List.cons_append, true_and, and_true, zz0, true_implies, Nat.reduceLT, Nat.reduceLeDiff, zzI, look_nil, Nat.reduceBEq, implies_true, Nat.reduceSub, S_getD, zz5, and_imp, imp_and, imp_self, and_self, zz19, zz23, F_off65_0, zzB, Nat.zero_add, Nat.reduceAdd, F_off24_2, F_ok3, F_ag3, F_sz3, zz8, zzD, zzF, zzE, zz16, Option.some.injEq, exists_eq_left', exists_eq_left, Option.map_some, eq_self, reduceCtorEq, evS_move, zz21, gr_v, zz34, F_off24_0, evS_call, evC_value, zz13, pickK_l, pickK_r, legC, D.agg.injEq, fnD, zz6, Nat.reduceEqDiff, ↓reduceIte]
    refine call_goT ?_ ?_ F_go41 (fun hG => chk1_ x.ac.kind) (by simp [AV.ids, AV.idsL]) (by simp) ?_
    · decide
    · simp only [look_cons, Nat.reduceBEq, cond_true, cond_false, bare_d, bare_wh, fnD]
    simp only [List.nil_append, List.cons_append, true_and, and_true, zz0, true_implies, Nat.reduceLT, Nat.reduceLeDiff, zzI, look_nil, Nat.reduceBEq, implies_true, Nat.reduceSub, S_getD, zz5, and_imp, imp_and, imp_self, and_self, zz19, zz23, F_off65_0, zzB, Nat.zero_add, Nat.reduceAdd, F_off24_2, F_ok3, F_ag3, F_sz3, zz8, zzD, zzF, zzE, zz16, Option.some.injEq, exists_eq_left', exists_eq_left, Option.map_some, eq_self, reduceCtorEq, evS_move, zz21, gr_v, zz34, F_off24_0, evS_call, evC_value, zz13, pickK_l, pickK_r, legC, D.agg.injEq, fnD, zz6, Nat.reduceEqDiff, ↓reduceIte, Nat.reduceSub, S_getD, Gp_some, and_imp, imp_and, imp_self, and_self, atsL, oksG, freeN, AV.ren, AV.renL, addRows, ORow.row, Nat.reduceMul, Nat.reduceAdd, zz9, Option.bind_some, Option.map_some, forall_eq', D.sl.injEq, S_mem, Option.some.injEq, exists_eq_left', exists_eq_left, exists_eq', exists_eq, List.length_cons, zz2]
    refine hK3 _ ?_; try clear hK3 K3
    refine awp_keepL [1, 2, 7, 9, 11, 12, 13, 28] ?_
    simp only [zz20, zzI, look_nil, Nat.reduceBEq]
    refine awp_condS _ (by decide) (by simp only [look_cons, Nat.reduceBEq, cond_true, cond_false]; rfl) ?_ ?_
    · intro hb
      have hs : (x.ac.cur == c && (fun _ => true) x.ac.kind) = true := by first | exact hb | simpa using hb
      clear hb
      refine awp_plain F_mixed [some 29, some 30, some 31, some 32, some 33, some 7] rfl ?_
      simp only [List.nil_append, List.cons_append, true_and, and_true, zz0, true_implies, Nat.reduceLT, Nat.reduceLeDiff, zzI, look_nil, Nat.reduceBEq, implies_true, evS_move, zz19, zz23, F_off65_1, zzB, Nat.zero_add, Nat.reduceAdd, F_ok3, F_ag3, F_sz3, zz8, zzD, zzF, zzE, zz16, Option.some.injEq, exists_eq_left', exists_eq_left, Option.map_some, eq_self, reduceCtorEq, and_self, F_sl50, F_zero3, zz3, newRow1, zz1, zzG, maxLen_le, Nat.reduceMul, evS_call, F_by3, zz4, zz9, Option.bind_some, evS_assign, grow, unDs_map, zz6, Nat.reduceEqDiff, ↓reduceIte]
      have hm : (sumsL c (fun _ => true) pre).length + 1 ≤ 1000000 := by have e := congrArg List.length hsp; simp only [List.length_append, List.length_cons] at e; omega
      first | refine ⟨le_maxLen hm, by omega, ?_⟩ | refine ⟨by simp, le_maxLen hm, by omega, ?_⟩
      clear hm
      refine hK2 _ ?_; try clear hK2 K2
      refine awp_keepL [1, 2, 7, 11, 12, 13] ?_
      simp only [zz20, zzI, look_nil, Nat.reduceBEq]
      refine awp_plain F_mixed [some 34, some 13] rfl ?_
      simp only [List.nil_append, List.cons_append, true_and, and_true, zz0, true_implies, Nat.reduceLT, Nat.reduceLeDiff, zzI, look_nil, Nat.reduceBEq, implies_true, zz21, gr_v, zz26, evS_move, zz6, Nat.reduceEqDiff, ↓reduceIte]
      refine ⟨post.length, _, by simp, le_SK (fun r => bif r == 7 then 33 else r) [] rfl (l' := [(1, .d (iv c)), (2, .d (fnD 41)), (7, .ref 7 (sumsL c (fun _ => true) (pre ++ [x])).length), (11, .d (legs ((pre ++ [x]) ++ post))), (12, .d (iv ((pre ++ [x]) ++ post).length)), (13, .d (iv (pre ++ [x]).length))]) (m' := [(7, grow 3 1 7 ((sumsL c (fun _ => true) (pre ++ [x])).map fun n => [iv n]))]) ?_ ?_ ?_ ?_, pre ++ [x], post, by simp [hsp], rfl, rfl⟩
      · simp only [leV, look_cons, Nat.reduceBEq, cond_true, cond_false, legs, len_map, List.append_assoc, List.singleton_append, wrap_len pre x (by have e := congrArg List.length hsp; simp only [List.length_append, List.length_cons, List.length_map] at e; omega)]
        refine ⟨VLe.still rfl, VLe.still rfl, ?_, VLe.still rfl, VLe.still rfl, VLe.still rfl, trivial⟩
        rw [sumsL_yes hs]
        rw [show (AV.ref 33 _ : AV) = .ref ((fun r => bif r == 7 then 33 else r) 7) (sumsL c (fun _ => true) pre ++ [x.amt]).length from by simp]; try exact VLe.ref_ (f := (fun r => bif r == 7 then 33 else r)) (r := 7) (by simp)
      · exact ⟨fun _ => ⟨_, rfl, RowLe.data_ (by rw [sumsL_yes hs] <;> first | rfl | simp only [List.map_append, List.map_cons, List.map_nil] | simp)⟩, fun h => by simp at h, trivial⟩
      · simp [wfV, AV.ids, lookR, grow]
      · exact ⟨wf_data _ _, trivial⟩
    · intro hb
      have hs : (x.ac.cur == c && (fun _ => true) x.ac.kind) = false := by first | exact hb | simpa using hb
      clear hb
      refine awp_skip ?_
      simp only [zz6, Nat.reduceEqDiff, ↓reduceIte]
      refine hK2 _ ?_; try clear hK2 K2
      refine awp_keepL [1, 2, 7, 11, 12, 13] ?_
      simp only [zz20, zzI, look_nil, Nat.reduceBEq]
      refine awp_plain F_mixed [some 34, some 13] rfl ?_
      simp only [List.nil_append, List.cons_append, true_and, and_true, zz0, true_implies, Nat.reduceLT, Nat.reduceLeDiff, zzI, look_nil, Nat.reduceBEq, implies_true, zz21, gr_v, zz26, evS_move, zz6, Nat.reduceEqDiff, ↓reduceIte]
      refine ⟨post.length, _, by simp, le_SK (fun r => bif r == 7 then 7 else r) [] rfl (l' := [(1, .d (iv c)), (2, .d (fnD 41)), (7, .ref 7 (sumsL c (fun _ => true) (pre ++ [x])).length), (11, .d (legs ((pre ++ [x]) ++ post))), (12, .d (iv ((pre ++ [x]) ++ post).length)), (13, .d (iv (pre ++ [x]).length))]) (m' := [(7, grow 3 1 7 ((sumsL c (fun _ => true) (pre ++ [x])).map fun n => [iv n]))]) ?_ ?_ ?_ ?_, pre ++ [x], post, by simp [hsp], rfl, rfl⟩
      · simp only [leV, look_cons, Nat.reduceBEq, cond_true, cond_false, legs, len_map, List.append_assoc, List.singleton_append, wrap_len pre x (by have e := congrArg List.length hsp; simp only [List.length_append, List.length_cons, List.length_map] at e; omega)]
        refine ⟨VLe.still rfl, VLe.still rfl, ?_, VLe.still rfl, VLe.still rfl, VLe.still rfl, trivial⟩
        rw [sumsL_no hs]
        rw [show (AV.ref 7 _ : AV) = .ref ((fun r => bif r == 7 then 7 else r) 7) (sumsL c (fun _ => true) pre).length from by simp]; try exact VLe.ref_ (f := (fun r => bif r == 7 then 7 else r)) (r := 7) (by simp)
      · exact ⟨fun _ => ⟨_, rfl, RowLe.data_ (by rw [sumsL_no hs] <;> first | rfl | simp only [List.map_append, List.map_cons, List.map_nil] | simp)⟩, fun h => by simp at h, trivial⟩
      · simp [wfV, AV.ids, lookR, grow]
      · exact ⟨wf_data _ _, trivial⟩
  · intro hb
    obtain rfl := none_of hb; clear hb
    simp only [List.append_nil] at hsp ⊢
    obtain rfl : l = pre := hsp
    refine awp_exit ?_
    simp only [zz6, Nat.reduceEqDiff, ↓reduceIte]
    refine hK0 _ ?_; try clear hK0 K0
    refine awp_keepL [7] ?_
    simp only [zz20, zzI, look_nil, Nat.reduceBEq]
    refine awp_seq fun K0 hK0 => ?_
    refine awp_plain F_mixed [some 35, some 6] rfl ?_
    simp only [List.nil_append, List.cons_append, true_and, and_true, zz0, true_implies, Nat.reduceLT, Nat.reduceLeDiff, zzI, look_nil, Nat.reduceBEq, implies_true, evS_move, evS_assign, zz6, Nat.reduceEqDiff, ↓reduceIte]
    refine hK0 _ ?_; try clear hK0 K0
    refine awp_keepL [6] ?_
    simp only [zz20, zzI, look_nil, Nat.reduceBEq]
    refine awp_ret ?_
    simp only [zz6, Nat.reduceEqDiff, ↓reduceIte]
    refine done1 7 (by simp only [resCs, resC]; trivial) ?_ (by simp [flatA, flatAs, flatD]) (by simp [AV.ids, AV.idsL]) (by rfl) trivial rfl rfl ?_ (by simp [flatDs, flatD])
    · simp only [List.map_cons, List.map_nil, resA, S_getD, Nat.reduceLT, Nat.reduceLeDiff, look_cons, Nat.reduceBEq, cond_true, cond_false, resAll]; rfl
    · rfl
theorem sumsK_ (nx : Int) (l : List LegV) (c : Int) (ks : List Int) (hl : l.length ≤ 500000) (hk : ks.length ≤ 1000000) : ACalls Try.prog 40 [.agg (ledC ⟨nx, l⟩), iv c, .fn 46 [.pt [ints ks]]] [⟨3, 1, (sumsL c (fun k => ks.contains k) l).map fun n => [iv n]⟩] (.ref 0 (sumsL c (fun k => ks.contains k) l).length) := by
  refine acalls_S (rs := [.tmp 6]) Try.func40 rfl rfl 36 [(0, .d (.agg (ledC ⟨nx, l⟩))), (1, .d (iv c)), (2, .d (.fn 46 [.pt [ints ks]]))] rfl (by simp) rfl ?_
  refine awp_seq fun K0 hK0 => ?_
  refine awp_plain F_mixed [some 3, some 6] rfl ?_
  simp only [List.nil_append, List.cons_append, true_and, and_true, zz0, true_implies, Nat.reduceLT, Nat.reduceLeDiff, zzI, look_nil, Nat.reduceBEq, implies_true, zz35, newRow1, zz1, zzG, zzD, zz16, Option.some.injEq, exists_eq_left', exists_eq_left, Option.map_some, eq_self, reduceCtorEq, and_self, Nat.reduceAdd, Nat.zero_add, zzF, zzB, zzE, evS_assign, ledC, legs, zz6, Nat.reduceEqDiff, ↓reduceIte]
  refine hK0 _ ?_; try clear hK0 K0
  refine awp_keepL [1, 2, 3] ?_
  simp only [zz20, zzI, look_nil, Nat.reduceBEq]
  refine awp_seq fun K0 hK0 => ?_
  refine awp_plain F_mixed [some 7] rfl ?_
  simp only [List.nil_append, List.cons_append, true_and, and_true, zz0, true_implies, Nat.reduceLT, Nat.reduceLeDiff, zzI, look_nil, Nat.reduceBEq, implies_true, evS_assign, zz6, Nat.reduceEqDiff, ↓reduceIte]
  refine hK0 _ ?_; try clear hK0 K0
  refine awp_keepL [1, 2, 3, 7] ?_
  simp only [zz20, zzI, look_nil, Nat.reduceBEq]
  refine awp_seq fun K0 hK0 => ?_
  refine awp_seq fun K1 hK1 => ?_
  refine awp_plain F_mixed [some 10, some 11, some 12, some 13] rfl ?_
  simp only [List.nil_append, List.cons_append, true_and, and_true, zz0, true_implies, Nat.reduceLT, Nat.reduceLeDiff, zzI, look_nil, Nat.reduceBEq, implies_true, zz19, zz23, F_off28_1, zzB, Nat.zero_add, Nat.reduceAdd, F_ok26, F_ag26, F_sz26, zz8, zzD, zzF, zzE, zz16, Option.some.injEq, exists_eq_left', exists_eq_left, Option.map_some, eq_self, reduceCtorEq, and_self, evS_call, zz12, F_sl26, Option.isSome_some, evS_move, legs, len_map, zz6, Nat.reduceEqDiff, ↓reduceIte]
  refine hK1 _ ?_; try clear hK1 K1
  refine awp_keepL [1, 2, 7, 11, 12, 13] ?_
  simp only [zz20, zzI, look_nil, Nat.reduceBEq]
  refine awp_block ?_
  refine awp_loop (fun m s => ∃ pre post : List LegV, l = pre ++ post ∧ m = post.length ∧ s = S 36 [(1, .d (iv c)), (2, .d (.fn 46 [.pt [ints ks]])), (7, .ref 7 (sumsL c (fun k => ks.contains k) pre).length), (11, .d (legs (pre ++ post))), (12, .d (iv (pre ++ post).length)), (13, .d (iv pre.length))] [(7, grow 3 1 7 ((sumsL c (fun k => ks.contains k) pre).map fun n => [iv n]))]) l.length _ (le_SK id [7] rfl (l' := [(1, .d (iv c)), (2, .d (.fn 46 [.pt [ints ks]])), (7, .ref 7 (sumsL c (fun k => ks.contains k) ([] : List LegV)).length), (11, .d (legs (([] : List LegV) ++ l))), (12, .d (iv (([] : List LegV) ++ l).length)), (13, .d (iv ([] : List LegV).length))]) (m' := [(7, grow 3 1 7 ((sumsL c (fun k => ks.contains k) ([] : List LegV)).map fun n => [iv n]))]) ?_ ?_ ?_ ?_) ⟨[], l, rfl, rfl, rfl⟩ ?_
  · simp only [leV, look_cons, Nat.reduceBEq, cond_true, cond_false, legs, len_map, List.nil_append]; exact ⟨VLe.still rfl, VLe.still rfl, VLe.nil_ (by decide), VLe.still rfl, VLe.still rfl, VLe.still rfl, trivial⟩
  · exact ⟨fun h => by simp at h, fun _ => rfl, trivial⟩
  · simp [wfV, AV.ids, lookR]
  · simp [wfR, grow, sumsL, amts]
  rintro m s ⟨pre, post, hsp, rfl, rfl⟩
  have hql := sumsL_len c (fun k => ks.contains k) pre
  refine awp_seq fun K2 hK2 => ?_
  refine awp_plain F_mixed [some 14] rfl ?_
  simp only [List.nil_append, List.cons_append, true_and, and_true, zz0, true_implies, Nat.reduceLT, Nat.reduceLeDiff, zzI, look_nil, Nat.reduceBEq, implies_true, zz21, gr_v, zz22, zz6, Nat.reduceEqDiff, ↓reduceIte]
  refine hK2 _ ?_; try clear hK2 K2
  refine awp_keepL [1, 2, 7, 11, 12, 13, 14] ?_
  simp only [zz20, zzI, look_nil, Nat.reduceBEq]
  refine awp_seq fun K2 hK2 => ?_
  refine awp_condS _ (by decide) (by simp only [look_cons, Nat.reduceBEq, cond_true, cond_false]; rfl) ?_ ?_
  · intro hb
    obtain ⟨x, post, rfl⟩ := more_of hb; clear hb
    refine awp_skip ?_
    simp only [zz6, Nat.reduceEqDiff, ↓reduceIte]
    refine hK2 _ ?_; try clear hK2 K2
    refine awp_keepL [1, 2, 7, 11, 12, 13] ?_
    simp only [zz20, zzI, look_nil, Nat.reduceBEq]
    refine awp_seq fun K2 hK2 => ?_
    refine awp_block ?_
    refine awp_seq fun K3 hK3 => ?_
    refine awp_plain F_mixed [some 15, some 16, some 9, none] rfl ?_
    simp only [List.nil_append, List.cons_append, true_and, and_true, zz0, true_implies, Nat.reduceLT, Nat.reduceLeDiff, zzI, look_nil, Nat.reduceBEq, implies_true, evS_indexAddr, zz23, zz24, F_sl26, F_sz65, Option.map_some, zz16, Option.some.injEq, exists_eq_left', exists_eq_left, eq_self, reduceCtorEq, and_self, F_ok65, F_ag65, zz8, zzD, Nat.reduceAdd, Nat.zero_add, zzF, zzB, zzE, zz32, newRow1, F_zero65, zz10, zz18, splice, List.append_nil, zz1, zzG, legs, legC, getD_mid, len_map, lt_mid, ge_mid, D.agg.injEq, zz6, Nat.reduceEqDiff, ↓reduceIte]
    refine hK3 _ ?_; try clear hK3 K3
    refine awp_keepL [1, 2, 7, 9, 11, 12, 13] ?_
    simp only [zz20, zzI, look_nil, Nat.reduceBEq]
    refine awp_seq fun K3 hK3 => ?_
    refine awp_plain F_mixed [some 17, some 18, some 19, some 20, some 21, some 22, some 23, some 24, some 25, some 26, some 27, some 28] rfl ?_
    simp only [List.nil_append, List.cons_append, true_and, and_true, zz0, true_implies, Nat.reduceLT, Nat.reduceLeDiff, zzI, look_nil, Nat.reduceBEq, implies_true, Nat.reduceSub, S_getD, zz5, and_imp, imp_and, imp_self, and_self, zz19, zz23, F_off65_0, zzB, Nat.zero_add, Nat.reduceAdd, F_off24_2, F_ok3, F_ag3, F_sz3, zz8, zzD, zzF, zzE, zz16, Option.some.injEq, exists_eq_left', exists_eq_left, Option.map_some, eq_self, reduceCtorEq, evS_move, zz21, gr_v, zz34, F_off24_0, evS_call, evC_value, zz13, pickK_l, pickK_r, legC, D.agg.injEq, fnD, zz6, Nat.reduceEqDiff, ↓reduceIte]
    refine call_goC ?_ ?_ ⟨_, Try.func46, rfl, rfl⟩ (fun hG => (show ACalls Try.prog 46 ([iv x.ac.kind] ++ [.pt [ints ks]]) [] (bv (ks.contains x.ac.kind)) from tot1_ x.ac.kind ks hk)) (by simp [AV.ids, AV.idsL]) (by simp) ?_
    · decide
    · simp only [look_cons, Nat.reduceBEq, cond_true, cond_false, bare_d, bare_wh]
    simp only [List.nil_append, List.cons_append, true_and, and_true, zz0, true_implies, Nat.reduceLT, Nat.reduceLeDiff, zzI, look_nil, Nat.reduceBEq, implies_true, Nat.reduceSub, S_getD, zz5, and_imp, imp_and, imp_self, and_self, zz19, zz23, F_off65_0, zzB, Nat.zero_add, Nat.reduceAdd, F_off24_2, F_ok3, F_ag3, F_sz3, zz8, zzD, zzF, zzE, zz16, Option.some.injEq, exists_eq_left', exists_eq_left, Option.map_some, eq_self, reduceCtorEq, evS_move, zz21, gr_v, zz34, F_off24_0, evS_call, evC_value, zz13, pickK_l, pickK_r, legC, D.agg.injEq, fnD, zz6, Nat.reduceEqDiff, ↓reduceIte, Nat.reduceSub, S_getD, Gp_some, and_imp, imp_and, imp_self, and_self, asEs_cons, asEs_nil, asE_ag, asE_d, asE_ref, asEc_cons, asEc_nil, asF_d, asF_ref, asF_ag, asGs, oksF, atsL, oksG, freeN, AV.ren, AV.renL, addRows, ORow.row, Nat.reduceMul, Nat.reduceAdd, zz9, unDs_map, Option.bind_some, Option.map_some, forall_eq', D.sl.injEq, S_mem, Option.some.injEq, exists_eq_left', exists_eq_left, exists_eq', exists_eq, List.length_cons, zz2]
    refine hK3 _ ?_; try clear hK3 K3
    refine awp_keepL [1, 2, 7, 9, 11, 12, 13, 28] ?_
    simp only [zz20, zzI, look_nil, Nat.reduceBEq]
    refine awp_condS _ (by decide) (by simp only [look_cons, Nat.reduceBEq, cond_true, cond_false]; rfl) ?_ ?_
    · intro hb
      have hs : (x.ac.cur == c && (fun k => ks.contains k) x.ac.kind) = true := by first | exact hb | simpa using hb
      clear hb
      refine awp_plain F_mixed [some 29, some 30, some 31, some 32, some 33, some 7] rfl ?_
      simp only [List.nil_append, List.cons_append, true_and, and_true, zz0, true_implies, Nat.reduceLT, Nat.reduceLeDiff, zzI, look_nil, Nat.reduceBEq, implies_true, evS_move, zz19, zz23, F_off65_1, zzB, Nat.zero_add, Nat.reduceAdd, F_ok3, F_ag3, F_sz3, zz8, zzD, zzF, zzE, zz16, Option.some.injEq, exists_eq_left', exists_eq_left, Option.map_some, eq_self, reduceCtorEq, and_self, F_sl50, F_zero3, zz3, newRow1, zz1, zzG, maxLen_le, Nat.reduceMul, evS_call, F_by3, zz4, zz9, Option.bind_some, evS_assign, grow, unDs_map, zz6, Nat.reduceEqDiff, ↓reduceIte]
      have hm : (sumsL c (fun k => ks.contains k) pre).length + 1 ≤ 1000000 := by have e := congrArg List.length hsp; simp only [List.length_append, List.length_cons] at e; omega
      first | refine ⟨le_maxLen hm, by omega, ?_⟩ | refine ⟨by simp, le_maxLen hm, by omega, ?_⟩
      clear hm
      refine hK2 _ ?_; try clear hK2 K2
      refine awp_keepL [1, 2, 7, 11, 12, 13] ?_
      simp only [zz20, zzI, look_nil, Nat.reduceBEq]
      refine awp_plain F_mixed [some 34, some 13] rfl ?_
      simp only [List.nil_append, List.cons_append, true_and, and_true, zz0, true_implies, Nat.reduceLT, Nat.reduceLeDiff, zzI, look_nil, Nat.reduceBEq, implies_true, zz21, gr_v, zz26, evS_move, zz6, Nat.reduceEqDiff, ↓reduceIte]
      refine ⟨post.length, _, by simp, le_SK (fun r => bif r == 7 then 33 else r) [] rfl (l' := [(1, .d (iv c)), (2, .d (.fn 46 [.pt [ints ks]])), (7, .ref 7 (sumsL c (fun k => ks.contains k) (pre ++ [x])).length), (11, .d (legs ((pre ++ [x]) ++ post))), (12, .d (iv ((pre ++ [x]) ++ post).length)), (13, .d (iv (pre ++ [x]).length))]) (m' := [(7, grow 3 1 7 ((sumsL c (fun k => ks.contains k) (pre ++ [x])).map fun n => [iv n]))]) ?_ ?_ ?_ ?_, pre ++ [x], post, by simp [hsp], rfl, rfl⟩
      · simp only [leV, look_cons, Nat.reduceBEq, cond_true, cond_false, legs, len_map, List.append_assoc, List.singleton_append, wrap_len pre x (by have e := congrArg List.length hsp; simp only [List.length_append, List.length_cons, List.length_map] at e; omega)]
        refine ⟨VLe.still rfl, VLe.still rfl, ?_, VLe.still rfl, VLe.still rfl, VLe.still rfl, trivial⟩
        rw [sumsL_yes hs]
        rw [show (AV.ref 33 _ : AV) = .ref ((fun r => bif r == 7 then 33 else r) 7) (sumsL c (fun k => ks.contains k) pre ++ [x.amt]).length from by simp]; try exact VLe.ref_ (f := (fun r => bif r == 7 then 33 else r)) (r := 7) (by simp)
      · exact ⟨fun _ => ⟨_, rfl, RowLe.data_ (by rw [sumsL_yes hs] <;> first | rfl | simp only [List.map_append, List.map_cons, List.map_nil] | simp)⟩, fun h => by simp at h, trivial⟩
      · simp [wfV, AV.ids, lookR, grow]
      · exact ⟨wf_data _ _, trivial⟩
    · intro hb
      have hs : (x.ac.cur == c && (fun k => ks.contains k) x.ac.kind) = false := by first | exact hb | simpa using hb
      clear hb
      refine awp_skip ?_
      simp only [zz6, Nat.reduceEqDiff, ↓reduceIte]
      refine hK2 _ ?_; try clear hK2 K2
      refine awp_keepL [1, 2, 7, 11, 12, 13] ?_
      simp only [zz20, zzI, look_nil, Nat.reduceBEq]
      refine awp_plain F_mixed [some 34, some 13] rfl ?_
      simp only [List.nil_append, List.cons_append, true_and, and_true, zz0, true_implies, Nat.reduceLT, Nat.reduceLeDiff, zzI, look_nil, Nat.reduceBEq, implies_true, zz21, gr_v, zz26, evS_move, zz6, Nat.reduceEqDiff, ↓reduceIte]
      refine ⟨post.length, _, by simp, le_SK (fun r => bif r == 7 then 7 else r) [] rfl (l' := [(1, .d (iv c)), (2, .d (.fn 46 [.pt [ints ks]])), (7, .ref 7 (sumsL c (fun k => ks.contains k) (pre ++ [x])).length), (11, .d (legs ((pre ++ [x]) ++ post))), (12, .d (iv ((pre ++ [x]) ++ post).length)), (13, .d (iv (pre ++ [x]).length))]) (m' := [(7, grow 3 1 7 ((sumsL c (fun k => ks.contains k) (pre ++ [x])).map fun n => [iv n]))]) ?_ ?_ ?_ ?_, pre ++ [x], post, by simp [hsp], rfl, rfl⟩
      · simp only [leV, look_cons, Nat.reduceBEq, cond_true, cond_false, legs, len_map, List.append_assoc, List.singleton_append, wrap_len pre x (by have e := congrArg List.length hsp; simp only [List.length_append, List.length_cons, List.length_map] at e; omega)]
        refine ⟨VLe.still rfl, VLe.still rfl, ?_, VLe.still rfl, VLe.still rfl, VLe.still rfl, trivial⟩
        rw [sumsL_no hs]
        rw [show (AV.ref 7 _ : AV) = .ref ((fun r => bif r == 7 then 7 else r) 7) (sumsL c (fun k => ks.contains k) pre).length from by simp]; try exact VLe.ref_ (f := (fun r => bif r == 7 then 7 else r)) (r := 7) (by simp)
      · exact ⟨fun _ => ⟨_, rfl, RowLe.data_ (by rw [sumsL_no hs] <;> first | rfl | simp only [List.map_append, List.map_cons, List.map_nil] | simp)⟩, fun h => by simp at h, trivial⟩
      · simp [wfV, AV.ids, lookR, grow]
      · exact ⟨wf_data _ _, trivial⟩
  · intro hb
    obtain rfl := none_of hb; clear hb
    simp only [List.append_nil] at hsp ⊢
    obtain rfl : l = pre := hsp
    refine awp_exit ?_
    simp only [zz6, Nat.reduceEqDiff, ↓reduceIte]
    refine hK0 _ ?_; try clear hK0 K0
    refine awp_keepL [7] ?_
    simp only [zz20, zzI, look_nil, Nat.reduceBEq]
    refine awp_seq fun K0 hK0 => ?_
    refine awp_plain F_mixed [some 35, some 6] rfl ?_
    simp only [List.nil_append, List.cons_append, true_and, and_true, zz0, true_implies, Nat.reduceLT, Nat.reduceLeDiff, zzI, look_nil, Nat.reduceBEq, implies_true, evS_move, evS_assign, zz6, Nat.reduceEqDiff, ↓reduceIte]
    refine hK0 _ ?_; try clear hK0 K0
    refine awp_keepL [6] ?_
    simp only [zz20, zzI, look_nil, Nat.reduceBEq]
    refine awp_ret ?_
    simp only [zz6, Nat.reduceEqDiff, ↓reduceIte]
    refine done1 7 (by simp only [resCs, resC]; trivial) ?_ (by simp [flatA, flatAs, flatD]) (by simp [AV.ids, AV.idsL]) (by rfl) trivial rfl rfl ?_ (by simp [flatDs, flatD])
    · simp only [List.map_cons, List.map_nil, resA, S_getD, Nat.reduceLT, Nat.reduceLeDiff, look_cons, Nat.reduceBEq, cond_true, cond_false, resAll]; rfl
    · rfl
theorem SumsA (nx : Int) (l : List LegV) (c : Int) (hl : l.length ≤ 500000) : ACalls Try.prog 40 [.agg (ledC ⟨nx, l⟩), iv c, fnD 41] [] (.d (ints (sumsL c (fun _ => true) l))) := (sumsA_ nx l c hl).freeze (by simp [frzOk])
theorem SumsK (nx : Int) (l : List LegV) (c : Int) (ks : List Int) (hl : l.length ≤ 500000) (hk : ks.length ≤ 1000000) : ACalls Try.prog 40 [.agg (ledC ⟨nx, l⟩), iv c, .fn 46 [.pt [ints ks]]] [] (.d (ints (sumsL c (fun k => ks.contains k) l))) := (sumsK_ nx l c ks hl hk).freeze (by simp [frzOk])
theorem of10_ (nx : Int) (l : List LegV) (a : AcV) (hl : l.length ≤ 500000) : ACalls Try.prog 13 [.agg (ledC ⟨nx, l⟩), .agg (acC a)] [] (.d (iv (ofL a l))) := by
  refine acalls_S (rs := [.tmp 4]) Try.func13 rfl rfl 21 [(0, .d (.agg (ledC ⟨nx, l⟩))), (1, .d (.agg (acC a)))] rfl (by simp) rfl ?_
  refine awp_seq fun K0 hK0 => ?_
  refine awp_plain F_mixed [some 2, some 3, some 4] rfl ?_
  simp only [List.nil_append, List.cons_append, true_and, and_true, zz0, true_implies, Nat.reduceLT, Nat.reduceLeDiff, zzI, look_nil, Nat.reduceBEq, implies_true, zz35, newRow1, zz1, zzG, zzD, zz16, Option.some.injEq, exists_eq_left', exists_eq_left, Option.map_some, eq_self, reduceCtorEq, and_self, Nat.reduceAdd, Nat.zero_add, zzF, zzB, zzE, evS_assign, ledC, legs, acC, zz6, Nat.reduceEqDiff, ↓reduceIte]
  refine hK0 _ ?_; try clear hK0 K0
  refine awp_keepL [2, 3] ?_
  simp only [zz20, zzI, look_nil, Nat.reduceBEq]
  refine awp_seq fun K0 hK0 => ?_
  refine awp_seq fun K1 hK1 => ?_
  refine awp_plain F_mixed [some 7, some 8, some 9, some 10] rfl ?_
  simp only [List.nil_append, List.cons_append, true_and, and_true, zz0, true_implies, Nat.reduceLT, Nat.reduceLeDiff, zzI, look_nil, Nat.reduceBEq, implies_true, zz19, zz23, F_off28_1, zzB, Nat.zero_add, Nat.reduceAdd, F_ok26, F_ag26, F_sz26, zz8, zzD, zzF, zzE, zz16, Option.some.injEq, exists_eq_left', exists_eq_left, Option.map_some, eq_self, reduceCtorEq, and_self, evS_call, zz12, F_sl26, Option.isSome_some, evS_move, legs, len_map, zz6, Nat.reduceEqDiff, ↓reduceIte]
  refine hK1 _ ?_; try clear hK1 K1
  refine awp_keepL [3, 8, 9, 10] ?_
  simp only [zz20, zzI, look_nil, Nat.reduceBEq]
  refine awp_block ?_
  refine awp_loop (fun m s => ∃ pre post : List LegV, l = pre ++ post ∧ ofL a l = ofL a post ∧ m = post.length ∧ s = S 21 [(3, .ptr 3 0 0), (8, .d (legs l)), (9, .d (iv l.length)), (10, .d (iv pre.length))] [(3, (⟨True, 24, 3, true, false, 3, [[.d (iv a.kind), .d (iv a.who), .d (iv a.cur)]]⟩ : ARow))]) l.length _ (le_SK id [] rfl (l' := [(3, .ptr 3 0 0), (8, .d (legs l)), (9, .d (iv l.length)), (10, .d (iv ([] : List LegV).length))]) (m' := [(3, (⟨True, 24, 3, true, false, 3, [[.d (iv a.kind), .d (iv a.who), .d (iv a.cur)]]⟩ : ARow))]) ?_ ?_ ?_ ?_) ⟨[], l, rfl, rfl, rfl, rfl⟩ ?_
  · simp only [leV, look_cons, Nat.reduceBEq, cond_true, cond_false, legs, len_map]; exact ⟨VLe.refl _, VLe.refl _, VLe.refl _, VLe.refl _, trivial⟩
  · exact ⟨fun _ => ⟨_, rfl, ⟨id, rfl, rfl, fun _ => rfl, id, .inl, VLess.refl _⟩⟩, fun h => by simp at h, trivial⟩
  · simp [wfV, AV.ids, AV.idsL, lookR]
  · simp [wfR, AV.idsL, AV.ids]
  rintro m s ⟨pre, post, rfl, ho, rfl, rfl⟩
  refine awp_seq fun K2 hK2 => ?_
  refine awp_plain F_mixed [some 11] rfl ?_
  simp only [List.nil_append, List.cons_append, true_and, and_true, zz0, true_implies, Nat.reduceLT, Nat.reduceLeDiff, zzI, look_nil, Nat.reduceBEq, implies_true, zz21, gr_v, zz22, zz6, Nat.reduceEqDiff, ↓reduceIte]
  refine hK2 _ ?_; try clear hK2 K2
  refine awp_keepL [3, 8, 9, 10, 11] ?_
  simp only [zz20, zzI, look_nil, Nat.reduceBEq]
  refine awp_seq fun K2 hK2 => ?_
  refine awp_condS _ (by decide) (by simp only [look_cons, Nat.reduceBEq, cond_true, cond_false]; rfl) ?_ ?_
  · intro hb
    obtain ⟨x, post, rfl⟩ := more_of hb; clear hb
    refine awp_skip ?_
    simp only [zz6, Nat.reduceEqDiff, ↓reduceIte]
    refine hK2 _ ?_; try clear hK2 K2
    refine awp_keepL [3, 8, 9, 10] ?_
    simp only [zz20, zzI, look_nil, Nat.reduceBEq]
    refine awp_seq fun K2 hK2 => ?_
    refine awp_block ?_
    refine awp_seq fun K3 hK3 => ?_
    refine awp_plain F_mixed [some 12, some 13, some 6, none] rfl ?_
    simp only [List.nil_append, List.cons_append, true_and, and_true, zz0, true_implies, Nat.reduceLT, Nat.reduceLeDiff, zzI, look_nil, Nat.reduceBEq, implies_true, evS_indexAddr, zz23, zz24, F_sl26, F_sz65, Option.map_some, zz16, Option.some.injEq, exists_eq_left', exists_eq_left, eq_self, reduceCtorEq, and_self, F_ok65, F_ag65, zz8, zzD, Nat.reduceAdd, Nat.zero_add, zzF, zzB, zzE, zz32, newRow1, F_zero65, zz10, zz18, splice, List.append_nil, zz1, zzG, legs, legC, getD_mid, len_map, lt_mid, ge_mid, D.agg.injEq, zz6, Nat.reduceEqDiff, ↓reduceIte]
    refine hK3 _ ?_; try clear hK3 K3
    refine awp_keepL [3, 6, 8, 9, 10] ?_
    simp only [zz20, zzI, look_nil, Nat.reduceBEq]
    refine awp_seq fun K3 hK3 => ?_
    refine awp_plain F_mixed [some 14, some 15, some 16, some 17] rfl ?_
    simp only [List.nil_append, List.cons_append, true_and, and_true, zz0, true_implies, Nat.reduceLT, Nat.reduceLeDiff, zzI, look_nil, Nat.reduceBEq, implies_true, zz19, zz23, F_off65_0, zzB, Nat.zero_add, Nat.reduceAdd, F_ok24, F_ag24, F_sz24, zz8, zzD, zzF, zzE, zz16, Option.some.injEq, exists_eq_left', exists_eq_left, Option.map_some, eq_self, reduceCtorEq, and_self, zz21, gr_v, gr_ag, gr_agg, grL_cons, grL_nil, grD_cons, grD_nil, b_eqla, b_neqa, F_eql24, legC, acC, D.agg.injEq, veqL, veq, zz6, Nat.reduceEqDiff, ↓reduceIte]
    refine hK3 _ ?_; try clear hK3 K3
    refine awp_keepL [3, 6, 8, 9, 10, 17] ?_
    simp only [zz20, zzI, look_nil, Nat.reduceBEq]
    refine awp_condS _ (by decide) (by simp only [look_cons, Nat.reduceBEq, cond_true, cond_false]; rfl) ?_ ?_
    · intro hb
      have hs : acSame x.ac a = true := by simpa [acSame, Bool.and_assoc] using hb
      clear hb
      refine awp_seq fun K4 hK4 => ?_
      refine awp_plain F_mixed [some 18, some 19, some 4] rfl ?_
      simp only [List.nil_append, List.cons_append, true_and, and_true, zz0, true_implies, Nat.reduceLT, Nat.reduceLeDiff, zzI, look_nil, Nat.reduceBEq, implies_true, zz19, zz23, F_off65_1, zzB, Nat.zero_add, Nat.reduceAdd, F_ok3, F_ag3, F_sz3, zz8, zzD, zzF, zzE, zz16, Option.some.injEq, exists_eq_left', exists_eq_left, Option.map_some, eq_self, reduceCtorEq, and_self, evS_assign, zz6, Nat.reduceEqDiff, ↓reduceIte]
      refine hK4 _ ?_; try clear hK4 K4
      refine awp_keepL [4] ?_
      simp only [zz20, zzI, look_nil, Nat.reduceBEq]
      refine awp_ret ?_
      simp only [zz6, Nat.reduceEqDiff, ↓reduceIte]
      refine done0 (by simp only [resCs, resC]; trivial) ?_ (by simp [flatA, flatAs, flatD]) (by simp [AV.ids, AV.idsL])
      simp only [List.map_cons, List.map_nil, resA, S_getD, Nat.reduceLT, Nat.reduceLeDiff, look_cons, Nat.reduceBEq, cond_true, cond_false, resAll]
      rw [ho, ofL, hs]; rfl
    · intro hb
      have hs : acSame x.ac a = false := by simpa [acSame, Bool.and_assoc] using hb
      clear hb
      refine awp_skip ?_
      simp only [zz6, Nat.reduceEqDiff, ↓reduceIte]
      refine hK2 _ ?_; try clear hK2 K2
      refine awp_keepL [3, 8, 9, 10] ?_
      simp only [zz20, zzI, look_nil, Nat.reduceBEq]
      refine awp_plain F_mixed [some 20, some 10] rfl ?_
      simp only [List.nil_append, List.cons_append, true_and, and_true, zz0, true_implies, Nat.reduceLT, Nat.reduceLeDiff, zzI, look_nil, Nat.reduceBEq, implies_true, zz21, gr_v, zz26, evS_move, zz6, Nat.reduceEqDiff, ↓reduceIte]
      refine ⟨post.length, _, by simp, le_SK id [] rfl (l' := [(3, .ptr 3 0 0), (8, .d (legs (pre ++ x :: post))), (9, .d (iv (pre ++ x :: post).length)), (10, .d (iv (pre ++ [x]).length))]) (m' := [(3, (⟨True, 24, 3, true, false, 3, [[.d (iv a.kind), .d (iv a.who), .d (iv a.cur)]]⟩ : ARow))]) ?_ ?_ ?_ ?_, pre ++ [x], post, by simp, by rw [ho, ofL, hs]; rfl, rfl, rfl⟩
      · simp only [leV, look_cons, Nat.reduceBEq, cond_true, cond_false, legs, len_map, wrap_len pre x (by simp at hl; omega)]; exact ⟨VLe.refl _, VLe.refl _, VLe.refl _, VLe.refl _, trivial⟩
      · exact ⟨fun _ => ⟨_, rfl, ⟨id, rfl, rfl, fun _ => rfl, id, .inl, VLess.refl _⟩⟩, fun h => by simp at h, trivial⟩
      · simp [wfV, AV.ids, AV.idsL, lookR]
      · simp [wfR, AV.idsL, AV.ids]
  · intro hb
    obtain rfl := none_of hb; clear hb
    simp only [List.append_nil] at ho ⊢
    refine awp_exit ?_
    simp only [zz6, Nat.reduceEqDiff, ↓reduceIte]
    refine hK0 _ ?_; try clear hK0 K0
    refine awp_keepL [] ?_
    simp only [zz20, zzI, look_nil, Nat.reduceBEq]
    refine awp_seq fun K0 hK0 => ?_
    refine awp_plain F_mixed [some 4] rfl ?_
    simp only [List.nil_append, List.cons_append, true_and, and_true, zz0, true_implies, Nat.reduceLT, Nat.reduceLeDiff, zzI, look_nil, Nat.reduceBEq, implies_true, evS_assign, zz6, Nat.reduceEqDiff, ↓reduceIte]
    refine hK0 _ ?_; try clear hK0 K0
    refine awp_keepL [4] ?_
    simp only [zz20, zzI, look_nil, Nat.reduceBEq]
    refine awp_ret ?_
    simp only [zz6, Nat.reduceEqDiff, ↓reduceIte]
    refine done0 (by simp only [resCs, resC]; trivial) ?_ (by simp [flatA, flatAs, flatD]) (by simp [AV.ids, AV.idsL])
    simp only [List.map_cons, List.map_nil, resA, S_getD, Nat.reduceLT, Nat.reduceLeDiff, look_cons, Nat.reduceBEq, cond_true, cond_false, resAll]
    rw [List.append_nil, ho]; rfl
end Go.Proofs.Ytfbpceolkhlifaa
