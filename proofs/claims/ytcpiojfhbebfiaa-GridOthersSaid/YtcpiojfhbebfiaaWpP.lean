import Derived.Test.YtcpiojfhbebfiaaWpV
import Derived.Test.YtcpiojfhbebfiaaSpecI
namespace Go.Proofs.Ytcpiojfhbebfiaa
open Go.RowKit
set_option linter.unusedVariables false
set_option linter.unusedSimpArgs false
theorem F_go8 : goFn Try.prog 8 := ⟨_, Try.func8, rfl, rfl⟩
theorem F_go17 : goFn Try.prog 17 := ⟨_, Try.func17, rfl, rfl⟩
theorem last_of {α : Type} {l : List α} (h : decide ((l.length : Int) - 1 ≥ 0) = true) : ∃ a x, l = a ++ [x] := by
  rcases List.eq_nil_or_concat l with rfl | ⟨a, x, rfl⟩
  · simp at h
  · exact ⟨a, x, by simp⟩
theorem first_of {α : Type} {l : List α} (h : decide ((l.length : Int) - 1 ≥ 0) = false) : l = [] := by
  cases l with
  | nil => rfl
  | cons x t => simp at h
theorem own_un (a b : List (List D)) : unE ((a ++ b).map (·.map .d)) = some (a ++ b) := unE_map _
set_option maxRecDepth 100000 in
set_option maxHeartbeats 4000000 in
theorem gridOthers_ (r : RollV) (who cur : Int) (l : List PosV) : ACalls Try.prog 6 [.agg (rollC r), iv who, iv cur, poss l] [] (bv true) := by
  refine acalls_S (rs := [.tmp 8]) Try.func6 rfl rfl 105 [(0, .d (.agg (rollC r))), (1, .d (iv who)), (2, .d (iv cur)), (3, .d (poss l))] rfl (by simp) rfl ?_
  refine awp_seq fun K0 hK0 => ?_
  refine awp_plain F_mixed [some 4, some 8] rfl ?_
  simp only [List.nil_append, List.cons_append, true_and, and_true, zz0, true_implies, Nat.reduceLT, Nat.reduceLeDiff, zzI, look_nil, Nat.reduceBEq, implies_true, zz35, newRow1, zz1, zzG, zzD, zz16, Option.some.injEq, exists_eq_left', exists_eq_left, Option.map_some, eq_self, reduceCtorEq, and_self, Nat.reduceAdd, Nat.zero_add, zzF, zzB, zzE, evS_assign, rollC, memsD, instsD, assetsD, zz6, Nat.reduceEqDiff, ↓reduceIte]
  refine hK0 _ ?_; try clear hK0 K0
  refine awp_keepL [1, 2, 3, 4] ?_
  simp only [zz20, zzI, look_nil, Nat.reduceBEq]
  refine awp_seq fun K0 hK0 => ?_
  refine awp_seq fun K1 hK1 => ?_
  refine awp_plain F_mixed [some 15, some 16, some 17, some 18, some 19, some 20, some 21] rfl ?_
  simp only [List.nil_append, List.cons_append, true_and, and_true, zz0, true_implies, Nat.reduceLT, Nat.reduceLeDiff, zzI, look_nil, Nat.reduceBEq, implies_true, Nat.reduceSub, S_getD, zz5, and_imp, imp_and, imp_self, and_self, F_ok26, F_ag26, F_sz26, zz8, zz23, zzD, Nat.reduceAdd, Nat.zero_add, zzF, zzB, zzE, zz16, Option.some.injEq, exists_eq_left', exists_eq_left, Option.map_some, eq_self, reduceCtorEq, evS_call, evC_value, evS_move, zz12, F_sl27, Option.isSome_some, zz21, gr_v, zz25, zz13, poss, len_map, memsD, instsD, assetsD, rollC, D.agg.injEq, memA, memC, instA, instC, zzG, zz6, Nat.reduceEqDiff, ↓reduceIte]
  refine call_go F_go8 (fun hG => heavy_ r) (by simp [AV.ids, AV.idsL]) (by simp) ?_
  simp only [List.nil_append, List.cons_append, true_and, and_true, zz0, true_implies, Nat.reduceLT, Nat.reduceLeDiff, zzI, look_nil, Nat.reduceBEq, implies_true, Nat.reduceSub, S_getD, zz5, and_imp, imp_and, imp_self, and_self, F_ok26, F_ag26, F_sz26, zz8, zz23, zzD, Nat.reduceAdd, Nat.zero_add, zzF, zzB, zzE, zz16, Option.some.injEq, exists_eq_left', exists_eq_left, Option.map_some, eq_self, reduceCtorEq, evS_call, evC_value, evS_move, zz12, F_sl27, Option.isSome_some, zz21, gr_v, zz25, zz13, poss, len_map, memsD, instsD, assetsD, rollC, D.agg.injEq, memA, memC, instA, instC, zzG, zz6, Nat.reduceEqDiff, ↓reduceIte, atsL, oksG, freeN, AV.ren, AV.renL, addRows, ORow.row, Nat.reduceMul, Nat.reduceAdd, zz9, Option.bind_some, Option.map_some, forall_eq', D.sl.injEq, S_mem, Option.some.injEq, exists_eq_left', exists_eq_left, exists_eq', exists_eq, List.length_cons, zz2]
  refine hK1 _ ?_; try clear hK1 K1
  refine awp_keepL [1, 2, 3, 4, 21] ?_
  simp only [zz20, zzI, look_nil, Nat.reduceBEq]
  refine awp_condS _ (by decide) (by simp only [look_cons, Nat.reduceBEq, cond_true, cond_false]; rfl) ?_ ?_
  · intro hb
    clear hb
    refine awp_seq fun K2 hK2 => ?_
    refine awp_plain F_mixed [some 8] rfl ?_
    simp only [List.nil_append, List.cons_append, true_and, and_true, zz0, true_implies, Nat.reduceLT, Nat.reduceLeDiff, zzI, look_nil, Nat.reduceBEq, implies_true, evS_assign, zz6, Nat.reduceEqDiff, ↓reduceIte]
    refine hK2 _ ?_; try clear hK2 K2
    refine awp_keepL [8] ?_
    simp only [zz20, zzI, look_nil, Nat.reduceBEq]
    refine awp_ret ?_
    simp only [zz6, Nat.reduceEqDiff, ↓reduceIte]
    refine done0 (by simp only [resCs, resC]; trivial) ?_ (by simp [flatA, flatAs, flatD]) (by simp [AV.ids, AV.idsL])
    simp only [List.map_cons, List.map_nil, resA, S_getD, Nat.reduceLT, Nat.reduceLeDiff, look_cons, Nat.reduceBEq, cond_true, cond_false, resAll]
    
  · intro hb
    simp only [Bool.or_eq_false_iff] at hb
    have h := small_of hb.1
    have hi : r.insts.length ≤ 100 := by have := hb.1; simp [heavy] at this; omega
    have hl : l.length ≤ 300 := by have := hb.2; simp at this; omega
    clear hb
    have hw7 : IntKind.wrap .i64 ((l.length : Int) - 1) = (l.length : Int) - 1 := wrapI (by omega) (by omega)
    refine awp_skip ?_
    simp only [zz6, Nat.reduceEqDiff, ↓reduceIte]
    refine hK0 _ ?_; try clear hK0 K0
    refine awp_keepL [1, 2, 3, 4] ?_
    simp only [zz20, zzI, look_nil, Nat.reduceBEq]
    refine awp_seq fun K0 hK0 => ?_
    refine awp_plain F_mixed [some 23, some 24, some 25, some 26, some 27, some 22, some 28, some 29, some 9, some 10] rfl ?_
    simp only [List.nil_append, List.cons_append, true_and, and_true, zz0, true_implies, Nat.reduceLT, Nat.reduceLeDiff, zzI, look_nil, Nat.reduceBEq, implies_true, F_ok26, F_ag26, F_sz26, zz8, zz23, zzD, Nat.reduceAdd, Nat.zero_add, zzF, zzB, zzE, zz16, Option.some.injEq, exists_eq_left', exists_eq_left, Option.map_some, eq_self, reduceCtorEq, and_self, evS_move, evS_call, evC_value, zz14, evS_assign, poss, memsD, instsD, assetsD, rollC, D.agg.injEq, memA, memC, instA, instC, zzG, zz6, Nat.reduceEqDiff, ↓reduceIte]
    refine call_go F_go13 (fun hG => Margin_ r who cur l h (by omega)) (by simp [AV.ids, AV.idsL]) (by simp) ?_
    simp only [List.nil_append, List.cons_append, true_and, and_true, zz0, true_implies, Nat.reduceLT, Nat.reduceLeDiff, zzI, look_nil, Nat.reduceBEq, implies_true, F_ok26, F_ag26, F_sz26, zz8, zz23, zzD, Nat.reduceAdd, Nat.zero_add, zzF, zzB, zzE, zz16, Option.some.injEq, exists_eq_left', exists_eq_left, Option.map_some, eq_self, reduceCtorEq, and_self, evS_move, evS_call, evC_value, zz14, evS_assign, poss, memsD, instsD, assetsD, rollC, D.agg.injEq, memA, memC, instA, instC, zzG, zz6, Nat.reduceEqDiff, ↓reduceIte, atsL, oksG, freeN, AV.ren, AV.renL, addRows, ORow.row, Nat.reduceMul, Nat.reduceAdd, zz9, Option.bind_some, Option.map_some, forall_eq', D.sl.injEq, S_mem, Option.some.injEq, exists_eq_left', exists_eq_left, exists_eq', exists_eq, List.length_cons, zz2]
    refine hK0 _ ?_; try clear hK0 K0
    refine awp_keepL [1, 2, 3, 4, 9, 10] ?_
    simp only [zz20, zzI, look_nil, Nat.reduceBEq]
    refine awp_seq fun K0 hK0 => ?_
    refine awp_seq fun K1 hK1 => ?_
    refine awp_plain F_mixed [some 30, some 31] rfl ?_
    simp only [List.nil_append, List.cons_append, true_and, and_true, zz0, true_implies, Nat.reduceLT, Nat.reduceLeDiff, zzI, look_nil, Nat.reduceBEq, implies_true, evS_move, zz21, gr_v, zz28, zz6, Nat.reduceEqDiff, ↓reduceIte]
    refine hK1 _ ?_; try clear hK1 K1
    refine awp_keepL [1, 2, 3, 4, 9, 31] ?_
    simp only [zz20, zzI, look_nil, Nat.reduceBEq]
    refine awp_condS _ (by decide) (by simp only [look_cons, Nat.reduceBEq, cond_true, cond_false]; rfl) ?_ ?_
    · intro hb
      clear hb
      refine awp_seq fun K2 hK2 => ?_
      refine awp_plain F_mixed [some 32, some 8] rfl ?_
      simp only [List.nil_append, List.cons_append, true_and, and_true, zz0, true_implies, Nat.reduceLT, Nat.reduceLeDiff, zzI, look_nil, Nat.reduceBEq, implies_true, evS_call, evC_value, evS_assign, zz6, Nat.reduceEqDiff, ↓reduceIte]
      refine call_go F_go17 (fun hG => wakes15_) (by simp [AV.ids, AV.idsL]) (by simp) ?_
      simp only [List.nil_append, List.cons_append, true_and, and_true, zz0, true_implies, Nat.reduceLT, Nat.reduceLeDiff, zzI, look_nil, Nat.reduceBEq, implies_true, evS_call, evC_value, evS_assign, zz6, Nat.reduceEqDiff, ↓reduceIte, atsL, oksG, freeN, AV.ren, AV.renL, addRows, ORow.row, Nat.reduceMul, Nat.reduceAdd, zz9, Option.bind_some, Option.map_some, forall_eq', D.sl.injEq, zz16, Option.some.injEq, exists_eq_left', exists_eq_left, exists_eq', exists_eq, zzD, zz2]
      refine hK2 _ ?_; try clear hK2 K2
      refine awp_keepL [8] ?_
      simp only [zz20, zzI, look_nil, Nat.reduceBEq]
      refine awp_ret ?_
      simp only [zz6, Nat.reduceEqDiff, ↓reduceIte]
      refine done0 (by simp only [resCs, resC]; trivial) ?_ (by simp [flatA, flatAs, flatD]) (by simp [AV.ids, AV.idsL])
      simp only [List.map_cons, List.map_nil, resA, S_getD, Nat.reduceLT, Nat.reduceLeDiff, look_cons, Nat.reduceBEq, cond_true, cond_false, resAll]
      
    · intro hb
      have hM : margE r who cur l = 0 := by simpa using hb
      clear hb
      have c := others_law hM
      refine awp_skip ?_
      simp only [zz6, Nat.reduceEqDiff, ↓reduceIte]
      refine hK0 _ ?_; try clear hK0 K0
      refine awp_keepL [1, 2, 3, 4, 9] ?_
      simp only [zz20, zzI, look_nil, Nat.reduceBEq]
      refine awp_seq fun K0 hK0 => ?_
      refine awp_plain F_mixed [some 11] rfl ?_
      simp only [List.nil_append, List.cons_append, true_and, and_true, zz0, true_implies, Nat.reduceLT, Nat.reduceLeDiff, zzI, look_nil, Nat.reduceBEq, implies_true, evS_assign, zz6, Nat.reduceEqDiff, ↓reduceIte]
      refine hK0 _ ?_; try clear hK0 K0
      refine awp_keepL [1, 2, 3, 4, 9, 11] ?_
      simp only [zz20, zzI, look_nil, Nat.reduceBEq]
      refine awp_seq fun K0 hK0 => ?_
      refine awp_seq fun K1 hK1 => ?_
      refine awp_plain F_mixed [some 33, some 34, some 35, some 12] rfl ?_
      simp only [List.nil_append, List.cons_append, true_and, and_true, zz0, true_implies, Nat.reduceLT, Nat.reduceLeDiff, zzI, look_nil, Nat.reduceBEq, implies_true, evS_move, evS_call, zz12, F_sl27, Option.isSome_some, zz21, gr_v, zz33, evS_assign, poss, len_map, hw7, zz6, Nat.reduceEqDiff, ↓reduceIte]
      refine hK1 _ ?_; try clear hK1 K1
      refine awp_keepL [1, 2, 3, 4, 9, 11, 12] ?_
      simp only [zz20, zzI, look_nil, Nat.reduceBEq]
      refine awp_block ?_
      refine awp_loop (fun m s => ∃ rest done : List PosV, l = rest ++ done ∧ m = rest.length ∧ s = S 105 [(1, .d (iv who)), (2, .d (iv cur)), (3, .d (poss (rest ++ done))), (4, .ptr 4 0 0), (9, .d (iv (margV r who cur l))), (11, .ref 11 (ownL r who cur done).length), (12, .d (iv ((rest.length : Int) - 1)))] [(4, (⟨True, 26, 3, true, false, 4, [[.d (.sl 3 (r.mems.map memC)), .d (.sl 12 (r.insts.map instC)), .d (.sl 4 (r.assets.map assetC))]]⟩ : ARow)), (11, grow 46 4 11 ((ownL r who cur done).map posC))]) l.length _ (le_SK id [11] rfl (l' := [(1, .d (iv who)), (2, .d (iv cur)), (3, .d (poss (l ++ ([] : List PosV)))), (4, .ptr 4 0 0), (9, .d (iv (margV r who cur l))), (11, .ref 11 (ownL r who cur ([] : List PosV)).length), (12, .d (iv ((l.length : Int) - 1)))]) (m' := [(4, (⟨True, 26, 3, true, false, 4, [[.d (.sl 3 (r.mems.map memC)), .d (.sl 12 (r.insts.map instC)), .d (.sl 4 (r.assets.map assetC))]]⟩ : ARow)), (11, grow 46 4 11 ((ownL r who cur ([] : List PosV)).map posC))]) ?_ ?_ ?_ ?_) ⟨l, [], by simp, rfl, rfl⟩ ?_
      · simp only [leV, look_cons, Nat.reduceBEq, cond_true, cond_false, poss, List.append_nil]; exact ⟨VLe.still rfl, VLe.still rfl, VLe.still rfl, VLe.ptr_ (f := id) (r := 4) (by simp), VLe.still rfl, VLe.nil_ (by decide), VLe.still rfl, trivial⟩
      · exact ⟨fun _ => ⟨_, rfl, RowLe.still (by simp [AV.idsL, AV.ids])⟩, fun h => by simp at h, fun h => by simp at h, fun _ => rfl, trivial⟩
      · simp [wfV, AV.ids, lookR]
      · simp [wfR, grow, ownL, AV.idsL, AV.ids]
      rintro m s ⟨rest, done, hsp, rfl, rfl⟩
      have hol := ownL_len (who := who) (cur := cur) hi done
      refine awp_seq fun K2 hK2 => ?_
      refine awp_seq fun K3 hK3 => ?_
      refine awp_plain F_mixed [some 36, some 37] rfl ?_
      simp only [List.nil_append, List.cons_append, true_and, and_true, zz0, true_implies, Nat.reduceLT, Nat.reduceLeDiff, zzI, look_nil, Nat.reduceBEq, implies_true, evS_move, zz21, gr_v, zz31, zz6, Nat.reduceEqDiff, ↓reduceIte]
      refine hK3 _ ?_; try clear hK3 K3
      refine awp_keepL [1, 2, 3, 4, 9, 11, 12, 37] ?_
      simp only [zz20, zzI, look_nil, Nat.reduceBEq]
      refine awp_condS _ (by decide) (by simp only [look_cons, Nat.reduceBEq, cond_true, cond_false]; rfl) ?_ ?_
      · intro hb
        obtain ⟨rest, x, rfl⟩ := last_of hb; clear hb
        simp only [show ((rest ++ [x]).length : Int) - 1 = rest.length from by simp, List.append_assoc, List.singleton_append]
        have hll := congrArg List.length hsp
        simp only [List.length_append, List.length_cons] at hll
        have hw9 : IntKind.wrap .i64 ((rest.length : Int) - 1) = (rest.length : Int) - 1 := wrapI (by omega) (by omega)
        refine awp_skip ?_
        simp only [zz6, Nat.reduceEqDiff, ↓reduceIte]
        refine hK2 _ ?_; try clear hK2 K2
        refine awp_keepL [1, 2, 3, 4, 9, 11, 12] ?_
        simp only [zz20, zzI, look_nil, Nat.reduceBEq]
        refine awp_seq fun K2 hK2 => ?_
        refine awp_block ?_
        refine awp_seq fun K3 hK3 => ?_
        refine awp_plain F_mixed [some 13] rfl ?_
        simp only [List.nil_append, List.cons_append, true_and, and_true, zz0, true_implies, Nat.reduceLT, Nat.reduceLeDiff, zzI, look_nil, Nat.reduceBEq, implies_true, evS_assign, zz6, Nat.reduceEqDiff, ↓reduceIte]
        refine hK3 _ ?_; try clear hK3 K3
        refine awp_keepL [1, 2, 3, 4, 9, 11, 12, 13] ?_
        simp only [zz20, zzI, look_nil, Nat.reduceBEq]
        refine awp_block ?_
        refine awp_loop (fun m s => ∃ pre post : List InstV, r.insts = pre ++ post ∧ m = post.length ∧ s = S 105 [(1, .d (iv who)), (2, .d (iv cur)), (3, .d (poss (rest ++ x :: done))), (4, .ptr 4 0 0), (9, .d (iv (margV r who cur l))), (11, .ref 11 ((ownL r who cur done).length + (ownI who cur pre x).length)), (12, .d (iv rest.length)), (13, .d (iv pre.length))] [(4, (⟨True, 26, 3, true, false, 4, [[.d (.sl 3 (r.mems.map memC)), .d (.sl 12 ((pre ++ post).map instC)), .d (.sl 4 (r.assets.map assetC))]]⟩ : ARow)), (11, grow 46 4 11 ((ownL r who cur done).map posC ++ (ownI who cur pre x).map posC))]) r.insts.length _ (le_SK id [] rfl (l' := [(1, .d (iv who)), (2, .d (iv cur)), (3, .d (poss (rest ++ x :: done))), (4, .ptr 4 0 0), (9, .d (iv (margV r who cur l))), (11, .ref 11 ((ownL r who cur done).length + (ownI who cur ([] : List InstV) x).length)), (12, .d (iv rest.length)), (13, .d (iv ([] : List InstV).length))]) (m' := [(4, (⟨True, 26, 3, true, false, 4, [[.d (.sl 3 (r.mems.map memC)), .d (.sl 12 ((([] : List InstV) ++ r.insts).map instC)), .d (.sl 4 (r.assets.map assetC))]]⟩ : ARow)), (11, grow 46 4 11 ((ownL r who cur done).map posC ++ (ownI who cur ([] : List InstV) x).map posC))]) ?_ ?_ ?_ ?_) ⟨[], r.insts, rfl, rfl, rfl⟩ ?_
        · simp only [leV, look_cons, Nat.reduceBEq, cond_true, cond_false]; exact ⟨VLe.refl _, VLe.refl _, VLe.refl _, VLe.refl _, VLe.refl _, VLe.refl _, VLe.refl _, VLe.refl _, trivial⟩
        · exact ⟨fun _ => ⟨_, rfl, RowLe.same (by simp) (by simp [AV.idsL, AV.ids])⟩, fun h => by simp at h, fun _ => ⟨_, rfl, RowLe.data_ (by simp [ownI])⟩, fun h => by simp at h, trivial⟩
        · simp [wfV, AV.ids, lookR]
        · exact ⟨by simp [AV.idsL, AV.ids], wf_data _ _, trivial⟩
        rintro m s ⟨pre, post, hsi, rfl, rfl⟩
        have hoi := ownI_len who cur pre x
        refine awp_seq fun K4 hK4 => ?_
        refine awp_seq fun K5 hK5 => ?_
        refine awp_plain F_mixed [some 40, some 41, some 42, some 43, some 44] rfl ?_
        simp only [List.nil_append, List.cons_append, true_and, and_true, zz0, true_implies, Nat.reduceLT, Nat.reduceLeDiff, zzI, look_nil, Nat.reduceBEq, implies_true, evS_move, zz19, zz23, F_off26_1, zzB, Nat.zero_add, Nat.reduceAdd, F_ok23, F_ag23, F_sz23, zz8, zzD, zzF, zzE, zz16, Option.some.injEq, exists_eq_left', exists_eq_left, Option.map_some, eq_self, reduceCtorEq, and_self, evS_call, zz12, F_sl23, Option.isSome_some, zz21, gr_v, zz22, len_map, zz6, Nat.reduceEqDiff, ↓reduceIte]
        refine hK5 _ ?_; try clear hK5 K5
        refine awp_keepL [1, 2, 3, 4, 9, 11, 12, 13, 44] ?_
        simp only [zz20, zzI, look_nil, Nat.reduceBEq]
        refine awp_condS _ (by decide) (by simp only [look_cons, Nat.reduceBEq, cond_true, cond_false]; rfl) ?_ ?_
        · intro hb
          obtain ⟨i, post, rfl⟩ := more_of hb; clear hb
          refine awp_skip ?_
          simp only [zz6, Nat.reduceEqDiff, ↓reduceIte]
          refine hK4 _ ?_; try clear hK4 K4
          refine awp_keepL [1, 2, 3, 4, 9, 11, 12, 13] ?_
          simp only [zz20, zzI, look_nil, Nat.reduceBEq]
          refine awp_seq fun K4 hK4 => ?_
          refine awp_block ?_
          refine awp_seq fun K5 hK5 => ?_
          refine awp_draw F_mixed [some 47, some 48, some 49, some 50, some 51, some 52, some 53, some 54, some 55, some 56, some 57, some 58, some 59, some 60, some 61, some 62, some 63, some 64, some 65, some 66, some 67, some 68, some 69, some 70, some 71, some 72, some 73, some 74, some 75, some 76, some 77, some 78, some 79] rfl (by kernel_rfl) ?_
          simp only [List.nil_append, List.cons_append, true_and, and_true, zz0, true_implies, Nat.reduceLT, Nat.reduceLeDiff, zzI, look_nil, Nat.reduceBEq, implies_true, Nat.reduceSub, S_getD, zz5, and_imp, imp_and, imp_self, and_self, zz19, zz23, F_off26_1, zzB, Nat.zero_add, Nat.reduceAdd, F_ok23, F_ag23, F_sz23, zz8, zzD, zzF, zzE, zz16, Option.some.injEq, exists_eq_left', exists_eq_left, Option.map_some, eq_self, reduceCtorEq, evS_move, evS_indexAddr, zz24, F_sl23, F_sz49, F_off49_0, F_ok3, F_ag3, F_sz3, F_sl27, F_sz46, F_off46_0, F_off44_1, zz21, gr_v, zz34, F_off49_1, zz13, F_off44_0, poss, posC, instC, getD_mid, len_map, lt_mid, ge_mid, zz6, Nat.reduceEqDiff, ↓reduceIte]
          refine hK5 _ ?_; try clear hK5 K5
          refine awp_keepL [1, 2, 3, 4, 9, 11, 12, 13, 79] ?_
          simp only [zz20, zzI, look_nil, Nat.reduceBEq]
          refine awp_condS _ (by decide) (by simp only [look_cons, Nat.reduceBEq, cond_true, cond_false]; rfl) ?_ ?_
          · intro hb
            have hs : selI who cur x i = true := hb
            clear hb
            refine awp_plain F_mixed [some 80, some 81, some 82, some 83, some 84, some 85, some 86, some 11] rfl ?_
            simp only [List.nil_append, List.cons_append, true_and, and_true, zz0, true_implies, Nat.reduceLT, Nat.reduceLeDiff, zzI, look_nil, Nat.reduceBEq, implies_true, evS_move, evS_indexAddr, zz23, zz24, F_sl27, F_sz46, Option.map_some, zz16, Option.some.injEq, exists_eq_left', exists_eq_left, eq_self, reduceCtorEq, and_self, F_ok46, F_ag46, zz8, zzD, Nat.reduceAdd, Nat.zero_add, zzF, zzB, zzE, F_zero46, zz3, newRow1, zz1, zzG, maxLen_le, Nat.reduceMul, evS_call, F_by46, zz4, zz9, Option.bind_some, evS_assign, poss, posC, getD_mid, len_map, lt_mid, ge_mid, grow, D.agg.injEq, unDs_map, own_un, zz6, Nat.reduceEqDiff, ↓reduceIte]
            have hm : (ownL r who cur done).length + (ownI who cur pre x).length + 1 ≤ 1000000 := by have e := congrArg List.length hsi; simp only [List.length_append, List.length_cons] at e; omega
            first | refine ⟨le_maxLen hm, by omega, ?_⟩ | refine ⟨by simp, le_maxLen hm, by omega, ?_⟩
            clear hm
            refine hK4 _ ?_; try clear hK4 K4
            refine awp_keepL [1, 2, 3, 4, 9, 11, 12, 13] ?_
            simp only [zz20, zzI, look_nil, Nat.reduceBEq]
            refine awp_plain F_mixed [some 45, some 46, some 13] rfl ?_
            simp only [List.nil_append, List.cons_append, true_and, and_true, zz0, true_implies, Nat.reduceLT, Nat.reduceLeDiff, zzI, look_nil, Nat.reduceBEq, implies_true, evS_move, zz21, gr_v, zz26, evS_assign, zz6, Nat.reduceEqDiff, ↓reduceIte]
            refine ⟨post.length, _, by simp, le_SK (fun r => bif r == 11 then 86 else r) [] rfl (l' := [(1, .d (iv who)), (2, .d (iv cur)), (3, .d (poss (rest ++ x :: done))), (4, .ptr 4 0 0), (9, .d (iv (margV r who cur l))), (11, .ref 11 ((ownL r who cur done).length + (ownI who cur (pre ++ [i]) x).length)), (12, .d (iv rest.length)), (13, .d (iv (pre ++ [i]).length))]) (m' := [(4, (⟨True, 26, 3, true, false, 4, [[.d (.sl 3 (r.mems.map memC)), .d (.sl 12 (((pre ++ [i]) ++ post).map instC)), .d (.sl 4 (r.assets.map assetC))]]⟩ : ARow)), (11, grow 46 4 11 ((ownL r who cur done).map posC ++ (ownI who cur (pre ++ [i]) x).map posC))]) ?_ ?_ ?_ ?_, pre ++ [i], post, by simp [hsi], rfl, rfl⟩
            · simp only [leV, look_cons, Nat.reduceBEq, cond_true, cond_false, wrap_len pre i (by have e := congrArg List.length hsi; simp only [List.length_append, List.length_cons] at e; omega)]
              refine ⟨VLe.still rfl, VLe.still rfl, VLe.still rfl, VLe.ptr_ (f := (fun r => bif r == 11 then 86 else r)) (r := 4) (by simp), VLe.still rfl, ?_, VLe.still rfl, VLe.still rfl, trivial⟩
              rw [ownI_yes hs]
              rw [show (AV.ref 86 _ : AV) = .ref ((fun r => bif r == 11 then 86 else r) 11) ((ownL r who cur done).length + (ownI who cur pre x ++ [x]).length) from by simp [Nat.add_assoc]]; try exact VLe.ref_ (f := (fun r => bif r == 11 then 86 else r)) (r := 11) (by simp)
            · exact ⟨fun _ => ⟨_, rfl, RowLe.same (by simp) (by simp [AV.idsL, AV.ids])⟩, fun h => by simp at h, fun _ => ⟨_, rfl, RowLe.data_ (by rw [ownI_yes hs] <;> simp [posC])⟩, fun h => by simp at h, trivial⟩
            · simp [wfV, AV.ids, lookR, grow]
            · exact ⟨by simp [AV.idsL, AV.ids], wf_data _ _, trivial⟩
          · intro hb
            have hs : selI who cur x i = false := hb
            clear hb
            refine awp_skip ?_
            simp only [zz6, Nat.reduceEqDiff, ↓reduceIte]
            refine hK4 _ ?_; try clear hK4 K4
            refine awp_keepL [1, 2, 3, 4, 9, 11, 12, 13] ?_
            simp only [zz20, zzI, look_nil, Nat.reduceBEq]
            refine awp_plain F_mixed [some 45, some 46, some 13] rfl ?_
            simp only [List.nil_append, List.cons_append, true_and, and_true, zz0, true_implies, Nat.reduceLT, Nat.reduceLeDiff, zzI, look_nil, Nat.reduceBEq, implies_true, evS_move, zz21, gr_v, zz26, evS_assign, zz6, Nat.reduceEqDiff, ↓reduceIte]
            refine ⟨post.length, _, by simp, le_SK (fun r => bif r == 11 then 11 else r) [] rfl (l' := [(1, .d (iv who)), (2, .d (iv cur)), (3, .d (poss (rest ++ x :: done))), (4, .ptr 4 0 0), (9, .d (iv (margV r who cur l))), (11, .ref 11 ((ownL r who cur done).length + (ownI who cur (pre ++ [i]) x).length)), (12, .d (iv rest.length)), (13, .d (iv (pre ++ [i]).length))]) (m' := [(4, (⟨True, 26, 3, true, false, 4, [[.d (.sl 3 (r.mems.map memC)), .d (.sl 12 (((pre ++ [i]) ++ post).map instC)), .d (.sl 4 (r.assets.map assetC))]]⟩ : ARow)), (11, grow 46 4 11 ((ownL r who cur done).map posC ++ (ownI who cur (pre ++ [i]) x).map posC))]) ?_ ?_ ?_ ?_, pre ++ [i], post, by simp [hsi], rfl, rfl⟩
            · simp only [leV, look_cons, Nat.reduceBEq, cond_true, cond_false, wrap_len pre i (by have e := congrArg List.length hsi; simp only [List.length_append, List.length_cons] at e; omega)]
              refine ⟨VLe.still rfl, VLe.still rfl, VLe.still rfl, VLe.ptr_ (f := (fun r => bif r == 11 then 11 else r)) (r := 4) (by simp), VLe.still rfl, ?_, VLe.still rfl, VLe.still rfl, trivial⟩
              rw [ownI_no hs]
              rw [show (AV.ref 11 _ : AV) = .ref ((fun r => bif r == 11 then 11 else r) 11) ((ownL r who cur done).length + (ownI who cur pre x).length) from by simp [Nat.add_assoc]]; try exact VLe.ref_ (f := (fun r => bif r == 11 then 11 else r)) (r := 11) (by simp)
            · exact ⟨fun _ => ⟨_, rfl, RowLe.same (by simp) (by simp [AV.idsL, AV.ids])⟩, fun h => by simp at h, fun _ => ⟨_, rfl, RowLe.data_ (by rw [ownI_no hs] <;> simp [posC])⟩, fun h => by simp at h, trivial⟩
            · simp [wfV, AV.ids, lookR, grow]
            · exact ⟨by simp [AV.idsL, AV.ids], wf_data _ _, trivial⟩
        · intro hb
          obtain rfl := none_of hb; clear hb
          simp only [List.append_nil] at hsi ⊢
          subst hsi
          refine awp_exit ?_
          simp only [zz6, Nat.reduceEqDiff, ↓reduceIte]
          refine hK2 _ ?_; try clear hK2 K2
          refine awp_keepL [1, 2, 3, 4, 9, 11, 12] ?_
          simp only [zz20, zzI, look_nil, Nat.reduceBEq]
          refine awp_plain F_mixed [some 38, some 39, some 12] rfl ?_
          simp only [List.nil_append, List.cons_append, true_and, and_true, zz0, true_implies, Nat.reduceLT, Nat.reduceLeDiff, zzI, look_nil, Nat.reduceBEq, implies_true, evS_move, zz21, gr_v, zz33, evS_assign, zz6, Nat.reduceEqDiff, ↓reduceIte]
          refine ⟨rest.length, _, by simp, le_SK id [] rfl (l' := [(1, .d (iv who)), (2, .d (iv cur)), (3, .d (poss (rest ++ (x :: done)))), (4, .ptr 4 0 0), (9, .d (iv (margV r who cur l))), (11, .ref 11 (ownL r who cur (x :: done)).length), (12, .d (iv ((rest.length : Int) - 1)))]) (m' := [(4, (⟨True, 26, 3, true, false, 4, [[.d (.sl 3 (r.mems.map memC)), .d (.sl 12 (r.insts.map instC)), .d (.sl 4 (r.assets.map assetC))]]⟩ : ARow)), (11, grow 46 4 11 ((ownL r who cur (x :: done)).map posC))]) ?_ ?_ ?_ ?_, rest, x :: done, by simp [hsp], rfl, rfl⟩
          · simp only [leV, look_cons, Nat.reduceBEq, cond_true, cond_false, hw9]; refine ⟨VLe.still rfl, VLe.still rfl, VLe.still rfl, VLe.ptr_ (f := id) (r := 4) (by simp), VLe.still rfl, ?_, VLe.still rfl, trivial⟩
            rw [ownL_cons, List.length_append]; exact VLe.refl _
          · exact ⟨fun _ => ⟨_, rfl, RowLe.still (by simp [AV.idsL, AV.ids])⟩, fun h => by simp at h, fun _ => ⟨_, rfl, RowLe.data_ (by rw [ownL_cons, List.map_append])⟩, fun h => by simp at h, trivial⟩
          · simp [wfV, AV.ids, lookR, grow]
          · exact ⟨by simp [AV.idsL, AV.ids], wf_data _ _, trivial⟩
      · intro hb
        obtain rfl := first_of hb; clear hb
        simp only [List.nil_append] at hsp ⊢
        obtain rfl : l = done := hsp
        refine awp_exit ?_
        simp only [zz6, Nat.reduceEqDiff, ↓reduceIte]
        refine hK0 _ ?_; try clear hK0 K0
        refine awp_keepL [1, 2, 4, 9, 11] ?_
        simp only [zz20, zzI, look_nil, Nat.reduceBEq]
        refine awp_seq fun K0 hK0 => ?_
        refine awp_plain F_mixed [some 88, some 89, some 90, some 91, some 92, some 87, some 93, some 94, some 14, some 10] rfl ?_
        simp only [List.nil_append, List.cons_append, true_and, and_true, zz0, true_implies, Nat.reduceLT, Nat.reduceLeDiff, zzI, look_nil, Nat.reduceBEq, implies_true, F_ok26, F_ag26, F_sz26, zz8, zz23, zzD, Nat.reduceAdd, Nat.zero_add, zzF, zzB, zzE, zz16, Option.some.injEq, exists_eq_left', exists_eq_left, Option.map_some, eq_self, reduceCtorEq, and_self, evS_move, evS_call, evC_value, zz14, evS_assign, poss, grow, len_map, memsD, instsD, assetsD, rollC, D.agg.injEq, memA, memC, instA, instC, zzG, zz6, Nat.reduceEqDiff, ↓reduceIte]
        refine call_go F_go13 (fun hG => Margin_ r who cur (ownL r who cur l) h (by omega)) (by simp [AV.ids, AV.idsL]) (by simp) ?_
        simp only [List.nil_append, List.cons_append, true_and, and_true, zz0, true_implies, Nat.reduceLT, Nat.reduceLeDiff, zzI, look_nil, Nat.reduceBEq, implies_true, F_ok26, F_ag26, F_sz26, zz8, zz23, zzD, Nat.reduceAdd, Nat.zero_add, zzF, zzB, zzE, zz16, Option.some.injEq, exists_eq_left', exists_eq_left, Option.map_some, eq_self, reduceCtorEq, and_self, evS_move, evS_call, evC_value, zz14, evS_assign, poss, grow, len_map, memsD, instsD, assetsD, rollC, D.agg.injEq, memA, memC, instA, instC, zzG, zz6, Nat.reduceEqDiff, ↓reduceIte, atsL, oksG, freeN, AV.ren, AV.renL, addRows, ORow.row, Nat.reduceMul, Nat.reduceAdd, zz9, Option.bind_some, Option.map_some, forall_eq', D.sl.injEq, S_mem, Option.some.injEq, exists_eq_left', exists_eq_left, exists_eq', exists_eq, List.length_cons, zz2]
        refine hK0 _ ?_; try clear hK0 K0
        refine awp_keepL [9, 10, 14] ?_
        simp only [zz20, zzI, look_nil, Nat.reduceBEq]
        refine awp_seq fun K0 hK0 => ?_
        refine awp_plain F_mixed [some 95, some 96, some 97, some 98, some 99, some 100, some 101, some 102, some 103, some 104, some 8] rfl ?_
        simp only [List.nil_append, List.cons_append, true_and, and_true, zz0, true_implies, Nat.reduceLT, Nat.reduceLeDiff, zzI, look_nil, Nat.reduceBEq, implies_true, Nat.reduceSub, S_getD, zz5, and_imp, imp_and, imp_self, and_self, evS_move, zz21, gr_v, zz34, zz13, evS_call, evC_value, evS_assign, c.1, c.2, zz6, Nat.reduceEqDiff, ↓reduceIte]
        refine call_go F_go17 (fun hG => wakes15_) (by simp [AV.ids, AV.idsL]) (by simp) ?_
        simp only [List.nil_append, List.cons_append, true_and, and_true, zz0, true_implies, Nat.reduceLT, Nat.reduceLeDiff, zzI, look_nil, Nat.reduceBEq, implies_true, Nat.reduceSub, S_getD, zz5, and_imp, imp_and, imp_self, and_self, evS_move, zz21, gr_v, zz34, zz13, evS_call, evC_value, evS_assign, c.1, c.2, zz6, Nat.reduceEqDiff, ↓reduceIte, atsL, oksG, freeN, AV.ren, AV.renL, addRows, ORow.row, Nat.reduceMul, Nat.reduceAdd, zz9, Option.bind_some, Option.map_some, forall_eq', D.sl.injEq, zz16, Option.some.injEq, exists_eq_left', exists_eq_left, exists_eq', exists_eq, zzD, zz2]
        refine hK0 _ ?_; try clear hK0 K0
        refine awp_keepL [8] ?_
        simp only [zz20, zzI, look_nil, Nat.reduceBEq]
        refine awp_ret ?_
        simp only [zz6, Nat.reduceEqDiff, ↓reduceIte]
        refine done0 (by simp only [resCs, resC]; trivial) ?_ (by simp [flatA, flatAs, flatD]) (by simp [AV.ids, AV.idsL])
        simp only [List.map_cons, List.map_nil, resA, S_getD, Nat.reduceLT, Nat.reduceLeDiff, look_cons, Nat.reduceBEq, cond_true, cond_false, resAll]
        try simp
end Go.Proofs.Ytcpiojfhbebfiaa
