import Derived.Test.YtjkfadaedgidpaaSpecFV
import Derived.Test.YtjkfadaedgidpaaWpF
namespace Go.Proofs.Ytjkfadaedgidpaa
open Go.RowKit
set_option linter.unusedVariables false
set_option linter.unusedSimpArgs false
theorem F_bld63 : bldT Try.prog 63 = true := by kernel_rfl
theorem F_fld63_0 : fldT Try.prog 63 0 = some (0, 3) := by kernel_rfl
theorem F_fld63_1 : fldT Try.prog 63 1 = some (3, 1) := by kernel_rfl
theorem F_zero24 : zeroT Try.prog 24 = some [(.int .i64 0), (.slice none 0 0)] := by kernel_rfl
theorem F_bld24 : bldT Try.prog 24 = true := by kernel_rfl
theorem F_fld24_1 : fldT Try.prog 24 1 = some (1, 1) := by kernel_rfl
theorem F_go8 : goFn Try.prog 8 := ⟨_, Try.func8, rfl, rfl⟩
theorem F_go20 : goFn Try.prog 20 := ⟨_, Try.func20, rfl, rfl⟩
theorem F_go9 : goFn Try.prog 9 := ⟨_, Try.func9, rfl, rfl⟩
theorem F_go10 : goFn Try.prog 10 := ⟨_, Try.func10, rfl, rfl⟩
theorem taut2 {A B : Prop} : (A → B → A) = True := eq_true fun a _ => a
theorem taut3 {A B C : Prop} : (A → B → C → A) = True := eq_true fun a _ _ => a
theorem taut4 {A B C D : Prop} : (A → B → C → D → A) = True := eq_true fun a _ _ _ => a
theorem taut5 {A B C D E : Prop} : (A → B → C → D → E → A) = True := eq_true fun a _ _ _ _ => a
def opsIn (n : Nat) : Code → List Oper
  | .region id ops _ => if id == n then ops.toList else []
  | .seq a b => opsIn n a ++ opsIn n b
  | .cond _ a b => opsIn n a ++ opsIn n b
  | .block _ c => opsIn n c
  | .loop c => opsIn n c
  | _ => []
theorem lexFair : lexC .any (opsIn 25 (Try.f4.body.getD .skip)).toArray = true := by kernel_rfl
theorem wakes21_ : ACalls Try.prog 9 [] [] (bv true) := by
  refine acalls_S (rs := [.tmp 0]) Try.func9 rfl rfl 46 [] rfl (by simp) rfl ?_
  have w1 := wk21
  have w2 := wk21e
  refine awp_seq fun K0 hK0 => ?_
  refine awp_plain F_mixed [some 0] rfl ?_
  simp only [zzK, Nat.reduceLT, Nat.reduceLeDiff, Nat.reduceBEq, evS_assign, zz6, Nat.reduceEqDiff, ↓reduceIte]
  refine hK0 _ ?_; try clear hK0 K0
  refine awp_keepL [] ?_
  simp only [zzJ, Nat.reduceBEq]
  refine awp_seq fun K0 hK0 => ?_
  refine awp_plain F_mixed [some 4, some 5, some 6, some 7, some 8, some 9, some 10, some 11, some 1, none] rfl ?_
  simp only [zzK, Nat.reduceLT, Nat.reduceLeDiff, Nat.reduceBEq, F_zero32, F_bld32, zz7, splice, Option.getD_some, List.append_nil, zz1, zzG, zzD, zzC, Option.map_some, yyE, reduceCtorEq, Nat.reduceAdd, Nat.zero_add, zzH, zz10, F_fld32_0, F_zero63, F_bld63, F_fld63_0, F_fld63_1, F_fld32_1, F_sl22, F_sz63, zz3, newRow1, maxLen_le, Nat.reduceMul, F_zero24, F_bld24, F_fld24_1, zz32, zz18, F_ok24, F_sz24, List.map_cons, D.agg.injEq, zz6, Nat.reduceEqDiff, ↓reduceIte]
  refine hK0 _ ?_; try clear hK0 K0
  refine awp_keepL [1] ?_
  simp only [zzJ, Nat.reduceBEq]
  refine awp_seq fun K0 hK0 => ?_
  refine awp_plain F_mixed [some 13, some 14, some 15, some 12, some 16, some 17, some 2, some 3] rfl ?_
  simp only [zzK, Nat.reduceLT, Nat.reduceLeDiff, Nat.reduceBEq, F_ok24, F_ag24, F_sz24, zz8, zz23, zzD, Nat.reduceAdd, Nat.zero_add, zzH, zzC, Option.map_some, yyE, reduceCtorEq, F_sl25, F_zero3, F_sz3, zz3, newRow1, zz1, zzG, maxLen_le, Nat.reduceMul, evS_call, evC_value, evS_move, zz14, evS_assign, ledC, legs, legC, ints, w1, w2, List.map_cons, D.agg.injEq, zz6, Nat.reduceEqDiff, ↓reduceIte]
  refine call_goE F_go8 (fun hG => levyF 0 [⟨⟨1, 0, 0⟩, -40⟩, ⟨⟨3, 1, 0⟩, 30⟩, ⟨⟨3, 2, 0⟩, 10⟩] 0 10 [1, 2, 3] (by decide) (by decide)) (by simp [AV.ids, AV.idsL]) (by simp) ?_
  simp only [zzK, Nat.reduceLT, Nat.reduceLeDiff, Nat.reduceBEq, F_ok24, F_ag24, F_sz24, zz8, zz23, zzD, Nat.reduceAdd, Nat.zero_add, zzH, zzC, Option.map_some, yyE, reduceCtorEq, F_sl25, F_zero3, F_sz3, zz3, newRow1, zz1, zzG, maxLen_le, Nat.reduceMul, evS_call, evC_value, evS_move, zz14, evS_assign, ledC, legs, legC, ints, w1, w2, List.map_cons, D.agg.injEq, zz6, Nat.reduceEqDiff, ↓reduceIte, asEs_cons, asEs_nil, asE_ag, asE_d, asE_ref, asEc_cons, asEc_nil, asF_d, asF_ref, asF_ag, asGs, oksF, atsL, oksG, freeN, AV.ren, AV.renL, addRows, ORow.row, Nat.reduceMul, Nat.reduceAdd, zz9, Option.bind_some, Option.map_some, S_mem, yyF, List.length_cons, zz2]
  refine hK0 _ ?_; try clear hK0 K0
  refine awp_keepL [2, 3] ?_
  simp only [zzJ, Nat.reduceBEq]
  refine awp_seq fun K0 hK0 => ?_
  refine awp_plain F_mixed [some 18, some 19, some 20, some 21, some 22, some 23, some 24, some 25, some 26, some 27, some 28, some 29, some 30, some 31, some 32, some 33, some 34, some 35, some 36, some 37, some 38, some 39, some 40, some 41, some 42, some 43, some 44, some 45, some 0] rfl ?_
  simp only [zzK, Nat.reduceLT, Nat.reduceLeDiff, Nat.reduceBEq, Nat.reduceSub, S_getD, zz5, and_imp, imp_and, imp_self, evS_move, zz21, gr_v, zz34, evS_call, zz12, F_sl26, Option.isSome_some, zz13, pickK_l, pickK_r, evS_indexAddr, zz23, zz24, F_sz34, Option.map_some, zzC, yyE, reduceCtorEq, zz19, F_off34_1, zzH, Nat.zero_add, Nat.reduceAdd, F_ok3, F_ag3, F_sz3, zz8, zzD, evS_assign, w1, w2, legs, legC, zzG, List.length_cons, List.getD_cons_zero, Int.reduceLT, Int.reduceLE, Int.reduceToNat, Int.toNat_zero, Int.toNat_one, Nat.reduceLT, Nat.reduceAdd, Nat.zero_add, Int.le_refl, D.agg.injEq, zz6, Nat.reduceEqDiff, ↓reduceIte]
  refine ⟨fun _ => by decide, fun _ => by decide, fun _ => by decide, ?_⟩
  refine hK0 _ ?_; try clear hK0 K0
  refine awp_keepL [0] ?_
  simp only [zzJ, Nat.reduceBEq]
  refine awp_ret ?_
  simp only [zz6, Nat.reduceEqDiff, ↓reduceIte]
  refine done0 (by simp only [resCs, resC]; trivial) ?_ (by simp [flatA, flatAs, flatD]) (by simp [AV.ids, AV.idsL])
  simp only [List.map_cons, List.map_nil, resA, S_getD, Nat.reduceLT, Nat.reduceLeDiff, look_cons, Nat.reduceBEq, cond_true, cond_false, resAll]
  try simp
theorem rSame_ (a b : AcV) : ACalls Try.prog 20 [.agg (acC a), .agg (acC b)] [] (bv (acSame a b)) := by
  refine acalls_S (rs := [.tmp 4]) Try.func20 rfl rfl 24 [(0, .d (.agg (acC a))), (1, .d (.agg (acC b)))] rfl (by simp) rfl ?_
  refine awp_seq fun K0 hK0 => ?_
  refine awp_plain F_mixed [some 2, some 3, some 4] rfl ?_
  simp only [zzK, Nat.reduceLT, Nat.reduceLeDiff, Nat.reduceBEq, zz35, newRow1, zz1, zzG, zzD, zzC, Option.map_some, yyE, reduceCtorEq, Nat.reduceAdd, Nat.zero_add, zzH, evS_assign, acC, zz6, Nat.reduceEqDiff, ↓reduceIte]
  refine hK0 _ ?_; try clear hK0 K0
  refine awp_keepL [2, 3] ?_
  simp only [zzJ, Nat.reduceBEq]
  refine awp_seq fun K0 hK0 => ?_
  refine awp_plain F_mixed [some 5, some 6, some 7, some 8, some 9, some 10, some 11, some 12, some 13, some 14, some 15, some 16, some 17, some 18, some 19, some 20, some 21, some 22, some 23, some 4] rfl ?_
  simp only [zzK, Nat.reduceLT, Nat.reduceLeDiff, Nat.reduceBEq, Nat.reduceSub, S_getD, zz5, and_imp, imp_and, imp_self, zz19, zz23, F_off32_0, zzH, Nat.zero_add, Nat.reduceAdd, F_ok3, F_ag3, F_sz3, zz8, zzD, zzC, Option.map_some, yyE, reduceCtorEq, zz21, gr_v, zz34, evS_move, F_off32_1, zz13, pickK_l, pickK_r, F_off32_2, evS_assign, zz6, Nat.reduceEqDiff, ↓reduceIte]
  refine hK0 _ ?_; try clear hK0 K0
  refine awp_keepL [4] ?_
  simp only [zzJ, Nat.reduceBEq]
  refine awp_ret ?_
  simp only [zz6, Nat.reduceEqDiff, ↓reduceIte]
  refine done0 (by simp only [resCs, resC]; trivial) ?_ (by simp [flatA, flatAs, flatD]) (by simp [AV.ids, AV.idsL])
  simp only [List.map_cons, List.map_nil, resA, S_getD, Nat.reduceLT, Nat.reduceLeDiff, look_cons, Nat.reduceBEq, cond_true, cond_false, resAll]
  try rfl
theorem rOf_ (nx : Int) (l : List LegV) (a : AcV) (hl : l.length ≤ 500000) : ACalls Try.prog 10 [.agg (ledC ⟨nx, l⟩), .agg (acC a)] [] (.d (iv (ofL a l))) := by
  refine acalls_S (rs := [.tmp 4]) Try.func10 rfl rfl 27 [(0, .d (.agg (ledC ⟨nx, l⟩))), (1, .d (.agg (acC a)))] rfl (by simp) rfl ?_
  refine awp_seq fun K0 hK0 => ?_
  refine awp_plain F_mixed [some 2, some 3, some 4] rfl ?_
  simp only [zzK, Nat.reduceLT, Nat.reduceLeDiff, Nat.reduceBEq, zz35, newRow1, zz1, zzG, zzD, zzC, Option.map_some, yyE, reduceCtorEq, Nat.reduceAdd, Nat.zero_add, zzH, evS_assign, ledC, legs, acC, zz6, Nat.reduceEqDiff, ↓reduceIte]
  refine hK0 _ ?_; try clear hK0 K0
  refine awp_keepL [2, 3] ?_
  simp only [zzJ, Nat.reduceBEq]
  refine awp_seq fun K0 hK0 => ?_
  refine awp_seq fun K1 hK1 => ?_
  refine awp_plain F_mixed [some 5] rfl ?_
  simp only [zzK, Nat.reduceLT, Nat.reduceLeDiff, Nat.reduceBEq, evS_assign, zz6, Nat.reduceEqDiff, ↓reduceIte]
  refine hK1 _ ?_; try clear hK1 K1
  refine awp_keepL [2, 3, 5] ?_
  simp only [zzJ, Nat.reduceBEq]
  refine awp_block ?_
  refine awp_loop (fun m s => ∃ (pre : List LegV) (post : List LegV), (l = pre ++ post) ∧ (ofL a l = ofL a post) ∧ m = post.length ∧ s = S 27 [(2, .ptr 2 0 0), (3, .ptr 3 0 0), (5, .d (iv pre.length))] [(2, (⟨True, 24, 2, true, false, 2, [[.d (iv nx), .d (.sl 4 (l.map legC))]]⟩ : ARow)), (3, (⟨True, 32, 3, true, false, 3, [[.d (iv a.kind), .d (iv a.who), .d (iv a.cur)]]⟩ : ARow))]) (l.length) _ (le_SK id [] rfl (l' := [(2, .ptr 2 0 0), (3, .ptr 3 0 0), (5, .d (iv [].length))]) (m' := [(2, (⟨True, 24, 2, true, false, 2, [[.d (iv nx), .d (.sl 4 (l.map legC))]]⟩ : ARow)), (3, (⟨True, 32, 3, true, false, 3, [[.d (iv a.kind), .d (iv a.who), .d (iv a.cur)]]⟩ : ARow))]) ?_ ?_ ?_ ?_) ⟨[], l, rfl, rfl, rfl, rfl⟩ ?_
  · simp only [leV, look_cons, Nat.reduceBEq, cond_true, cond_false]; exact ⟨(by first | exact VLe.still rfl | exact VLe.nil_ (by decide) | exact VLe.nild_ | exact VLe.refl _ | exact VLe.ptrE (by simp) (by rfl) | exact VLe.refE (by simp) (by rfl) (by first | rfl | (simp; done) | (simp; omega)) | exact VLe.dE (by first | rfl | simp)), (by first | exact VLe.still rfl | exact VLe.nil_ (by decide) | exact VLe.nild_ | exact VLe.refl _ | exact VLe.ptrE (by simp) (by rfl) | exact VLe.refE (by simp) (by rfl) (by first | rfl | (simp; done) | (simp; omega)) | exact VLe.dE (by first | rfl | simp)), (by first | exact VLe.still rfl | exact VLe.nil_ (by decide) | exact VLe.nild_ | exact VLe.refl _ | exact VLe.ptrE (by simp) (by rfl) | exact VLe.refE (by simp) (by rfl) (by first | rfl | (simp; done) | (simp; omega)) | exact VLe.dE (by first | rfl | simp)), trivial⟩
  · exact ⟨fun _ => ⟨_, rfl, (by first | exact RowLe.data_ (by first | rfl | simp) | exact RowLe.uq2 (by first | rfl | simp) (by simp) ids_data | exact RowLe.still (by simp [AV.idsL, AV.ids]) | exact RowLe.same (by simp) (by simp [AV.idsL, AV.ids]))⟩, fun h => by simp at h, fun _ => ⟨_, rfl, (by first | exact RowLe.data_ (by first | rfl | simp) | exact RowLe.uq2 (by first | rfl | simp) (by simp) ids_data | exact RowLe.still (by simp [AV.idsL, AV.ids]) | exact RowLe.same (by simp) (by simp [AV.idsL, AV.ids]))⟩, fun h => by simp at h, trivial⟩
  · simp [wfV, AV.ids, AV.idsL, lookR, grow]
  · exact ⟨by simp [AV.idsL, AV.ids, lookR], by simp [AV.idsL, AV.ids, lookR], trivial⟩
  rintro m s ⟨pre, post, hsp, ho, rfl, rfl⟩
  have hspl := congrArg List.length hsp
  simp only [List.length_append] at hspl
  refine awp_seq fun K2 hK2 => ?_
  refine awp_seq fun K3 hK3 => ?_
  refine awp_plain F_mixed [some 6, some 7, some 8, some 9, some 10] rfl ?_
  simp only [zzK, Nat.reduceLT, Nat.reduceLeDiff, Nat.reduceBEq, evS_move, zz19, zz23, F_off24_1, zzH, Nat.zero_add, Nat.reduceAdd, F_ok22, F_ag22, F_sz22, zz8, zzD, zzC, Option.map_some, yyE, reduceCtorEq, evS_call, zz12, F_sl22, Option.isSome_some, zz21, gr_v, zz22, len_map, zz6, Nat.reduceEqDiff, ↓reduceIte]
  refine hK3 _ ?_; try clear hK3 K3
  refine awp_keepL [2, 3, 5, 10] ?_
  simp only [zzJ, Nat.reduceBEq]
  refine awp_condS _ (by decide) (by simp only [look_cons, Nat.reduceBEq, cond_true, cond_false]; rfl) ?_ ?_
  · intro hb
    obtain ⟨x, post2, rfl⟩ : ∃ x t, post = x :: t := by
      cases post with
      | nil => have := of_decide_eq_true hb; simp at hspl; omega
      | cons x t => exact ⟨x, t, rfl⟩
    clear hb
    simp only [List.length_cons] at hspl
    have gx : (l.map legC).getD pre.length [] = [iv x.ac.kind, iv x.ac.who, iv x.ac.cur, iv x.amt] := by
      rw [hsp, List.map_append]; exact gd_mid' (A := pre.map legC) _ _ (by simp)
    have bx := ltI (show pre.length < l.length by omega)
    have hwx : IntKind.wrap .i64 ((pre.length : Int) + 1) = ((pre ++ [x]).length : Int) := by rw [wrapI (by omega) (by omega)]; simp
    refine awp_skip ?_
    simp only [zz6, Nat.reduceEqDiff, ↓reduceIte]
    refine hK2 _ ?_; try clear hK2 K2
    refine awp_keepL [2, 3, 5] ?_
    simp only [zzJ, Nat.reduceBEq]
    refine awp_seq fun K2 hK2 => ?_
    refine awp_block ?_
    refine awp_seq fun K3 hK3 => ?_
    refine awp_draw F_mixed [some 13, some 14, some 15, some 16, some 17, some 18, some 19, some 20] rfl (by kernel_rfl) ?_
    simp only [zzK, Nat.reduceLT, Nat.reduceLeDiff, Nat.reduceBEq, zz19, zz23, F_off24_1, zzH, Nat.zero_add, Nat.reduceAdd, F_ok22, F_ag22, F_sz22, zz8, zzD, zzC, Option.map_some, yyE, reduceCtorEq, evS_move, evS_indexAddr, zz24, F_sl22, F_sz63, F_off63_0, F_ok32, F_ag32, F_sz32, evS_call, evC_value, gx, bx, hwx, len_map, ge0, Int.toNat_natCast, D.agg.injEq, legC, acC, zz6, Nat.reduceEqDiff, ↓reduceIte]
    refine call_go F_go20 (fun hG => rSame_ x.ac a) (by simp [AV.ids, AV.idsL]) (by simp) ?_
    simp only [zzK, Nat.reduceLT, Nat.reduceLeDiff, Nat.reduceBEq, zz19, zz23, F_off24_1, zzH, Nat.zero_add, Nat.reduceAdd, F_ok22, F_ag22, F_sz22, zz8, zzD, zzC, Option.map_some, yyE, reduceCtorEq, evS_move, evS_indexAddr, zz24, F_sl22, F_sz63, F_off63_0, F_ok32, F_ag32, F_sz32, evS_call, evC_value, gx, bx, hwx, len_map, ge0, Int.toNat_natCast, D.agg.injEq, legC, acC, zz6, Nat.reduceEqDiff, ↓reduceIte, atsL, oksG, freeN, AV.ren, AV.renL, addRows, ORow.row, Nat.reduceMul, Nat.reduceAdd, zz9, Option.bind_some, Option.map_some, S_mem, yyF, List.length_cons, zz2]
    refine hK3 _ ?_; try clear hK3 K3
    refine awp_keepL [2, 3, 5, 20] ?_
    simp only [zzJ, Nat.reduceBEq]
    refine awp_condS _ (by decide) (by simp only [look_cons, Nat.reduceBEq, cond_true, cond_false]; rfl) ?_ ?_
    · intro hb
      have hs : acSame x.ac a = true := hb
      clear hb
      refine awp_seq fun K4 hK4 => ?_
      refine awp_plain F_mixed [some 21, some 22, some 23, some 24, some 25, some 26, some 4] rfl ?_
      simp only [zzK, Nat.reduceLT, Nat.reduceLeDiff, Nat.reduceBEq, zz19, zz23, F_off24_1, zzH, Nat.zero_add, Nat.reduceAdd, F_ok22, F_ag22, F_sz22, zz8, zzD, zzC, Option.map_some, yyE, reduceCtorEq, evS_move, evS_indexAddr, zz24, F_sl22, F_sz63, F_off63_1, F_ok3, F_ag3, F_sz3, evS_assign, gx, bx, hwx, len_map, ge0, Int.toNat_natCast, D.agg.injEq, legC, zz6, Nat.reduceEqDiff, ↓reduceIte]
      refine hK4 _ ?_; try clear hK4 K4
      refine awp_keepL [4] ?_
      simp only [zzJ, Nat.reduceBEq]
      refine awp_ret ?_
      simp only [zz6, Nat.reduceEqDiff, ↓reduceIte]
      refine done0 (by simp only [resCs, resC]; trivial) ?_ (by simp [flatA, flatAs, flatD]) (by simp [AV.ids, AV.idsL])
      simp only [List.map_cons, List.map_nil, resA, S_getD, Nat.reduceLT, Nat.reduceLeDiff, look_cons, Nat.reduceBEq, cond_true, cond_false, resAll]
      rw [ho, ofL, hs]; rfl
    · intro hb
      have hs : acSame x.ac a = false := hb
      clear hb
      refine awp_skip ?_
      simp only [zz6, Nat.reduceEqDiff, ↓reduceIte]
      refine hK2 _ ?_; try clear hK2 K2
      refine awp_keepL [2, 3, 5] ?_
      simp only [zzJ, Nat.reduceBEq]
      refine awp_plain F_mixed [some 11, some 12, some 5] rfl ?_
      simp only [zzK, Nat.reduceLT, Nat.reduceLeDiff, Nat.reduceBEq, evS_move, zz21, gr_v, zz26, evS_assign, hwx, zz6, Nat.reduceEqDiff, ↓reduceIte]
      refine ⟨post2.length, _, by simp, le_SK id [] rfl (l' := [(2, .ptr 2 0 0), (3, .ptr 3 0 0), (5, .d (iv (pre ++ [x]).length))]) (m' := [(2, (⟨True, 24, 2, true, false, 2, [[.d (iv nx), .d (.sl 4 (l.map legC))]]⟩ : ARow)), (3, (⟨True, 32, 3, true, false, 3, [[.d (iv a.kind), .d (iv a.who), .d (iv a.cur)]]⟩ : ARow))]) ?_ ?_ ?_ ?_, (pre ++ [x]), post2, by simp [hsp], by rw [ho, ofL, hs]; rfl, rfl, rfl⟩
      · simp only [leV, look_cons, Nat.reduceBEq, cond_true, cond_false, hwx]; exact ⟨(by first | exact VLe.still rfl | exact VLe.nil_ (by decide) | exact VLe.nild_ | exact VLe.refl _ | exact VLe.ptrE (by simp) (by rfl) | exact VLe.refE (by simp) (by rfl) (by first | rfl | (simp; done) | (simp; omega)) | exact VLe.dE (by first | rfl | simp)), (by first | exact VLe.still rfl | exact VLe.nil_ (by decide) | exact VLe.nild_ | exact VLe.refl _ | exact VLe.ptrE (by simp) (by rfl) | exact VLe.refE (by simp) (by rfl) (by first | rfl | (simp; done) | (simp; omega)) | exact VLe.dE (by first | rfl | simp)), (by first | exact VLe.still rfl | exact VLe.nil_ (by decide) | exact VLe.nild_ | exact VLe.refl _ | exact VLe.ptrE (by simp) (by rfl) | exact VLe.refE (by simp) (by rfl) (by first | rfl | (simp; done) | (simp; omega)) | exact VLe.dE (by first | rfl | simp)), trivial⟩
      · exact ⟨fun _ => ⟨_, rfl, (by first | exact RowLe.data_ (by first | rfl | simp) | exact RowLe.uq2 (by first | rfl | simp) (by simp) ids_data | exact RowLe.still (by simp [AV.idsL, AV.ids]) | exact RowLe.same (by simp) (by simp [AV.idsL, AV.ids]))⟩, fun h => by simp at h, fun _ => ⟨_, rfl, (by first | exact RowLe.data_ (by first | rfl | simp) | exact RowLe.uq2 (by first | rfl | simp) (by simp) ids_data | exact RowLe.still (by simp [AV.idsL, AV.ids]) | exact RowLe.same (by simp) (by simp [AV.idsL, AV.ids]))⟩, fun h => by simp at h, trivial⟩
      · simp [wfV, AV.ids, AV.idsL, lookR, grow]
      · exact ⟨by simp [AV.idsL, AV.ids, lookR], by simp [AV.idsL, AV.ids, lookR], trivial⟩
  · intro hb
    obtain rfl : post = [] := by
      cases post with
      | nil => rfl
      | cons x t => have := of_decide_eq_false hb; simp at hspl; omega
    clear hb
    simp only [List.append_nil] at hsp
    subst hsp
    refine awp_exit ?_
    simp only [zz6, Nat.reduceEqDiff, ↓reduceIte]
    refine hK0 _ ?_; try clear hK0 K0
    refine awp_keepL [] ?_
    simp only [zzJ, Nat.reduceBEq]
    refine awp_seq fun K0 hK0 => ?_
    refine awp_plain F_mixed [some 4] rfl ?_
    simp only [zzK, Nat.reduceLT, Nat.reduceLeDiff, Nat.reduceBEq, evS_assign, zz6, Nat.reduceEqDiff, ↓reduceIte]
    refine hK0 _ ?_; try clear hK0 K0
    refine awp_keepL [4] ?_
    simp only [zzJ, Nat.reduceBEq]
    refine awp_ret ?_
    simp only [zz6, Nat.reduceEqDiff, ↓reduceIte]
    refine done0 (by simp only [resCs, resC]; trivial) ?_ (by simp [flatA, flatAs, flatD]) (by simp [AV.ids, AV.idsL])
    simp only [List.map_cons, List.map_nil, resA, S_getD, Nat.reduceLT, Nat.reduceLeDiff, look_cons, Nat.reduceBEq, cond_true, cond_false, resAll]
    rw [ho]; rfl
set_option maxRecDepth 100000 in
set_option maxHeartbeats 4000000 in
theorem fundFair_ (nx : Int) (l : List LegV) (c amt : Int) (ws : List Int) : ACalls Try.prog 4 [.agg (ledC ⟨nx, l⟩), iv c, iv amt, ints ws] [] (bv true) := by
  refine acalls_S (rs := [.tmp 8]) Try.func4 rfl rfl 185 [(0, .d (.agg (ledC ⟨nx, l⟩))), (1, .d (iv c)), (2, .d (iv amt)), (3, .d (ints ws))] rfl (by simp) rfl ?_
  refine awp_seq fun K0 hK0 => ?_
  refine awp_plain F_mixed [some 4, some 8] rfl ?_
  simp only [zzK, Nat.reduceLT, Nat.reduceLeDiff, Nat.reduceBEq, zz35, newRow1, zz1, zzG, zzD, zzC, Option.map_some, yyE, reduceCtorEq, Nat.reduceAdd, Nat.zero_add, zzH, evS_assign, ledC, legs, zz6, Nat.reduceEqDiff, ↓reduceIte]
  refine hK0 _ ?_; try clear hK0 K0
  refine awp_keepL [1, 2, 3, 4] ?_
  simp only [zzJ, Nat.reduceBEq]
  refine awp_seq fun K0 hK0 => ?_
  refine awp_seq fun K1 hK1 => ?_
  refine awp_plain F_mixed [some 19, some 20, some 21, some 22, some 23, some 24, some 25, some 26, some 27] rfl ?_
  simp only [zzK, Nat.reduceLT, Nat.reduceLeDiff, Nat.reduceBEq, Nat.reduceSub, S_getD, zz5, and_imp, imp_and, imp_self, zz19, zz23, F_off24_1, zzH, Nat.zero_add, Nat.reduceAdd, F_ok22, F_ag22, F_sz22, zz8, zzD, zzC, Option.map_some, yyE, reduceCtorEq, evS_call, zz12, F_sl22, Option.isSome_some, zz21, gr_v, zz25, evS_move, F_sl25, zz13, pickK_l, pickK_r, ledC, legs, ints, len_map, zz6, Nat.reduceEqDiff, ↓reduceIte]
  refine hK1 _ ?_; try clear hK1 K1
  refine awp_keepL [1, 2, 3, 4, 27] ?_
  simp only [zzJ, Nat.reduceBEq]
  refine awp_condS _ (by decide) (by simp only [look_cons, Nat.reduceBEq, cond_true, cond_false]; rfl) ?_ ?_
  · intro hb
    clear hb
    refine awp_seq fun K2 hK2 => ?_
    refine awp_plain F_mixed [some 8] rfl ?_
    simp only [zzK, Nat.reduceLT, Nat.reduceLeDiff, Nat.reduceBEq, evS_assign, zz6, Nat.reduceEqDiff, ↓reduceIte]
    refine hK2 _ ?_; try clear hK2 K2
    refine awp_keepL [8] ?_
    simp only [zzJ, Nat.reduceBEq]
    refine awp_ret ?_
    simp only [zz6, Nat.reduceEqDiff, ↓reduceIte]
    refine done0 (by simp only [resCs, resC]; trivial) ?_ (by simp [flatA, flatAs, flatD]) (by simp [AV.ids, AV.idsL])
    simp only [List.map_cons, List.map_nil, resA, S_getD, Nat.reduceLT, Nat.reduceLeDiff, look_cons, Nat.reduceBEq, cond_true, cond_false, resAll]
    
  · intro hb
    have hlw : l.length ≤ 300 ∧ ws.length ≤ 300 := by simp at hb; omega
    clear hb
    have hvl := lvV_len ⟨nx, l⟩ c amt ws
    refine awp_skip ?_
    simp only [zz6, Nat.reduceEqDiff, ↓reduceIte]
    refine hK0 _ ?_; try clear hK0 K0
    refine awp_keepL [1, 2, 3, 4] ?_
    simp only [zzJ, Nat.reduceBEq]
    refine awp_seq fun K0 hK0 => ?_
    refine awp_plain F_mixed [some 29, some 30, some 31, some 32, some 33, some 28, some 34, some 35, some 9, some 10] rfl ?_
    simp only [zzK, Nat.reduceLT, Nat.reduceLeDiff, Nat.reduceBEq, F_ok24, F_ag24, F_sz24, zz8, zz23, zzD, Nat.reduceAdd, Nat.zero_add, zzH, zzC, Option.map_some, yyE, reduceCtorEq, evS_move, evS_call, evC_value, zz14, evS_assign, ledC, legs, ints, D.agg.injEq, zz6, Nat.reduceEqDiff, ↓reduceIte]
    refine call_go F_go8 (fun hG => levyF nx l c amt ws (by omega) (by omega)) (by simp [AV.ids, AV.idsL]) (by simp) ?_
    simp only [zzK, Nat.reduceLT, Nat.reduceLeDiff, Nat.reduceBEq, F_ok24, F_ag24, F_sz24, zz8, zz23, zzD, Nat.reduceAdd, Nat.zero_add, zzH, zzC, Option.map_some, yyE, reduceCtorEq, evS_move, evS_call, evC_value, zz14, evS_assign, ledC, legs, ints, D.agg.injEq, zz6, Nat.reduceEqDiff, ↓reduceIte, atsL, oksG, freeN, AV.ren, AV.renL, addRows, ORow.row, Nat.reduceMul, Nat.reduceAdd, zz9, Option.bind_some, Option.map_some, S_mem, yyF, List.length_cons, zz2]
    refine hK0 _ ?_; try clear hK0 K0
    refine awp_keepL [1, 3, 4, 9, 10] ?_
    simp only [zzJ, Nat.reduceBEq]
    refine awp_seq fun K0 hK0 => ?_
    refine awp_seq fun K1 hK1 => ?_
    refine awp_plain F_mixed [some 36, some 37] rfl ?_
    simp only [zzK, Nat.reduceLT, Nat.reduceLeDiff, Nat.reduceBEq, evS_move, zz21, gr_v, zz28, zz6, Nat.reduceEqDiff, ↓reduceIte]
    refine hK1 _ ?_; try clear hK1 K1
    refine awp_keepL [1, 3, 4, 9, 37] ?_
    simp only [zzJ, Nat.reduceBEq]
    refine awp_condS _ (by decide) (by simp only [look_cons, Nat.reduceBEq, cond_true, cond_false]; rfl) ?_ ?_
    · intro hb
      clear hb
      refine awp_seq fun K2 hK2 => ?_
      refine awp_plain F_mixed [some 38, some 8] rfl ?_
      simp only [zzK, Nat.reduceLT, Nat.reduceLeDiff, Nat.reduceBEq, evS_call, evC_value, evS_assign, zz6, Nat.reduceEqDiff, ↓reduceIte]
      refine call_go F_go9 (fun hG => wakes21_) (by simp [AV.ids, AV.idsL]) (by simp) ?_
      simp only [zzK, Nat.reduceLT, Nat.reduceLeDiff, Nat.reduceBEq, evS_call, evC_value, evS_assign, zz6, Nat.reduceEqDiff, ↓reduceIte, atsL, oksG, freeN, AV.ren, AV.renL, addRows, ORow.row, Nat.reduceMul, Nat.reduceAdd, zz9, Option.bind_some, Option.map_some, zzC, yyF, zzD, zz2]
      refine hK2 _ ?_; try clear hK2 K2
      refine awp_keepL [8] ?_
      simp only [zzJ, Nat.reduceBEq]
      refine awp_ret ?_
      simp only [zz6, Nat.reduceEqDiff, ↓reduceIte]
      refine done0 (by simp only [resCs, resC]; trivial) ?_ (by simp [flatA, flatAs, flatD]) (by simp [AV.ids, AV.idsL])
      simp only [List.map_cons, List.map_nil, resA, S_getD, Nat.reduceLT, Nat.reduceLeDiff, look_cons, Nat.reduceBEq, cond_true, cond_false, resAll]
      
    · intro hb
      have he : lvE ⟨nx, l⟩ c amt ws = 0 := by simpa using hb
      clear hb
      have hF := lv_facts he
      have hbs := brs_eq he
      refine awp_skip ?_
      simp only [zz6, Nat.reduceEqDiff, ↓reduceIte]
      refine hK0 _ ?_; try clear hK0 K0
      refine awp_keepL [1, 3, 4, 9] ?_
      simp only [zzJ, Nat.reduceBEq]
      refine awp_seq fun K0 hK0 => ?_
      refine awp_plain F_mixed [some 11, some 12] rfl ?_
      simp only [zzK, Nat.reduceLT, Nat.reduceLeDiff, Nat.reduceBEq, evS_assign, zz6, Nat.reduceEqDiff, ↓reduceIte]
      refine hK0 _ ?_; try clear hK0 K0
      refine awp_keepL [1, 3, 4, 9, 11, 12] ?_
      simp only [zzJ, Nat.reduceBEq]
      refine awp_seq fun K0 hK0 => ?_
      refine awp_seq fun K1 hK1 => ?_
      refine awp_plain F_mixed [some 13] rfl ?_
      simp only [zzK, Nat.reduceLT, Nat.reduceLeDiff, Nat.reduceBEq, evS_assign, zz6, Nat.reduceEqDiff, ↓reduceIte]
      refine hK1 _ ?_; try clear hK1 K1
      refine awp_keepL [1, 3, 4, 9, 11, 12, 13] ?_
      simp only [zzJ, Nat.reduceBEq]
      refine awp_block ?_
      refine awp_loop (fun m s => ∃ (pre : List Int) (post : List Int), (ws = pre ++ post) ∧ m = post.length ∧ s = S 185 [(1, .d (iv c)), (3, .d (ints ws)), (4, .ptr 4 0 0), (9, .d (legs (lvV ⟨nx, l⟩ c amt ws))), (11, .ref 11 (shV c l pre).length), (12, .ref 12 (brs (lvV ⟨nx, l⟩ c amt ws) pre).length), (13, .d (iv pre.length))] [(4, (⟨True, 24, 2, true, false, 4, [[.d (iv nx), .d (.sl 4 (l.map legC))]]⟩ : ARow)), (11, grow 3 1 11 ((shV c l pre).map fun n => [iv n])), (12, grow 3 1 12 ((brs (lvV ⟨nx, l⟩ c amt ws) pre).map fun n => [iv n]))]) (ws.length) _ (le_SK id [11, 12] rfl (l' := [(1, .d (iv c)), (3, .d (ints ws)), (4, .ptr 4 0 0), (9, .d (legs (lvV ⟨nx, l⟩ c amt ws))), (11, .ref 11 (shV c l []).length), (12, .ref 12 (brs (lvV ⟨nx, l⟩ c amt ws) []).length), (13, .d (iv [].length))]) (m' := [(4, (⟨True, 24, 2, true, false, 4, [[.d (iv nx), .d (.sl 4 (l.map legC))]]⟩ : ARow)), (11, grow 3 1 11 ((shV c l []).map fun n => [iv n])), (12, grow 3 1 12 ((brs (lvV ⟨nx, l⟩ c amt ws) []).map fun n => [iv n]))]) ?_ ?_ ?_ ?_) ⟨[], ws, rfl, rfl, rfl⟩ ?_
      · simp only [leV, look_cons, Nat.reduceBEq, cond_true, cond_false]; exact ⟨(by first | exact VLe.still rfl | exact VLe.nil_ (by decide) | exact VLe.nild_ | exact VLe.refl _ | exact VLe.ptrE (by simp) (by rfl) | exact VLe.refE (by simp) (by rfl) (by first | rfl | (simp; done) | (simp; omega)) | exact VLe.dE (by first | rfl | simp)), (by first | exact VLe.still rfl | exact VLe.nil_ (by decide) | exact VLe.nild_ | exact VLe.refl _ | exact VLe.ptrE (by simp) (by rfl) | exact VLe.refE (by simp) (by rfl) (by first | rfl | (simp; done) | (simp; omega)) | exact VLe.dE (by first | rfl | simp)), (by first | exact VLe.still rfl | exact VLe.nil_ (by decide) | exact VLe.nild_ | exact VLe.refl _ | exact VLe.ptrE (by simp) (by rfl) | exact VLe.refE (by simp) (by rfl) (by first | rfl | (simp; done) | (simp; omega)) | exact VLe.dE (by first | rfl | simp)), (by first | exact VLe.still rfl | exact VLe.nil_ (by decide) | exact VLe.nild_ | exact VLe.refl _ | exact VLe.ptrE (by simp) (by rfl) | exact VLe.refE (by simp) (by rfl) (by first | rfl | (simp; done) | (simp; omega)) | exact VLe.dE (by first | rfl | simp)), (by first | exact VLe.still rfl | exact VLe.nil_ (by decide) | exact VLe.nild_ | exact VLe.refl _ | exact VLe.ptrE (by simp) (by rfl) | exact VLe.refE (by simp) (by rfl) (by first | rfl | (simp; done) | (simp; omega)) | exact VLe.dE (by first | rfl | simp)), (by first | exact VLe.still rfl | exact VLe.nil_ (by decide) | exact VLe.nild_ | exact VLe.refl _ | exact VLe.ptrE (by simp) (by rfl) | exact VLe.refE (by simp) (by rfl) (by first | rfl | (simp; done) | (simp; omega)) | exact VLe.dE (by first | rfl | simp)), (by first | exact VLe.still rfl | exact VLe.nil_ (by decide) | exact VLe.nild_ | exact VLe.refl _ | exact VLe.ptrE (by simp) (by rfl) | exact VLe.refE (by simp) (by rfl) (by first | rfl | (simp; done) | (simp; omega)) | exact VLe.dE (by first | rfl | simp)), trivial⟩
      · exact ⟨fun _ => ⟨_, rfl, (by first | exact RowLe.still (by simp [AV.idsL, AV.ids]) | exact RowLe.same (by simp) (by simp [AV.idsL, AV.ids]))⟩, fun h => by simp at h, fun h => by simp at h, fun _ => rfl, fun h => by simp at h, fun _ => rfl, trivial⟩
      · simp [wfV, AV.ids, AV.idsL, lookR, grow]
      · exact ⟨by simp [AV.idsL, AV.ids, lookR], wf_data _ _, wf_data _ _, trivial⟩
      rintro m s ⟨pre, post, hsp, rfl, rfl⟩
      have hspl := congrArg List.length hsp
      simp only [List.length_append] at hspl
      have hvs := shV_len c l pre
      have hbl : (brs (lvV ⟨nx, l⟩ c amt ws) pre).length = pre.length := by simp [brs]
      refine awp_seq fun K2 hK2 => ?_
      refine awp_seq fun K3 hK3 => ?_
      refine awp_plain F_mixed [some 39, some 40, some 41, some 42] rfl ?_
      simp only [zzK, Nat.reduceLT, Nat.reduceLeDiff, Nat.reduceBEq, evS_move, evS_call, zz12, F_sl25, Option.isSome_some, zz21, gr_v, zz22, ints, len_map, zz6, Nat.reduceEqDiff, ↓reduceIte]
      refine hK3 _ ?_; try clear hK3 K3
      refine awp_keepL [1, 3, 4, 9, 11, 12, 13, 42] ?_
      simp only [zzJ, Nat.reduceBEq]
      refine awp_condS _ (by decide) (by simp only [look_cons, Nat.reduceBEq, cond_true, cond_false]; rfl) ?_ ?_
      · intro hb
        obtain ⟨x, post2, rfl⟩ : ∃ x t, post = x :: t := by
          cases post with
          | nil => have := of_decide_eq_true hb; simp at hspl; omega
          | cons x t => exact ⟨x, t, rfl⟩
        clear hb
        simp only [List.length_cons] at hspl
        have gx : (ws.map (fun n => [iv n])).getD pre.length [] = [iv x] := by
          rw [hsp, List.map_append]; exact gd_mid' (A := pre.map (fun n => [iv n])) _ _ (by simp)
        have bx := ltI (show pre.length < ws.length by omega)
        have hwx : IntKind.wrap .i64 ((pre.length : Int) + 1) = ((pre ++ [x]).length : Int) := by rw [wrapI (by omega) (by omega)]; simp
        refine awp_skip ?_
        simp only [zz6, Nat.reduceEqDiff, ↓reduceIte]
        refine hK2 _ ?_; try clear hK2 K2
        refine awp_keepL [1, 3, 4, 9, 11, 12, 13] ?_
        simp only [zzJ, Nat.reduceBEq]
        refine awp_seq fun K2 hK2 => ?_
        refine awp_block ?_
        refine awp_seq fun K3 hK3 => ?_
        refine awp_plain F_mixed [some 45, some 46, some 47, some 48, some 49, some 50, some 14, none] rfl ?_
        simp only [zzK, Nat.reduceLT, Nat.reduceLeDiff, Nat.reduceBEq, evS_move, evS_indexAddr, zz23, zz24, F_sl25, F_sz3, Option.map_some, zzC, yyE, reduceCtorEq, F_ok3, F_ag3, zz8, zzD, Nat.reduceAdd, Nat.zero_add, zzH, F_zero32, F_bld32, zz7, splice, Option.getD_some, List.append_nil, zz1, zzG, zz10, F_fld32_0, F_fld32_1, F_fld32_2, zz32, newRow1, zz18, F_ok32, F_sz32, ints, gx, bx, hwx, len_map, ge0, Int.toNat_natCast, D.agg.injEq, zz6, Nat.reduceEqDiff, ↓reduceIte]
        refine hK3 _ ?_; try clear hK3 K3
        refine awp_keepL [1, 3, 4, 9, 11, 12, 13, 14] ?_
        simp only [zzJ, Nat.reduceBEq]
        refine awp_seq fun K3 hK3 => ?_
        refine awp_plain F_mixed [some 51, some 52, some 53, some 54, some 55, some 56, some 11] rfl ?_
        simp only [zzK, Nat.reduceLT, Nat.reduceLeDiff, Nat.reduceBEq, evS_move, F_ok24, F_ag24, F_sz24, zz8, zz23, zzD, Nat.reduceAdd, Nat.zero_add, zzH, zzC, Option.map_some, yyE, reduceCtorEq, F_ok32, F_ag32, F_sz32, evS_call, evC_value, F_sl25, F_zero3, F_sz3, zz3, newRow1, zz1, zzG, maxLen_le, Nat.reduceMul, F_by3, zz4, zz9, Option.bind_some, evS_assign, ledC, legs, acC, fAc, grow, unDs_map, D.agg.injEq, zz6, Nat.reduceEqDiff, ↓reduceIte]
        refine call_go F_go10 (fun hG => rOf_ nx l (fAc 3 x c) (by omega)) (by simp [AV.ids, AV.idsL]) (by simp) ?_
        simp only [zzK, Nat.reduceLT, Nat.reduceLeDiff, Nat.reduceBEq, evS_move, F_ok24, F_ag24, F_sz24, zz8, zz23, zzD, Nat.reduceAdd, Nat.zero_add, zzH, zzC, Option.map_some, yyE, reduceCtorEq, F_ok32, F_ag32, F_sz32, evS_call, evC_value, F_sl25, F_zero3, F_sz3, zz3, newRow1, zz1, zzG, maxLen_le, Nat.reduceMul, F_by3, zz4, zz9, Option.bind_some, evS_assign, ledC, legs, acC, fAc, grow, unDs_map, D.agg.injEq, zz6, Nat.reduceEqDiff, ↓reduceIte, atsL, oksG, freeN, AV.ren, AV.renL, addRows, ORow.row, Nat.reduceMul, Nat.reduceAdd, unDs_cons, Option.bind_some, Option.map_some, S_mem, yyF, List.length_cons, zz2]
        have hm : (shV c l pre).length + 1 ≤ 1000000 := by first | omega | (simp; omega)
        first | refine ⟨le_maxLen hm, by omega, ?_⟩ | refine ⟨by simp, le_maxLen hm, by omega, ?_⟩
        clear hm
        refine hK3 _ ?_; try clear hK3 K3
        refine awp_keepL [1, 3, 4, 9, 11, 12, 13] ?_
        simp only [zzJ, Nat.reduceBEq]
        refine awp_seq fun K3 hK3 => ?_
        refine awp_plain F_mixed [some 15] rfl ?_
        simp only [zzK, Nat.reduceLT, Nat.reduceLeDiff, Nat.reduceBEq, evS_assign, zz6, Nat.reduceEqDiff, ↓reduceIte]
        refine hK3 _ ?_; try clear hK3 K3
        refine awp_keepL [1, 3, 4, 9, 11, 12, 13, 15] ?_
        simp only [zzJ, Nat.reduceBEq]
        refine awp_seq fun K3 hK3 => ?_
        refine awp_seq fun K4 hK4 => ?_
        refine awp_plain F_mixed [some 16] rfl ?_
        simp only [zzK, Nat.reduceLT, Nat.reduceLeDiff, Nat.reduceBEq, evS_assign, zz6, Nat.reduceEqDiff, ↓reduceIte]
        refine hK4 _ ?_; try clear hK4 K4
        refine awp_keepL [1, 3, 4, 9, 11, 12, 13, 15, 16] ?_
        simp only [zzJ, Nat.reduceBEq]
        refine awp_block ?_
        refine awp_loop (fun m s => ∃ (q : List LegV) (r : List LegV), ((lvV ⟨nx, l⟩ c amt ws) = q ++ r) ∧ m = r.length ∧ s = S 185 [(1, .d (iv c)), (3, .d (ints ws)), (4, .ptr 4 0 0), (9, .d (legs (lvV ⟨nx, l⟩ c amt ws))), (11, .ref 11 (shV c l (pre ++ [x])).length), (12, .ref 12 (brs (lvV ⟨nx, l⟩ c amt ws) pre).length), (13, .d (iv pre.length)), (15, .d (iv (brW x q))), (16, .d (iv q.length))] [(4, (⟨True, 24, 2, true, false, 4, [[.d (iv nx), .d (.sl 4 (l.map legC))]]⟩ : ARow)), (11, grow 3 1 11 ((shV c l (pre ++ [x])).map fun n => [iv n])), (12, grow 3 1 12 ((brs (lvV ⟨nx, l⟩ c amt ws) pre).map fun n => [iv n]))]) ((lvV ⟨nx, l⟩ c amt ws).length) _ (le_SK (fun r => bif r == 11 then 56 else r) [] rfl (l' := [(1, .d (iv c)), (3, .d (ints ws)), (4, .ptr 4 0 0), (9, .d (legs (lvV ⟨nx, l⟩ c amt ws))), (11, .ref 11 (shV c l (pre ++ [x])).length), (12, .ref 12 (brs (lvV ⟨nx, l⟩ c amt ws) pre).length), (13, .d (iv pre.length)), (15, .d (iv (brW x []))), (16, .d (iv [].length))]) (m' := [(4, (⟨True, 24, 2, true, false, 4, [[.d (iv nx), .d (.sl 4 (l.map legC))]]⟩ : ARow)), (11, grow 3 1 11 ((shV c l (pre ++ [x])).map fun n => [iv n])), (12, grow 3 1 12 ((brs (lvV ⟨nx, l⟩ c amt ws) pre).map fun n => [iv n]))]) ?_ ?_ ?_ ?_) ⟨[], (lvV ⟨nx, l⟩ c amt ws), rfl, rfl, rfl⟩ ?_
        · simp only [leV, look_cons, Nat.reduceBEq, cond_true, cond_false]; exact ⟨(by first | exact VLe.still rfl | exact VLe.nil_ (by decide) | exact VLe.nild_ | exact VLe.refl _ | exact VLe.ptrE (by simp) (by rfl) | exact VLe.refE (by simp) (by rfl) (by first | rfl | (simp; done) | (simp; omega)) | exact VLe.dE (by first | rfl | simp)), (by first | exact VLe.still rfl | exact VLe.nil_ (by decide) | exact VLe.nild_ | exact VLe.refl _ | exact VLe.ptrE (by simp) (by rfl) | exact VLe.refE (by simp) (by rfl) (by first | rfl | (simp; done) | (simp; omega)) | exact VLe.dE (by first | rfl | simp)), (by first | exact VLe.still rfl | exact VLe.nil_ (by decide) | exact VLe.nild_ | exact VLe.refl _ | exact VLe.ptrE (by simp) (by rfl) | exact VLe.refE (by simp) (by rfl) (by first | rfl | (simp; done) | (simp; omega)) | exact VLe.dE (by first | rfl | simp)), (by first | exact VLe.still rfl | exact VLe.nil_ (by decide) | exact VLe.nild_ | exact VLe.refl _ | exact VLe.ptrE (by simp) (by rfl) | exact VLe.refE (by simp) (by rfl) (by first | rfl | (simp; done) | (simp; omega)) | exact VLe.dE (by first | rfl | simp)), (VLe.refE (by simp) (by rfl) (by rw [shV_snoc]; simp)), (by first | exact VLe.still rfl | exact VLe.nil_ (by decide) | exact VLe.nild_ | exact VLe.refl _ | exact VLe.ptrE (by simp) (by rfl) | exact VLe.refE (by simp) (by rfl) (by first | rfl | (simp; done) | (simp; omega)) | exact VLe.dE (by first | rfl | simp)), (by first | exact VLe.still rfl | exact VLe.nil_ (by decide) | exact VLe.nild_ | exact VLe.refl _ | exact VLe.ptrE (by simp) (by rfl) | exact VLe.refE (by simp) (by rfl) (by first | rfl | (simp; done) | (simp; omega)) | exact VLe.dE (by first | rfl | simp)), (VLe.dE rfl), (by first | exact VLe.still rfl | exact VLe.nil_ (by decide) | exact VLe.nild_ | exact VLe.refl _ | exact VLe.ptrE (by simp) (by rfl) | exact VLe.refE (by simp) (by rfl) (by first | rfl | (simp; done) | (simp; omega)) | exact VLe.dE (by first | rfl | simp)), trivial⟩
        · exact ⟨fun _ => ⟨_, rfl, (by first | exact RowLe.still (by simp [AV.idsL, AV.ids]) | exact RowLe.same (by simp) (by simp [AV.idsL, AV.ids]))⟩, fun h => by simp at h, fun _ => ⟨_, rfl, RowLe.data_ (by rw [shV_snoc]; simp [fAc])⟩, fun h => by simp at h, fun _ => ⟨_, rfl, RowLe.data_ rfl⟩, fun h => by simp at h, trivial⟩
        · simp [wfV, AV.ids, AV.idsL, lookR, grow]
        · exact ⟨by simp [AV.idsL, AV.ids, lookR], wf_data _ _, wf_data _ _, trivial⟩
        rintro m s ⟨q, r, hsq, rfl, rfl⟩
        have hsql := congrArg List.length hsq
        simp only [List.length_append] at hsql
        refine awp_seq fun K5 hK5 => ?_
        refine awp_seq fun K6 hK6 => ?_
        refine awp_plain F_mixed [some 57, some 58, some 59, some 60] rfl ?_
        simp only [zzK, Nat.reduceLT, Nat.reduceLeDiff, Nat.reduceBEq, evS_move, evS_call, zz12, F_sl26, Option.isSome_some, zz21, gr_v, zz22, legs, len_map, zz6, Nat.reduceEqDiff, ↓reduceIte]
        refine hK6 _ ?_; try clear hK6 K6
        refine awp_keepL [1, 3, 4, 9, 11, 12, 13, 15, 16, 60] ?_
        simp only [zzJ, Nat.reduceBEq]
        refine awp_condS _ (by decide) (by simp only [look_cons, Nat.reduceBEq, cond_true, cond_false]; rfl) ?_ ?_
        · intro hb
          obtain ⟨z, r2, rfl⟩ : ∃ x t, r = x :: t := by
            cases r with
            | nil => have := of_decide_eq_true hb; simp at hsql; omega
            | cons x t => exact ⟨x, t, rfl⟩
          clear hb
          simp only [List.length_cons] at hsql
          have gz : ((lvV ⟨nx, l⟩ c amt ws).map legC).getD q.length [] = [iv z.ac.kind, iv z.ac.who, iv z.ac.cur, iv z.amt] := by
            rw [hsq, List.map_append]; exact gd_mid' (A := q.map legC) _ _ (by simp)
          have bz := ltI (show q.length < (lvV ⟨nx, l⟩ c amt ws).length by omega)
          have hwz : IntKind.wrap .i64 ((q.length : Int) + 1) = ((q ++ [z]).length : Int) := by rw [wrapI (by omega) (by omega)]; simp
          refine awp_skip ?_
          simp only [zz6, Nat.reduceEqDiff, ↓reduceIte]
          refine hK5 _ ?_; try clear hK5 K5
          refine awp_keepL [1, 3, 4, 9, 11, 12, 13, 15, 16] ?_
          simp only [zzJ, Nat.reduceBEq]
          refine awp_seq fun K5 hK5 => ?_
          refine awp_block ?_
          refine awp_seq fun K6 hK6 => ?_
          refine awp_draw F_mixed [some 63, some 64, some 65, some 66, some 67, some 68, some 69, some 70, some 71, some 72, some 73, some 74, some 75, some 76, some 77, some 78, some 79, some 80, some 81, some 82] rfl (by kernel_rfl) ?_
          simp only [zzK, Nat.reduceLT, Nat.reduceLeDiff, Nat.reduceBEq, Nat.reduceSub, S_getD, zz5, and_imp, imp_and, imp_self, evS_move, evS_indexAddr, zz23, zz24, F_sl26, F_sz34, Option.map_some, zzC, yyE, reduceCtorEq, zz19, F_off34_0, zzH, Nat.zero_add, Nat.reduceAdd, F_off32_0, F_ok3, F_ag3, F_sz3, zz8, zzD, zz21, gr_v, zz34, F_off32_1, F_sl25, zz13, pickK_l, pickK_r, legs, ints, gz, bz, hwz, gx, bx, hwx, len_map, ge0, Int.toNat_natCast, D.agg.injEq, zz6, Nat.reduceEqDiff, ↓reduceIte]
          refine hK6 _ ?_; try clear hK6 K6
          refine awp_keepL [1, 3, 4, 9, 11, 12, 13, 15, 16, 82] ?_
          simp only [zzJ, Nat.reduceBEq]
          refine awp_condS _ (by decide) (by simp only [look_cons, Nat.reduceBEq, cond_true, cond_false]; rfl) ?_ ?_
          · intro hb
            have hm : (z.ac.kind == 3 && z.ac.who == x) = true := hb
            clear hb
            have hbr := brW_yes hm q
            refine awp_plain F_mixed [some 83, some 84, some 85, some 86, some 87, some 88, some 89, some 15] rfl ?_
            simp only [zzK, Nat.reduceLT, Nat.reduceLeDiff, Nat.reduceBEq, evS_move, evS_indexAddr, zz23, zz24, F_sl26, F_sz34, Option.map_some, zzC, yyE, reduceCtorEq, zz19, F_off34_1, zzH, Nat.zero_add, Nat.reduceAdd, F_ok3, F_ag3, F_sz3, zz8, zzD, zz21, gr_v, zz33, evS_assign, legs, gz, bz, hwz, len_map, ge0, Int.toNat_natCast, D.agg.injEq, zz6, Nat.reduceEqDiff, ↓reduceIte]
            refine hK5 _ ?_; try clear hK5 K5
            refine awp_keepL [1, 3, 4, 9, 11, 12, 13, 15, 16] ?_
            simp only [zzJ, Nat.reduceBEq]
            refine awp_plain F_mixed [some 61, some 62, some 16] rfl ?_
            simp only [zzK, Nat.reduceLT, Nat.reduceLeDiff, Nat.reduceBEq, evS_move, zz21, gr_v, zz26, evS_assign, hwz, zz6, Nat.reduceEqDiff, ↓reduceIte]
            refine ⟨r2.length, _, by simp, le_SK id [] rfl (l' := [(1, .d (iv c)), (3, .d (ints ws)), (4, .ptr 4 0 0), (9, .d (legs (lvV ⟨nx, l⟩ c amt ws))), (11, .ref 11 (shV c l (pre ++ [x])).length), (12, .ref 12 (brs (lvV ⟨nx, l⟩ c amt ws) pre).length), (13, .d (iv pre.length)), (15, .d (iv (brW x (q ++ [z])))), (16, .d (iv (q ++ [z]).length))]) (m' := [(4, (⟨True, 24, 2, true, false, 4, [[.d (iv nx), .d (.sl 4 (l.map legC))]]⟩ : ARow)), (11, grow 3 1 11 ((shV c l (pre ++ [x])).map fun n => [iv n])), (12, grow 3 1 12 ((brs (lvV ⟨nx, l⟩ c amt ws) pre).map fun n => [iv n]))]) ?_ ?_ ?_ ?_, (q ++ [z]), r2, by simp [hsq], rfl, rfl⟩
            · simp only [leV, look_cons, Nat.reduceBEq, cond_true, cond_false, hwz, hbr]; exact ⟨(by first | exact VLe.still rfl | exact VLe.nil_ (by decide) | exact VLe.nild_ | exact VLe.refl _ | exact VLe.ptrE (by simp) (by rfl) | exact VLe.refE (by simp) (by rfl) (by first | rfl | (simp; done) | (simp; omega)) | exact VLe.dE (by first | rfl | simp)), (by first | exact VLe.still rfl | exact VLe.nil_ (by decide) | exact VLe.nild_ | exact VLe.refl _ | exact VLe.ptrE (by simp) (by rfl) | exact VLe.refE (by simp) (by rfl) (by first | rfl | (simp; done) | (simp; omega)) | exact VLe.dE (by first | rfl | simp)), (by first | exact VLe.still rfl | exact VLe.nil_ (by decide) | exact VLe.nild_ | exact VLe.refl _ | exact VLe.ptrE (by simp) (by rfl) | exact VLe.refE (by simp) (by rfl) (by first | rfl | (simp; done) | (simp; omega)) | exact VLe.dE (by first | rfl | simp)), (by first | exact VLe.still rfl | exact VLe.nil_ (by decide) | exact VLe.nild_ | exact VLe.refl _ | exact VLe.ptrE (by simp) (by rfl) | exact VLe.refE (by simp) (by rfl) (by first | rfl | (simp; done) | (simp; omega)) | exact VLe.dE (by first | rfl | simp)), (by first | exact VLe.still rfl | exact VLe.nil_ (by decide) | exact VLe.nild_ | exact VLe.refl _ | exact VLe.ptrE (by simp) (by rfl) | exact VLe.refE (by simp) (by rfl) (by first | rfl | (simp; done) | (simp; omega)) | exact VLe.dE (by first | rfl | simp)), (by first | exact VLe.still rfl | exact VLe.nil_ (by decide) | exact VLe.nild_ | exact VLe.refl _ | exact VLe.ptrE (by simp) (by rfl) | exact VLe.refE (by simp) (by rfl) (by first | rfl | (simp; done) | (simp; omega)) | exact VLe.dE (by first | rfl | simp)), (by first | exact VLe.still rfl | exact VLe.nil_ (by decide) | exact VLe.nild_ | exact VLe.refl _ | exact VLe.ptrE (by simp) (by rfl) | exact VLe.refE (by simp) (by rfl) (by first | rfl | (simp; done) | (simp; omega)) | exact VLe.dE (by first | rfl | simp)), (by first | exact VLe.still rfl | exact VLe.nil_ (by decide) | exact VLe.nild_ | exact VLe.refl _ | exact VLe.ptrE (by simp) (by rfl) | exact VLe.refE (by simp) (by rfl) (by first | rfl | (simp; done) | (simp; omega)) | exact VLe.dE (by first | rfl | simp)), (by first | exact VLe.still rfl | exact VLe.nil_ (by decide) | exact VLe.nild_ | exact VLe.refl _ | exact VLe.ptrE (by simp) (by rfl) | exact VLe.refE (by simp) (by rfl) (by first | rfl | (simp; done) | (simp; omega)) | exact VLe.dE (by first | rfl | simp)), trivial⟩
            · exact ⟨fun _ => ⟨_, rfl, (by first | exact RowLe.still (by simp [AV.idsL, AV.ids]) | exact RowLe.same (by simp) (by simp [AV.idsL, AV.ids]))⟩, fun h => by simp at h, fun _ => ⟨_, rfl, RowLe.data_ rfl⟩, fun h => by simp at h, fun _ => ⟨_, rfl, RowLe.data_ rfl⟩, fun h => by simp at h, trivial⟩
            · simp [wfV, AV.ids, AV.idsL, lookR, grow]
            · exact ⟨by simp [AV.idsL, AV.ids, lookR], wf_data _ _, wf_data _ _, trivial⟩
          · intro hb
            have hm : (z.ac.kind == 3 && z.ac.who == x) = false := hb
            clear hb
            have hbr := brW_no hm q
            refine awp_skip ?_
            simp only [zz6, Nat.reduceEqDiff, ↓reduceIte]
            refine hK5 _ ?_; try clear hK5 K5
            refine awp_keepL [1, 3, 4, 9, 11, 12, 13, 15, 16] ?_
            simp only [zzJ, Nat.reduceBEq]
            refine awp_plain F_mixed [some 61, some 62, some 16] rfl ?_
            simp only [zzK, Nat.reduceLT, Nat.reduceLeDiff, Nat.reduceBEq, evS_move, zz21, gr_v, zz26, evS_assign, hwz, zz6, Nat.reduceEqDiff, ↓reduceIte]
            refine ⟨r2.length, _, by simp, le_SK id [] rfl (l' := [(1, .d (iv c)), (3, .d (ints ws)), (4, .ptr 4 0 0), (9, .d (legs (lvV ⟨nx, l⟩ c amt ws))), (11, .ref 11 (shV c l (pre ++ [x])).length), (12, .ref 12 (brs (lvV ⟨nx, l⟩ c amt ws) pre).length), (13, .d (iv pre.length)), (15, .d (iv (brW x (q ++ [z])))), (16, .d (iv (q ++ [z]).length))]) (m' := [(4, (⟨True, 24, 2, true, false, 4, [[.d (iv nx), .d (.sl 4 (l.map legC))]]⟩ : ARow)), (11, grow 3 1 11 ((shV c l (pre ++ [x])).map fun n => [iv n])), (12, grow 3 1 12 ((brs (lvV ⟨nx, l⟩ c amt ws) pre).map fun n => [iv n]))]) ?_ ?_ ?_ ?_, (q ++ [z]), r2, by simp [hsq], rfl, rfl⟩
            · simp only [leV, look_cons, Nat.reduceBEq, cond_true, cond_false, hwz, hbr]; exact ⟨(by first | exact VLe.still rfl | exact VLe.nil_ (by decide) | exact VLe.nild_ | exact VLe.refl _ | exact VLe.ptrE (by simp) (by rfl) | exact VLe.refE (by simp) (by rfl) (by first | rfl | (simp; done) | (simp; omega)) | exact VLe.dE (by first | rfl | simp)), (by first | exact VLe.still rfl | exact VLe.nil_ (by decide) | exact VLe.nild_ | exact VLe.refl _ | exact VLe.ptrE (by simp) (by rfl) | exact VLe.refE (by simp) (by rfl) (by first | rfl | (simp; done) | (simp; omega)) | exact VLe.dE (by first | rfl | simp)), (by first | exact VLe.still rfl | exact VLe.nil_ (by decide) | exact VLe.nild_ | exact VLe.refl _ | exact VLe.ptrE (by simp) (by rfl) | exact VLe.refE (by simp) (by rfl) (by first | rfl | (simp; done) | (simp; omega)) | exact VLe.dE (by first | rfl | simp)), (by first | exact VLe.still rfl | exact VLe.nil_ (by decide) | exact VLe.nild_ | exact VLe.refl _ | exact VLe.ptrE (by simp) (by rfl) | exact VLe.refE (by simp) (by rfl) (by first | rfl | (simp; done) | (simp; omega)) | exact VLe.dE (by first | rfl | simp)), (by first | exact VLe.still rfl | exact VLe.nil_ (by decide) | exact VLe.nild_ | exact VLe.refl _ | exact VLe.ptrE (by simp) (by rfl) | exact VLe.refE (by simp) (by rfl) (by first | rfl | (simp; done) | (simp; omega)) | exact VLe.dE (by first | rfl | simp)), (by first | exact VLe.still rfl | exact VLe.nil_ (by decide) | exact VLe.nild_ | exact VLe.refl _ | exact VLe.ptrE (by simp) (by rfl) | exact VLe.refE (by simp) (by rfl) (by first | rfl | (simp; done) | (simp; omega)) | exact VLe.dE (by first | rfl | simp)), (by first | exact VLe.still rfl | exact VLe.nil_ (by decide) | exact VLe.nild_ | exact VLe.refl _ | exact VLe.ptrE (by simp) (by rfl) | exact VLe.refE (by simp) (by rfl) (by first | rfl | (simp; done) | (simp; omega)) | exact VLe.dE (by first | rfl | simp)), (by first | exact VLe.still rfl | exact VLe.nil_ (by decide) | exact VLe.nild_ | exact VLe.refl _ | exact VLe.ptrE (by simp) (by rfl) | exact VLe.refE (by simp) (by rfl) (by first | rfl | (simp; done) | (simp; omega)) | exact VLe.dE (by first | rfl | simp)), (by first | exact VLe.still rfl | exact VLe.nil_ (by decide) | exact VLe.nild_ | exact VLe.refl _ | exact VLe.ptrE (by simp) (by rfl) | exact VLe.refE (by simp) (by rfl) (by first | rfl | (simp; done) | (simp; omega)) | exact VLe.dE (by first | rfl | simp)), trivial⟩
            · exact ⟨fun _ => ⟨_, rfl, (by first | exact RowLe.still (by simp [AV.idsL, AV.ids]) | exact RowLe.same (by simp) (by simp [AV.idsL, AV.ids]))⟩, fun h => by simp at h, fun _ => ⟨_, rfl, RowLe.data_ rfl⟩, fun h => by simp at h, fun _ => ⟨_, rfl, RowLe.data_ rfl⟩, fun h => by simp at h, trivial⟩
            · simp [wfV, AV.ids, AV.idsL, lookR, grow]
            · exact ⟨by simp [AV.idsL, AV.ids, lookR], wf_data _ _, wf_data _ _, trivial⟩
        · intro hb
          obtain rfl : r = [] := by
            cases r with
            | nil => rfl
            | cons x t => have := of_decide_eq_false hb; simp at hsql; omega
          clear hb
          simp only [List.append_nil] at hsq
          have hq := hsq.symm
          subst hq
          
          refine awp_exit ?_
          simp only [zz6, Nat.reduceEqDiff, ↓reduceIte]
          refine hK3 _ ?_; try clear hK3 K3
          refine awp_keepL [1, 3, 4, 9, 11, 12, 13, 15] ?_
          simp only [zzJ, Nat.reduceBEq]
          refine awp_plain F_mixed [some 90, some 91, some 92, some 93, some 12] rfl ?_
          simp only [zzK, Nat.reduceLT, Nat.reduceLeDiff, Nat.reduceBEq, evS_move, F_sl25, F_zero3, F_sz3, zz3, newRow1, zz1, zzG, zzD, zzC, Option.map_some, yyE, reduceCtorEq, Nat.reduceAdd, Nat.zero_add, zzH, maxLen_le, Nat.reduceMul, evS_call, F_by3, zz4, zz9, Option.bind_some, evS_assign, grow, unDs_map, zz6, Nat.reduceEqDiff, ↓reduceIte]
          have hm : (brs (lvV ⟨nx, l⟩ c amt ws) pre).length + 1 ≤ 1000000 := by first | omega | (simp; omega)
          first | refine ⟨le_maxLen hm, by omega, ?_⟩ | refine ⟨by simp, le_maxLen hm, by omega, ?_⟩
          clear hm
          refine hK2 _ ?_; try clear hK2 K2
          refine awp_keepL [1, 3, 4, 9, 11, 12, 13] ?_
          simp only [zzJ, Nat.reduceBEq]
          refine awp_plain F_mixed [some 43, some 44, some 13] rfl ?_
          simp only [zzK, Nat.reduceLT, Nat.reduceLeDiff, Nat.reduceBEq, evS_move, zz21, gr_v, zz26, evS_assign, hwx, zz6, Nat.reduceEqDiff, ↓reduceIte]
          refine ⟨post2.length, _, by simp, le_SK (fun r => bif r == 12 then 93 else r) [] rfl (l' := [(1, .d (iv c)), (3, .d (ints ws)), (4, .ptr 4 0 0), (9, .d (legs (lvV ⟨nx, l⟩ c amt ws))), (11, .ref 11 (shV c l (pre ++ [x])).length), (12, .ref 12 (brs (lvV ⟨nx, l⟩ c amt ws) (pre ++ [x])).length), (13, .d (iv (pre ++ [x]).length))]) (m' := [(4, (⟨True, 24, 2, true, false, 4, [[.d (iv nx), .d (.sl 4 (l.map legC))]]⟩ : ARow)), (11, grow 3 1 11 ((shV c l (pre ++ [x])).map fun n => [iv n])), (12, grow 3 1 12 ((brs (lvV ⟨nx, l⟩ c amt ws) (pre ++ [x])).map fun n => [iv n]))]) ?_ ?_ ?_ ?_, (pre ++ [x]), post2, by simp [hsp], rfl, rfl⟩
          · simp only [leV, look_cons, Nat.reduceBEq, cond_true, cond_false, hwx]; exact ⟨(by first | exact VLe.still rfl | exact VLe.nil_ (by decide) | exact VLe.nild_ | exact VLe.refl _ | exact VLe.ptrE (by simp) (by rfl) | exact VLe.refE (by simp) (by rfl) (by first | rfl | (simp; done) | (simp; omega)) | exact VLe.dE (by first | rfl | simp)), (by first | exact VLe.still rfl | exact VLe.nil_ (by decide) | exact VLe.nild_ | exact VLe.refl _ | exact VLe.ptrE (by simp) (by rfl) | exact VLe.refE (by simp) (by rfl) (by first | rfl | (simp; done) | (simp; omega)) | exact VLe.dE (by first | rfl | simp)), (by first | exact VLe.still rfl | exact VLe.nil_ (by decide) | exact VLe.nild_ | exact VLe.refl _ | exact VLe.ptrE (by simp) (by rfl) | exact VLe.refE (by simp) (by rfl) (by first | rfl | (simp; done) | (simp; omega)) | exact VLe.dE (by first | rfl | simp)), (by first | exact VLe.still rfl | exact VLe.nil_ (by decide) | exact VLe.nild_ | exact VLe.refl _ | exact VLe.ptrE (by simp) (by rfl) | exact VLe.refE (by simp) (by rfl) (by first | rfl | (simp; done) | (simp; omega)) | exact VLe.dE (by first | rfl | simp)), (by first | exact VLe.still rfl | exact VLe.nil_ (by decide) | exact VLe.nild_ | exact VLe.refl _ | exact VLe.ptrE (by simp) (by rfl) | exact VLe.refE (by simp) (by rfl) (by first | rfl | (simp; done) | (simp; omega)) | exact VLe.dE (by first | rfl | simp)), (VLe.refE (by simp) (by rfl) (by rw [brs_snoc]; simp)), (by first | exact VLe.still rfl | exact VLe.nil_ (by decide) | exact VLe.nild_ | exact VLe.refl _ | exact VLe.ptrE (by simp) (by rfl) | exact VLe.refE (by simp) (by rfl) (by first | rfl | (simp; done) | (simp; omega)) | exact VLe.dE (by first | rfl | simp)), trivial⟩
          · exact ⟨fun _ => ⟨_, rfl, (by first | exact RowLe.still (by simp [AV.idsL, AV.ids]) | exact RowLe.same (by simp) (by simp [AV.idsL, AV.ids]))⟩, fun h => by simp at h, fun _ => ⟨_, rfl, RowLe.data_ rfl⟩, fun h => by simp at h, fun _ => ⟨_, rfl, RowLe.data_ (by rw [brs_snoc]; simp)⟩, fun h => by simp at h, trivial⟩
          · simp [wfV, AV.ids, AV.idsL, lookR, grow]
          · exact ⟨by simp [AV.idsL, AV.ids, lookR], wf_data _ _, wf_data _ _, trivial⟩
      · intro hb
        obtain rfl : post = [] := by
          cases post with
          | nil => rfl
          | cons x t => have := of_decide_eq_false hb; simp at hspl; omega
        clear hb
        simp only [List.append_nil] at hsp
        subst hsp
        simp only [hbs]
        refine awp_exit ?_
        simp only [zz6, Nat.reduceEqDiff, ↓reduceIte]
        refine hK0 _ ?_; try clear hK0 K0
        refine awp_keepL [3, 11, 12] ?_
        simp only [zzJ, Nat.reduceBEq]
        refine awp_seq fun K0 hK0 => ?_
        refine awp_seq fun K1 hK1 => ?_
        refine awp_plain F_mixed [some 17] rfl ?_
        simp only [zzK, Nat.reduceLT, Nat.reduceLeDiff, Nat.reduceBEq, evS_assign, zz6, Nat.reduceEqDiff, ↓reduceIte]
        refine hK1 _ ?_; try clear hK1 K1
        refine awp_keepL [3, 11, 12, 17] ?_
        simp only [zzJ, Nat.reduceBEq]
        refine awp_block ?_
        refine awp_loop (fun m s => ∃ (i : Nat), (i ≤ ws.length) ∧ m = ws.length - i ∧ s = S 185 [(3, .d (ints ws)), (11, .ref 11 ws.length), (12, .ref 12 ws.length), (17, .d (iv ((i : Nat) : Int)))] [(11, grow 3 1 11 ((shV c l ws).map fun n => [iv n])), (12, grow 3 1 12 ((splitV amt (shV c l ws)).map fun n => [iv n]))]) (ws.length) _ (le_SK id [] rfl (l' := [(3, .d (ints ws)), (11, .ref 11 ws.length), (12, .ref 12 ws.length), (17, .d (iv ((0 : Nat) : Int)))]) (m' := [(11, grow 3 1 11 ((shV c l ws).map fun n => [iv n])), (12, grow 3 1 12 ((splitV amt (shV c l ws)).map fun n => [iv n]))]) ?_ ?_ ?_ ?_) ⟨0, Nat.zero_le _, rfl, rfl⟩ ?_
        · simp only [leV, look_cons, Nat.reduceBEq, cond_true, cond_false]; exact ⟨(by first | exact VLe.still rfl | exact VLe.nil_ (by decide) | exact VLe.nild_ | exact VLe.refl _ | exact VLe.ptrE (by simp) (by rfl) | exact VLe.refE (by simp) (by rfl) (by first | rfl | (simp; done) | (simp; omega)) | exact VLe.dE (by first | rfl | simp)), (VLe.refE (by simp) (by rfl) (by simp [shV])), (VLe.refE (by simp) (by rfl) hF.len), (VLe.dE rfl), trivial⟩
        · exact ⟨fun _ => ⟨_, rfl, RowLe.data_ rfl⟩, fun h => by simp at h, fun _ => ⟨_, rfl, RowLe.data_ rfl⟩, fun h => by simp at h, trivial⟩
        · simp [wfV, AV.ids, AV.idsL, lookR, grow]
        · exact ⟨wf_data _ _, wf_data _ _, trivial⟩
        rintro m s ⟨i, hil, rfl, rfl⟩
        refine awp_seq fun K2 hK2 => ?_
        refine awp_seq fun K3 hK3 => ?_
        refine awp_plain F_mixed [some 94, some 95, some 96, some 97] rfl ?_
        simp only [zzK, Nat.reduceLT, Nat.reduceLeDiff, Nat.reduceBEq, evS_move, evS_call, zz12, F_sl25, Option.isSome_some, zz21, gr_v, zz22, ints, len_map, zz6, Nat.reduceEqDiff, ↓reduceIte]
        refine hK3 _ ?_; try clear hK3 K3
        refine awp_keepL [3, 11, 12, 17, 97] ?_
        simp only [zzJ, Nat.reduceBEq]
        refine awp_condS _ (by decide) (by simp only [look_cons, Nat.reduceBEq, cond_true, cond_false]; rfl) ?_ ?_
        · intro hb
          have hi : i < ws.length := by have := of_decide_eq_true hb; omega
          clear hb
          have hwi : IntKind.wrap .i64 ((i : Int) + 1) = ((i + 1 : Nat) : Int) := wrapI (by omega) (by omega)
          refine awp_skip ?_
          simp only [zz6, Nat.reduceEqDiff, ↓reduceIte]
          refine hK2 _ ?_; try clear hK2 K2
          refine awp_keepL [3, 11, 12, 17] ?_
          simp only [zzJ, Nat.reduceBEq]
          refine awp_seq fun K2 hK2 => ?_
          refine awp_block ?_
          refine awp_seq fun K3 hK3 => ?_
          refine awp_plain F_mixed [some 100, some 101, some 18] rfl ?_
          simp only [zzK, Nat.reduceLT, Nat.reduceLeDiff, Nat.reduceBEq, evS_move, zz21, gr_v, zz26, evS_assign, hwi, zz6, Nat.reduceEqDiff, ↓reduceIte]
          refine hK3 _ ?_; try clear hK3 K3
          refine awp_keepL [3, 11, 12, 17, 18] ?_
          simp only [zzJ, Nat.reduceBEq]
          refine awp_block ?_
          refine awp_loop (fun m s => ∃ (k : Nat), (i < k) ∧ (k ≤ ws.length) ∧ m = ws.length - k ∧ s = S 185 [(3, .d (ints ws)), (11, .ref 11 ws.length), (12, .ref 12 ws.length), (17, .d (iv ((i : Nat) : Int))), (18, .d (iv ((k : Nat) : Int)))] [(11, grow 3 1 11 ((shV c l ws).map fun n => [iv n])), (12, grow 3 1 12 ((splitV amt (shV c l ws)).map fun n => [iv n]))]) (ws.length - (i + 1)) _ (le_SK id [] rfl (l' := [(3, .d (ints ws)), (11, .ref 11 ws.length), (12, .ref 12 ws.length), (17, .d (iv ((i : Nat) : Int))), (18, .d (iv (((i + 1) : Nat) : Int)))]) (m' := [(11, grow 3 1 11 ((shV c l ws).map fun n => [iv n])), (12, grow 3 1 12 ((splitV amt (shV c l ws)).map fun n => [iv n]))]) ?_ ?_ ?_ ?_) ⟨(i + 1), Nat.lt_succ_self _, hi, rfl, rfl⟩ ?_
          · simp only [leV, look_cons, Nat.reduceBEq, cond_true, cond_false]; exact ⟨(by first | exact VLe.still rfl | exact VLe.nil_ (by decide) | exact VLe.nild_ | exact VLe.refl _ | exact VLe.ptrE (by simp) (by rfl) | exact VLe.refE (by simp) (by rfl) (by first | rfl | (simp; done) | (simp; omega)) | exact VLe.dE (by first | rfl | simp)), (by first | exact VLe.still rfl | exact VLe.nil_ (by decide) | exact VLe.nild_ | exact VLe.refl _ | exact VLe.ptrE (by simp) (by rfl) | exact VLe.refE (by simp) (by rfl) (by first | rfl | (simp; done) | (simp; omega)) | exact VLe.dE (by first | rfl | simp)), (by first | exact VLe.still rfl | exact VLe.nil_ (by decide) | exact VLe.nild_ | exact VLe.refl _ | exact VLe.ptrE (by simp) (by rfl) | exact VLe.refE (by simp) (by rfl) (by first | rfl | (simp; done) | (simp; omega)) | exact VLe.dE (by first | rfl | simp)), (by first | exact VLe.still rfl | exact VLe.nil_ (by decide) | exact VLe.nild_ | exact VLe.refl _ | exact VLe.ptrE (by simp) (by rfl) | exact VLe.refE (by simp) (by rfl) (by first | rfl | (simp; done) | (simp; omega)) | exact VLe.dE (by first | rfl | simp)), (by first | exact VLe.still rfl | exact VLe.nil_ (by decide) | exact VLe.nild_ | exact VLe.refl _ | exact VLe.ptrE (by simp) (by rfl) | exact VLe.refE (by simp) (by rfl) (by first | rfl | (simp; done) | (simp; omega)) | exact VLe.dE (by first | rfl | simp)), trivial⟩
          · exact ⟨fun _ => ⟨_, rfl, RowLe.data_ rfl⟩, fun h => by simp at h, fun _ => ⟨_, rfl, RowLe.data_ rfl⟩, fun h => by simp at h, trivial⟩
          · simp [wfV, AV.ids, AV.idsL, lookR, grow]
          · exact ⟨wf_data _ _, wf_data _ _, trivial⟩
          rintro m s ⟨k, hik, hkl, rfl, rfl⟩
          refine awp_seq fun K4 hK4 => ?_
          refine awp_seq fun K5 hK5 => ?_
          refine awp_plain F_mixed [some 102, some 103, some 104, some 105] rfl ?_
          simp only [zzK, Nat.reduceLT, Nat.reduceLeDiff, Nat.reduceBEq, evS_move, evS_call, zz12, F_sl25, Option.isSome_some, zz21, gr_v, zz22, ints, len_map, zz6, Nat.reduceEqDiff, ↓reduceIte]
          refine hK5 _ ?_; try clear hK5 K5
          refine awp_keepL [3, 11, 12, 17, 18, 105] ?_
          simp only [zzJ, Nat.reduceBEq]
          refine awp_condS _ (by decide) (by simp only [look_cons, Nat.reduceBEq, cond_true, cond_false]; rfl) ?_ ?_
          · intro hb
            have hk : k < ws.length := by have := of_decide_eq_true hb; omega
            clear hb
            have hwk : IntKind.wrap .i64 ((k : Int) + 1) = ((k + 1 : Nat) : Int) := wrapI (by omega) (by omega)
            have n1 := shV_len c l ws
            have n2 := hF.len
            simp only at n2
            have bi := ltI hi
            have bk := ltI hk
            have ci := eq_true hi
            have ck := eq_true hk
            have gi := oneI_get (p := shV c l ws) (k := i) (by omega)
            have gk := oneI_get (p := shV c l ws) (k := k) (by omega)
            have pi_ := oneI_get (p := splitV amt (shV c l ws)) (k := i) (by omega)
            have pk_ := oneI_get (p := splitV amt (shV c l ws)) (k := k) (by omega)
            have hB := lv_bnd hF hk
            have hSF := split_fair hF.sre hF.spe (fun x hx => (hF.w0 x hx).1) hik (show k < (shV c l ws).length by omega)
            simp only at hB hSF
            obtain ⟨li, hli⟩ : ∃ n, n = (shV c l ws).getD i 0 := ⟨_, rfl⟩
            obtain ⟨lk, hlk⟩ : ∃ n, n = (shV c l ws).getD k 0 := ⟨_, rfl⟩
            obtain ⟨pi, hpi⟩ : ∃ n, n = (splitV amt (shV c l ws)).getD i 0 := ⟨_, rfl⟩
            obtain ⟨pk, hpk⟩ : ∃ n, n = (splitV amt (shV c l ws)).getD k 0 := ⟨_, rfl⟩
            rw [← hli] at gi hSF
            rw [← hlk] at gk hSF hB
            rw [← hpi] at pi_ hSF
            rw [← hpk] at pk_ hSF hB
            clear hli hlk hpi hpk
            generalize hL1 : ((shV c l ws).map fun n => [iv n]) = L1
            generalize hL2 : ((splitV amt (shV c l ws)).map fun n => [iv n]) = L2
            rw [hL1] at gi gk
            rw [hL2] at pi_ pk_
            have m1 : L1.length = ws.length := by rw [← hL1, List.length_map]; exact n1
            have m2 : L2.length = ws.length := by rw [← hL2, List.length_map]; exact n2
            have hwp : IntKind.wrap .i64 (pk + 1) = pk + 1 := wrapI (by omega) (by omega)
            refine awp_skip ?_
            simp only [zz6, Nat.reduceEqDiff, ↓reduceIte]
            refine hK4 _ ?_; try clear hK4 K4
            refine awp_keepL [3, 11, 12, 17, 18] ?_
            simp only [zzJ, Nat.reduceBEq]
            refine awp_seq fun K4 hK4 => ?_
            refine awp_block ?_
            refine awp_seq fun K5 hK5 => ?_
            refine awp_draw F_mixed (some 108 :: some 109 :: some 110 :: some 111 :: some 112 :: some 113 :: some 114 :: some 115 :: some 116 :: some 117 :: some 118 :: some 119 :: some 120 :: some 121 :: some 122 :: some 123 :: some 124 :: some 125 :: some 126 :: some 127 :: some 128 :: some 129 :: some 130 :: some 131 :: some 132 :: some 133 :: some 134 :: some 135 :: some 136 :: some 137 :: some 138 :: some 139 :: some 140 :: some 141 :: some 142 :: some 143 :: some 144 :: some 145 :: some 146 :: some 147 :: some 148 :: some 149 :: some 150 :: some 151 :: some 152 :: some 153 :: some 154 :: some 155 :: some 156 :: some 157 :: some 158 :: some 159 :: some 160 :: some 161 :: some 162 :: some 163 :: some 164 :: some 165 :: some 166 :: some 167 :: some 168 :: some 169 :: some 170 :: some 171 :: some 172 :: some 173 :: some 174 :: some 175 :: some 176 :: some 177 :: some 178 :: some 179 :: some 180 :: some 181 :: some 182 :: some 183 :: []) rfl (lexFair) ?_
            simp only [zzK, Nat.reduceLT, Nat.reduceLeDiff, Nat.reduceBEq, Nat.reduceSub, S_getD, zz5, and_imp, imp_and, imp_self, evS_move, evS_indexAddr, zz23, zz24, F_sl25, F_sz3, Option.map_some, zzC, yyE, reduceCtorEq, F_ok3, F_ag3, zz8, zzD, Nat.reduceAdd, Nat.zero_add, zzH, zz21, gr_v, zz25, zz22, zz13, pickK_l, pickK_r, zz34, zz26, taut2, taut3, taut4, taut5, grow, m1, m2, len_map, bi, bk, ci, ck, gi, gk, pi_, pk_, hwp, Nat.le_refl, List.length_cons, ge0, Int.toNat_natCast, List.append_eq, zz6, Nat.reduceEqDiff, ↓reduceIte]
            repeat (refine And.intro (by (repeat' (first | apply And.intro | intro _)); all_goals (first | assumption | trivial | omega)) ?_)
            refine hK5 _ ?_; try clear hK5 K5
            refine awp_keepL [3, 11, 12, 17, 18, 183] ?_
            simp only [zzJ, Nat.reduceBEq]
            refine awp_condS _ (by decide) (by simp only [look_cons, Nat.reduceBEq, cond_true, cond_false]; rfl) ?_ ?_
            · intro hb
              exfalso
              simp only [Bool.or_eq_true, Bool.and_eq_true, beq_iff_eq, decide_eq_true_eq] at hb
              omega
            · intro hb
              clear hb
              refine awp_skip ?_
              simp only [zz6, Nat.reduceEqDiff, ↓reduceIte]
              refine hK4 _ ?_; try clear hK4 K4
              refine awp_keepL [3, 11, 12, 17, 18] ?_
              simp only [zzJ, Nat.reduceBEq]
              refine awp_plain F_mixed [some 106, some 107, some 18] rfl ?_
              simp only [zzK, Nat.reduceLT, Nat.reduceLeDiff, Nat.reduceBEq, evS_move, zz21, gr_v, zz26, evS_assign, hwk, zz6, Nat.reduceEqDiff, ↓reduceIte]
              refine ⟨ws.length - (k + 1), _, by omega, le_SK id [] rfl (l' := [(3, .d (ints ws)), (11, .ref 11 ws.length), (12, .ref 12 ws.length), (17, .d (iv ((i : Nat) : Int))), (18, .d (iv (((k + 1) : Nat) : Int)))]) (m' := [(11, grow 3 1 11 ((shV c l ws).map fun n => [iv n])), (12, grow 3 1 12 ((splitV amt (shV c l ws)).map fun n => [iv n]))]) ?_ ?_ ?_ ?_, (k + 1), by omega, by omega, rfl, rfl⟩
              · simp only [leV, look_cons, Nat.reduceBEq, cond_true, cond_false, hwk]; exact ⟨(by first | exact VLe.still rfl | exact VLe.nil_ (by decide) | exact VLe.nild_ | exact VLe.refl _ | exact VLe.ptrE (by simp) (by rfl) | exact VLe.refE (by simp) (by rfl) (by first | rfl | (simp; done) | (simp; omega)) | exact VLe.dE (by first | rfl | simp)), (by first | exact VLe.still rfl | exact VLe.nil_ (by decide) | exact VLe.nild_ | exact VLe.refl _ | exact VLe.ptrE (by simp) (by rfl) | exact VLe.refE (by simp) (by rfl) (by first | rfl | (simp; done) | (simp; omega)) | exact VLe.dE (by first | rfl | simp)), (by first | exact VLe.still rfl | exact VLe.nil_ (by decide) | exact VLe.nild_ | exact VLe.refl _ | exact VLe.ptrE (by simp) (by rfl) | exact VLe.refE (by simp) (by rfl) (by first | rfl | (simp; done) | (simp; omega)) | exact VLe.dE (by first | rfl | simp)), (by first | exact VLe.still rfl | exact VLe.nil_ (by decide) | exact VLe.nild_ | exact VLe.refl _ | exact VLe.ptrE (by simp) (by rfl) | exact VLe.refE (by simp) (by rfl) (by first | rfl | (simp; done) | (simp; omega)) | exact VLe.dE (by first | rfl | simp)), (by first | exact VLe.still rfl | exact VLe.nil_ (by decide) | exact VLe.nild_ | exact VLe.refl _ | exact VLe.ptrE (by simp) (by rfl) | exact VLe.refE (by simp) (by rfl) (by first | rfl | (simp; done) | (simp; omega)) | exact VLe.dE (by first | rfl | simp)), trivial⟩
              · exact ⟨fun _ => ⟨_, rfl, RowLe.data_ hL1⟩, fun h => by simp at h, fun _ => ⟨_, rfl, RowLe.data_ hL2⟩, fun h => by simp at h, trivial⟩
              · simp [wfV, AV.ids, AV.idsL, lookR, grow]
              · exact ⟨wf_data _ _, wf_data _ _, trivial⟩
          · intro hb
            clear hb
            refine awp_exit ?_
            simp only [zz6, Nat.reduceEqDiff, ↓reduceIte]
            refine hK2 _ ?_; try clear hK2 K2
            refine awp_keepL [3, 11, 12, 17] ?_
            simp only [zzJ, Nat.reduceBEq]
            refine awp_plain F_mixed [some 98, some 99, some 17] rfl ?_
            simp only [zzK, Nat.reduceLT, Nat.reduceLeDiff, Nat.reduceBEq, evS_move, zz21, gr_v, zz26, evS_assign, hwi, zz6, Nat.reduceEqDiff, ↓reduceIte]
            refine ⟨ws.length - (i + 1), _, by omega, le_SK id [] rfl (l' := [(3, .d (ints ws)), (11, .ref 11 ws.length), (12, .ref 12 ws.length), (17, .d (iv (((i + 1) : Nat) : Int)))]) (m' := [(11, grow 3 1 11 ((shV c l ws).map fun n => [iv n])), (12, grow 3 1 12 ((splitV amt (shV c l ws)).map fun n => [iv n]))]) ?_ ?_ ?_ ?_, (i + 1), by omega, rfl, rfl⟩
            · simp only [leV, look_cons, Nat.reduceBEq, cond_true, cond_false, hwi]; exact ⟨(by first | exact VLe.still rfl | exact VLe.nil_ (by decide) | exact VLe.nild_ | exact VLe.refl _ | exact VLe.ptrE (by simp) (by rfl) | exact VLe.refE (by simp) (by rfl) (by first | rfl | (simp; done) | (simp; omega)) | exact VLe.dE (by first | rfl | simp)), (by first | exact VLe.still rfl | exact VLe.nil_ (by decide) | exact VLe.nild_ | exact VLe.refl _ | exact VLe.ptrE (by simp) (by rfl) | exact VLe.refE (by simp) (by rfl) (by first | rfl | (simp; done) | (simp; omega)) | exact VLe.dE (by first | rfl | simp)), (by first | exact VLe.still rfl | exact VLe.nil_ (by decide) | exact VLe.nild_ | exact VLe.refl _ | exact VLe.ptrE (by simp) (by rfl) | exact VLe.refE (by simp) (by rfl) (by first | rfl | (simp; done) | (simp; omega)) | exact VLe.dE (by first | rfl | simp)), (by first | exact VLe.still rfl | exact VLe.nil_ (by decide) | exact VLe.nild_ | exact VLe.refl _ | exact VLe.ptrE (by simp) (by rfl) | exact VLe.refE (by simp) (by rfl) (by first | rfl | (simp; done) | (simp; omega)) | exact VLe.dE (by first | rfl | simp)), trivial⟩
            · exact ⟨fun _ => ⟨_, rfl, RowLe.data_ rfl⟩, fun h => by simp at h, fun _ => ⟨_, rfl, RowLe.data_ rfl⟩, fun h => by simp at h, trivial⟩
            · simp [wfV, AV.ids, AV.idsL, lookR, grow]
            · exact ⟨wf_data _ _, wf_data _ _, trivial⟩
        · intro hb
          clear hb
          refine awp_exit ?_
          simp only [zz6, Nat.reduceEqDiff, ↓reduceIte]
          refine hK0 _ ?_; try clear hK0 K0
          refine awp_keepL [] ?_
          simp only [zzJ, Nat.reduceBEq]
          refine awp_seq fun K0 hK0 => ?_
          refine awp_plain F_mixed [some 184, some 8] rfl ?_
          simp only [zzK, Nat.reduceLT, Nat.reduceLeDiff, Nat.reduceBEq, evS_call, evC_value, evS_assign, zz6, Nat.reduceEqDiff, ↓reduceIte]
          refine call_go F_go9 (fun hG => wakes21_) (by simp [AV.ids, AV.idsL]) (by simp) ?_
          simp only [zzK, Nat.reduceLT, Nat.reduceLeDiff, Nat.reduceBEq, evS_call, evC_value, evS_assign, zz6, Nat.reduceEqDiff, ↓reduceIte, atsL, oksG, freeN, AV.ren, AV.renL, addRows, ORow.row, Nat.reduceMul, Nat.reduceAdd, zz9, Option.bind_some, Option.map_some, zzC, yyF, zzD, zz2]
          refine hK0 _ ?_; try clear hK0 K0
          refine awp_keepL [8] ?_
          simp only [zzJ, Nat.reduceBEq]
          refine awp_ret ?_
          simp only [zz6, Nat.reduceEqDiff, ↓reduceIte]
          refine done0 (by simp only [resCs, resC]; trivial) ?_ (by simp [flatA, flatAs, flatD]) (by simp [AV.ids, AV.idsL])
          simp only [List.map_cons, List.map_nil, resA, S_getD, Nat.reduceLT, Nat.reduceLeDiff, look_cons, Nat.reduceBEq, cond_true, cond_false, resAll]
          
end Go.Proofs.Ytjkfadaedgidpaa
