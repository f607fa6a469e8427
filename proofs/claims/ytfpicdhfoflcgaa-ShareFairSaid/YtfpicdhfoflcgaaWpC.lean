import Derived.Test.YtfpicdhfoflcgaaWpB
namespace Go.Proofs.Ytfpicdhfoflcgaa
open Go.RowKit
set_option linter.unusedVariables false
set_option linter.unusedSimpArgs false
theorem F_go24 : goFn Try.prog 24 := ⟨_, Try.func24, rfl, rfl⟩
theorem F_by3 : byT Try.prog 3 = 8 := by kernel_rfl
theorem greedy_ (t : Int) (l : List Int) (hl : l.length ≤ 1000000) : ACalls Try.prog 22 [iv t, ints l] [⟨3, 1, (gV t l).map fun n => [iv n]⟩] (.tp [.ref 0 (gV t l).length, .d (iv (gR t l)), .d (iv (sRE t l))]) := by
  refine acalls_S (rs := [.tmp 4, .tmp 5, .tmp 6]) Try.func22 rfl rfl 35 [(0, .d (iv t)), (1, .d (ints l))] rfl (by simp) rfl ?_
  refine awp_seq fun K0 hK0 => ?_
  refine awp_plain F_mixed [some 4, some 5, some 6] rfl ?_
  simp only [List.nil_append, List.cons_append, true_and, and_true, zz0, true_implies, Nat.reduceLT, Nat.reduceLeDiff, zzI, look_nil, Nat.reduceBEq, implies_true, evS_assign, zz6, Nat.reduceEqDiff, ↓reduceIte]
  refine hK0 _ ?_; try clear hK0 K0
  refine awp_keepL [0, 1, 4] ?_
  simp only [zz20, zzI, look_nil, Nat.reduceBEq]
  refine awp_seq fun K0 hK0 => ?_
  refine awp_plain F_mixed [some 10, some 11, some 12, some 6] rfl ?_
  simp only [List.nil_append, List.cons_append, true_and, and_true, zz0, true_implies, Nat.reduceLT, Nat.reduceLeDiff, zzI, look_nil, Nat.reduceBEq, implies_true, evS_move, evS_call, evC_value, evS_assign, ints, zz6, Nat.reduceEqDiff, ↓reduceIte]
  refine call_go F_go24 (fun hG => sRight_ t l hl) (by simp [AV.ids, AV.idsL]) (by simp) ?_
  simp only [List.nil_append, List.cons_append, true_and, and_true, zz0, true_implies, Nat.reduceLT, Nat.reduceLeDiff, zzI, look_nil, Nat.reduceBEq, implies_true, evS_move, evS_call, evC_value, evS_assign, ints, zz6, Nat.reduceEqDiff, ↓reduceIte, atsL, oksG, freeN, AV.ren, AV.renL, addRows, ORow.row, Nat.reduceMul, Nat.reduceAdd, zz9, Option.bind_some, Option.map_some, forall_eq', D.sl.injEq, zz16, Option.some.injEq, exists_eq_left', exists_eq_left, exists_eq', exists_eq, zzD, zz2]
  refine hK0 _ ?_; try clear hK0 K0
  refine awp_keepL [0, 1, 4, 6] ?_
  simp only [zz20, zzI, look_nil, Nat.reduceBEq]
  refine awp_seq fun K0 hK0 => ?_
  refine awp_seq fun K1 hK1 => ?_
  refine awp_plain F_mixed [some 13, some 14] rfl ?_
  simp only [List.nil_append, List.cons_append, true_and, and_true, zz0, true_implies, Nat.reduceLT, Nat.reduceLeDiff, zzI, look_nil, Nat.reduceBEq, implies_true, evS_move, zz21, gr_v, zz28, zz6, Nat.reduceEqDiff, ↓reduceIte]
  refine hK1 _ ?_; try clear hK1 K1
  refine awp_keepL [0, 1, 4, 6, 14] ?_
  simp only [zz20, zzI, look_nil, Nat.reduceBEq]
  refine awp_condS _ (by decide) (by simp only [look_cons, Nat.reduceBEq, cond_true, cond_false]; rfl) ?_ ?_
  · intro hb
    have hs : (sRE t l == 0) = false := by simpa using hb
    clear hb
    refine awp_seq fun K2 hK2 => ?_
    refine awp_plain F_mixed [some 15, some 4, some 5, some 6] rfl ?_
    simp only [List.nil_append, List.cons_append, true_and, and_true, zz0, true_implies, Nat.reduceLT, Nat.reduceLeDiff, zzI, look_nil, Nat.reduceBEq, implies_true, evS_move, evS_assign, zz6, Nat.reduceEqDiff, ↓reduceIte]
    refine hK2 _ ?_; try clear hK2 K2
    refine awp_keepL [4, 5, 6] ?_
    simp only [zz20, zzI, look_nil, Nat.reduceBEq]
    refine awp_le (le_SK id [0] rfl (l' := [(4, .ref 0 0), (5, .d (iv 0)), (6, .d (iv (sRE t l)))]) (m' := [(0, (⟨True, 3, 1, true, true, 0, []⟩ : ARow))]) ?_ ?_ ?_ ?_) ?_
    · simp only [leV, look_cons, Nat.reduceBEq, cond_true, cond_false]; exact ⟨VLe.nil_ (by decide), VLe.still rfl, VLe.still rfl, trivial⟩
    · exact ⟨fun h => by simp at h, fun _ => rfl, trivial⟩
    · simp [wfV, AV.ids, lookR]
    · simp [wfR]
    refine awp_ret ?_
    simp only [zz6, Nat.reduceEqDiff, ↓reduceIte]
    rw [show gV t l = [] by simp only [gV, hs, cond_false], show gR t l = 0 by simp only [gR, hs, cond_false]]
    refine done1 0 (by simp only [resCs, resC]; trivial) ?_ (by simp [flatA, flatAs, flatD]) (by simp [AV.ids, AV.idsL]) (by rfl) trivial rfl rfl ?_ (by simp [flatDs, flatD])
    · simp only [List.map_cons, List.map_nil, resA, S_getD, Nat.reduceLT, Nat.reduceLeDiff, look_cons, Nat.reduceBEq, cond_true, cond_false, resAll]; rfl
    · rfl
  · intro hb
    have hs : sRE t l = 0 := by simpa using hb
    clear hb
    obtain ⟨ht, hll, hl2⟩ := sRE_ok hs
    refine awp_skip ?_
    simp only [zz6, Nat.reduceEqDiff, ↓reduceIte]
    refine hK0 _ ?_; try clear hK0 K0
    refine awp_keepL [0, 1, 4] ?_
    simp only [zz20, zzI, look_nil, Nat.reduceBEq]
    refine awp_seq fun K0 hK0 => ?_
    refine awp_seq fun K1 hK1 => ?_
    refine awp_plain F_mixed [some 16, some 17, some 18] rfl ?_
    simp only [List.nil_append, List.cons_append, true_and, and_true, zz0, true_implies, Nat.reduceLT, Nat.reduceLeDiff, zzI, look_nil, Nat.reduceBEq, implies_true, evS_move, evS_call, zz12, F_sl22, Option.isSome_some, ints, len_map, zz6, Nat.reduceEqDiff, ↓reduceIte]
    refine hK1 _ ?_; try clear hK1 K1
    refine awp_keepL [0, 4, 16, 17, 18] ?_
    simp only [zz20, zzI, look_nil, Nat.reduceBEq]
    refine awp_block ?_
    refine awp_loop (fun m s => ∃ (pre : List Int) (post : List Int), (l = pre ++ post) ∧ m = post.length ∧ s = S 35 [(0, .d (iv (gLeft t pre))), (4, .ref 4 (gPart t pre).length), (16, .d (ints l)), (17, .d (iv l.length)), (18, .d (iv pre.length))] [(4, grow 3 1 4 ((gPart t pre).map fun n => [iv n]))]) (l.length) _ (le_SK id [4] rfl (l' := [(0, .d (iv (gLeft t []))), (4, .ref 4 (gPart t []).length), (16, .d (ints l)), (17, .d (iv l.length)), (18, .d (iv [].length))]) (m' := [(4, grow 3 1 4 ((gPart t []).map fun n => [iv n]))]) ?_ ?_ ?_ ?_) ⟨[], l, rfl, rfl, rfl⟩ ?_
    · simp only [leV, look_cons, Nat.reduceBEq, cond_true, cond_false]; exact ⟨(by first | exact VLe.still rfl | exact VLe.nil_ (by decide) | exact VLe.nild_ | exact VLe.refl _ | exact VLe.ptrE (by simp) (by rfl) | exact VLe.refE (by simp) (by rfl) (by first | rfl | (simp; done) | (simp; omega)) | exact VLe.dE (by first | rfl | simp)), (by first | exact VLe.still rfl | exact VLe.nil_ (by decide) | exact VLe.nild_ | exact VLe.refl _ | exact VLe.ptrE (by simp) (by rfl) | exact VLe.refE (by simp) (by rfl) (by first | rfl | (simp; done) | (simp; omega)) | exact VLe.dE (by first | rfl | simp)), (by first | exact VLe.still rfl | exact VLe.nil_ (by decide) | exact VLe.nild_ | exact VLe.refl _ | exact VLe.ptrE (by simp) (by rfl) | exact VLe.refE (by simp) (by rfl) (by first | rfl | (simp; done) | (simp; omega)) | exact VLe.dE (by first | rfl | simp)), (by first | exact VLe.still rfl | exact VLe.nil_ (by decide) | exact VLe.nild_ | exact VLe.refl _ | exact VLe.ptrE (by simp) (by rfl) | exact VLe.refE (by simp) (by rfl) (by first | rfl | (simp; done) | (simp; omega)) | exact VLe.dE (by first | rfl | simp)), (by first | exact VLe.still rfl | exact VLe.nil_ (by decide) | exact VLe.nild_ | exact VLe.refl _ | exact VLe.ptrE (by simp) (by rfl) | exact VLe.refE (by simp) (by rfl) (by first | rfl | (simp; done) | (simp; omega)) | exact VLe.dE (by first | rfl | simp)), trivial⟩
    · exact ⟨fun h => by simp at h, fun _ => rfl, trivial⟩
    · simp [wfV, AV.ids, AV.idsL, lookR, grow]
    · exact ⟨wf_data _ _, trivial⟩
    rintro m s ⟨pre, post, hsp, rfl, rfl⟩
    have hspl := congrArg List.length hsp
    simp only [List.length_append] at hspl
    have hpl := gPart_len t pre
    have hgb := gLeft_bnd (t := t) (l := pre) (by omega) (fun x hx => (hll x (by rw [hsp]; simp [hx])).1)
    refine awp_seq fun K2 hK2 => ?_
    refine awp_plain F_mixed [some 19] rfl ?_
    simp only [List.nil_append, List.cons_append, true_and, and_true, zz0, true_implies, Nat.reduceLT, Nat.reduceLeDiff, zzI, look_nil, Nat.reduceBEq, implies_true, zz21, gr_v, zz22, len_map, zz6, Nat.reduceEqDiff, ↓reduceIte]
    refine hK2 _ ?_; try clear hK2 K2
    refine awp_keepL [0, 4, 16, 17, 18, 19] ?_
    simp only [zz20, zzI, look_nil, Nat.reduceBEq]
    refine awp_seq fun K2 hK2 => ?_
    refine awp_condS _ (by decide) (by simp only [look_cons, Nat.reduceBEq, cond_true, cond_false]; rfl) ?_ ?_
    · intro hb
      obtain ⟨x, post2, rfl⟩ : ∃ x t, post = x :: t := by
        cases post with
        | nil => have := of_decide_eq_true hb; simp at hspl; omega
        | cons x t => exact ⟨x, t, rfl⟩
      clear hb
      simp only [List.length_cons] at hspl
      have gx : (l.map (fun n => [iv n])).getD pre.length [] = [iv x] := by
        rw [hsp, List.map_append]; exact gd_mid' (A := pre.map (fun n => [iv n])) _ _ (by simp)
      have bx := ltI (show pre.length < l.length by omega)
      have hwx : IntKind.wrap .i64 ((pre.length : Int) + 1) = ((pre ++ [x]).length : Int) := by rw [wrapI (by omega) (by omega)]; simp
      have hp := gPart_snoc x t pre
      have hmb := mi_bnd (c := x) (t := gLeft t pre) (hll x (by rw [hsp]; simp)).1 hgb.1
      have hgl : IntKind.wrap .i64 (gLeft t pre - mi x (gLeft t pre)) = gLeft t (pre ++ [x]) := by rw [gLeft_snoc, wrapI (by omega) (by omega)]
      have hmi : (if gLeft t pre < x then gLeft t pre else x) = mi x (gLeft t pre) := rfl
      refine awp_skip ?_
      simp only [zz6, Nat.reduceEqDiff, ↓reduceIte]
      refine hK2 _ ?_; try clear hK2 K2
      refine awp_keepL [0, 4, 16, 17, 18] ?_
      simp only [zz20, zzI, look_nil, Nat.reduceBEq]
      refine awp_seq fun K2 hK2 => ?_
      refine awp_block ?_
      refine awp_seq fun K3 hK3 => ?_
      refine awp_plain F_mixed [some 20, some 21, some 8] rfl ?_
      simp only [List.nil_append, List.cons_append, true_and, and_true, zz0, true_implies, Nat.reduceLT, Nat.reduceLeDiff, zzI, look_nil, Nat.reduceBEq, implies_true, evS_indexAddr, zz23, zz24, F_sl22, F_sz3, Option.map_some, zz16, Option.some.injEq, exists_eq_left', exists_eq_left, eq_self, reduceCtorEq, and_self, F_ok3, F_ag3, zz8, zzD, Nat.reduceAdd, Nat.zero_add, zzF, zzB, zzE, evS_assign, ints, gx, bx, hwx, len_map, ge0, Int.toNat_natCast, D.agg.injEq, zz6, Nat.reduceEqDiff, ↓reduceIte]
      refine hK3 _ ?_; try clear hK3 K3
      refine awp_keepL [0, 4, 8, 16, 17, 18] ?_
      simp only [zz20, zzI, look_nil, Nat.reduceBEq]
      refine awp_seq fun K3 hK3 => ?_
      refine awp_plain F_mixed [some 22, some 23, some 24, some 9] rfl ?_
      simp only [List.nil_append, List.cons_append, true_and, and_true, zz0, true_implies, Nat.reduceLT, Nat.reduceLeDiff, zzI, look_nil, Nat.reduceBEq, implies_true, evS_move, evS_call, evC_min, mxK_some, mnK_some, grsL, gr_v, Option.bind_some, Option.map_some, oksL, pure_min, mn_int, evS_assign, mnV, hmi, zz6, Nat.reduceEqDiff, ↓reduceIte]
      refine hK3 _ ?_; try clear hK3 K3
      refine awp_keepL [0, 4, 9, 16, 17, 18] ?_
      simp only [zz20, zzI, look_nil, Nat.reduceBEq]
      refine awp_seq fun K3 hK3 => ?_
      refine awp_plain F_mixed [some 25, some 26, some 27, some 28, some 4] rfl ?_
      simp only [List.nil_append, List.cons_append, true_and, and_true, zz0, true_implies, Nat.reduceLT, Nat.reduceLeDiff, zzI, look_nil, Nat.reduceBEq, implies_true, evS_move, F_sl22, F_zero3, F_sz3, zz3, newRow1, zz1, zzG, zzD, zz16, Option.some.injEq, exists_eq_left', exists_eq_left, Option.map_some, eq_self, reduceCtorEq, and_self, Nat.reduceAdd, Nat.zero_add, zzF, zzB, zzE, maxLen_le, Nat.reduceMul, evS_call, F_by3, zz4, zz9, Option.bind_some, evS_assign, grow, unDs_map, zz6, Nat.reduceEqDiff, ↓reduceIte]
      have hm : (gPart t pre).length + 1 ≤ 1000000 := by first | omega | (simp; omega)
      first | refine ⟨le_maxLen hm, by omega, ?_⟩ | refine ⟨by simp, le_maxLen hm, by omega, ?_⟩
      clear hm
      refine hK3 _ ?_; try clear hK3 K3
      refine awp_keepL [0, 4, 9, 16, 17, 18] ?_
      simp only [zz20, zzI, look_nil, Nat.reduceBEq]
      refine awp_plain F_mixed [some 29, some 30, some 31, some 0] rfl ?_
      simp only [List.nil_append, List.cons_append, true_and, and_true, zz0, true_implies, Nat.reduceLT, Nat.reduceLeDiff, zzI, look_nil, Nat.reduceBEq, implies_true, evS_move, zz21, gr_v, zz33, evS_assign, zz6, Nat.reduceEqDiff, ↓reduceIte]
      refine hK2 _ ?_; try clear hK2 K2
      refine awp_keepL [0, 4, 16, 17, 18] ?_
      simp only [zz20, zzI, look_nil, Nat.reduceBEq]
      refine awp_plain F_mixed [some 32, some 18] rfl ?_
      simp only [List.nil_append, List.cons_append, true_and, and_true, zz0, true_implies, Nat.reduceLT, Nat.reduceLeDiff, zzI, look_nil, Nat.reduceBEq, implies_true, zz21, gr_v, zz26, evS_move, hwx, zz6, Nat.reduceEqDiff, ↓reduceIte]
      refine ⟨post2.length, _, by simp, le_SK (fun r => bif r == 4 then 28 else r) [] rfl (l' := [(0, .d (iv (gLeft t (pre ++ [x])))), (4, .ref 4 (gPart t (pre ++ [x])).length), (16, .d (ints l)), (17, .d (iv l.length)), (18, .d (iv (pre ++ [x]).length))]) (m' := [(4, grow 3 1 4 ((gPart t (pre ++ [x])).map fun n => [iv n]))]) ?_ ?_ ?_ ?_, (pre ++ [x]), post2, by simp [hsp], rfl, rfl⟩
      · simp only [leV, look_cons, Nat.reduceBEq, cond_true, cond_false, hwx, hp, hgl]; exact ⟨(VLe.dE rfl), (by first | exact VLe.still rfl | exact VLe.nil_ (by decide) | exact VLe.nild_ | exact VLe.refl _ | exact VLe.ptrE (by simp) (by rfl) | exact VLe.refE (by simp) (by rfl) (by first | rfl | (simp; done) | (simp; omega)) | exact VLe.dE (by first | rfl | simp)), (by first | exact VLe.still rfl | exact VLe.nil_ (by decide) | exact VLe.nild_ | exact VLe.refl _ | exact VLe.ptrE (by simp) (by rfl) | exact VLe.refE (by simp) (by rfl) (by first | rfl | (simp; done) | (simp; omega)) | exact VLe.dE (by first | rfl | simp)), (by first | exact VLe.still rfl | exact VLe.nil_ (by decide) | exact VLe.nild_ | exact VLe.refl _ | exact VLe.ptrE (by simp) (by rfl) | exact VLe.refE (by simp) (by rfl) (by first | rfl | (simp; done) | (simp; omega)) | exact VLe.dE (by first | rfl | simp)), (by first | exact VLe.still rfl | exact VLe.nil_ (by decide) | exact VLe.nild_ | exact VLe.refl _ | exact VLe.ptrE (by simp) (by rfl) | exact VLe.refE (by simp) (by rfl) (by first | rfl | (simp; done) | (simp; omega)) | exact VLe.dE (by first | rfl | simp)), trivial⟩
      · exact ⟨fun _ => ⟨_, rfl, RowLe.data_ (by rw [hp]; simp)⟩, fun h => by simp at h, trivial⟩
      · simp [wfV, AV.ids, AV.idsL, lookR, grow]
      · exact ⟨wf_data _ _, trivial⟩
    · intro hb
      obtain rfl : post = [] := by
        cases post with
        | nil => rfl
        | cons x t => have := of_decide_eq_false hb; simp at hspl; omega
      clear hb
      simp only [List.append_nil] at hsp
      subst hsp
      refine awp_exit ?_
      simp only [zz6, Nat.reduceEqDiff, ↓reduceIte]
      refine hK0 _ ?_; try clear hK0 K0
      refine awp_keepL [0, 4] ?_
      simp only [zz20, zzI, look_nil, Nat.reduceBEq]
      refine awp_seq fun K0 hK0 => ?_
      refine awp_plain F_mixed [some 33, some 34, some 4, some 5, some 6] rfl ?_
      simp only [List.nil_append, List.cons_append, true_and, and_true, zz0, true_implies, Nat.reduceLT, Nat.reduceLeDiff, zzI, look_nil, Nat.reduceBEq, implies_true, evS_move, evS_assign, grow, zz6, Nat.reduceEqDiff, ↓reduceIte]
      refine hK0 _ ?_; try clear hK0 K0
      refine awp_keepL [4, 5, 6] ?_
      simp only [zz20, zzI, look_nil, Nat.reduceBEq]
      refine awp_ret ?_
      simp only [zz6, Nat.reduceEqDiff, ↓reduceIte]
      rw [show gV t l = gPart t l by simp only [gV, hs]; rfl, show gR t l = gLeft t l by simp only [gR, hs]; rfl, hs]
      refine done1 4 (by simp only [resCs, resC]; trivial) ?_ (by simp [flatA, flatAs, flatD]) (by simp [AV.ids, AV.idsL]) (by rfl) trivial rfl rfl ?_ (by simp [flatDs, flatD])
      · simp only [List.map_cons, List.map_nil, resA, S_getD, Nat.reduceLT, Nat.reduceLeDiff, look_cons, Nat.reduceBEq, cond_true, cond_false, resAll]; rfl
      · rfl
end Go.Proofs.Ytfpicdhfoflcgaa
