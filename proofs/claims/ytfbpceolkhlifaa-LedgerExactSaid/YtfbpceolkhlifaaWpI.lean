import Derived.Test.YtfbpceolkhlifaaWpF
import Derived.Test.YtfbpceolkhlifaaSpecY
namespace Go.Proofs.Ytfbpceolkhlifaa
open Go.RowKit
set_option linter.unusedVariables false
set_option linter.unusedSimpArgs false
theorem F_go48 : goFn Try.prog 48 := ⟨_, Try.func48, rfl, rfl⟩
theorem F_by3 : byT Try.prog 3 = 8 := by kernel_rfl
theorem F_go39 : goFn Try.prog 39 := ⟨_, Try.func39, rfl, rfl⟩
theorem F_go33 : goFn Try.prog 33 := ⟨_, Try.func33, rfl, rfl⟩
theorem F_bld37 : bldT Try.prog 37 = true := by kernel_rfl
theorem F_fld37_0 : fldT Try.prog 37 0 = some (0, 3) := by kernel_rfl
theorem F_fld37_1 : fldT Try.prog 37 1 = some (3, 1) := by kernel_rfl
theorem Check_ (l : List LegV) (hl : l.length ≤ 1000000) : ACalls Try.prog 29 [legs l] [] (.d (iv (chkE l))) := by
  refine acalls_S (rs := [.tmp 2]) Try.func29 rfl rfl 53 [(0, .d (legs l))] rfl (by simp) rfl ?_
  refine awp_seq fun K0 hK0 => ?_
  refine awp_plain F_mixed [some 2] rfl ?_
  simp only [List.nil_append, List.cons_append, true_and, and_true, zz0, true_implies, Nat.reduceLT, Nat.reduceLeDiff, zzI, look_nil, Nat.reduceBEq, implies_true, evS_assign, zz6, Nat.reduceEqDiff, ↓reduceIte]
  refine hK0 _ ?_; try clear hK0 K0
  refine awp_keepL [0] ?_
  simp only [zz20, zzI, look_nil, Nat.reduceBEq]
  refine awp_seq fun K0 hK0 => ?_
  refine awp_block ?_
  refine awp_seq fun K1 hK1 => ?_
  refine awp_plain F_mixed [some 10, some 11, some 12, some 9] rfl ?_
  simp only [List.nil_append, List.cons_append, true_and, and_true, zz0, true_implies, Nat.reduceLT, Nat.reduceLeDiff, zzI, look_nil, Nat.reduceBEq, implies_true, evS_move, evS_call, zz12, F_sl32, Option.isSome_some, zz21, gr_v, zz34, evS_assign, legs, len_map, zz6, Nat.reduceEqDiff, ↓reduceIte]
  refine hK1 _ ?_; try clear hK1 K1
  refine awp_keepL [0, 9] ?_
  simp only [zz20, zzI, look_nil, Nat.reduceBEq]
  refine awp_condS _ (by decide) (by simp only [look_cons, Nat.reduceBEq, cond_true, cond_false]; rfl) ?_ ?_
  · intro hb
    have e : chkE l = 2 := by rw [chkE, hb]; try rfl
    refine awp_seq fun K2 hK2 => ?_
    refine awp_plain F_mixed [some 2] rfl ?_
    simp only [List.nil_append, List.cons_append, true_and, and_true, zz0, true_implies, Nat.reduceLT, Nat.reduceLeDiff, zzI, look_nil, Nat.reduceBEq, implies_true, evS_assign, zz6, Nat.reduceEqDiff, ↓reduceIte]
    refine hK2 _ ?_; try clear hK2 K2
    refine awp_keepL [2] ?_
    simp only [zz20, zzI, look_nil, Nat.reduceBEq]
    refine awp_ret ?_
    simp only [zz6, Nat.reduceEqDiff, ↓reduceIte]
    refine done0 (by simp only [resCs, resC]; trivial) ?_ (by simp [flatA, flatAs, flatD]) (by simp [AV.ids, AV.idsL])
    simp only [List.map_cons, List.map_nil, resA, S_getD, Nat.reduceLT, Nat.reduceLeDiff, look_cons, Nat.reduceBEq, cond_true, cond_false, resAll]
    rw [e]
  · intro hb
    have h1 : ((l.length : Int) == 0) = false := hb
    clear hb
    refine awp_seq fun K2 hK2 => ?_
    refine awp_plain F_mixed [some 14, some 15, some 16, some 13] rfl ?_
    simp only [List.nil_append, List.cons_append, true_and, and_true, zz0, true_implies, Nat.reduceLT, Nat.reduceLeDiff, zzI, look_nil, Nat.reduceBEq, implies_true, evS_move, evS_call, zz12, F_sl32, Option.isSome_some, zz21, gr_v, zz25, evS_assign, legs, len_map, zz6, Nat.reduceEqDiff, ↓reduceIte]
    refine hK2 _ ?_; try clear hK2 K2
    refine awp_keepL [0, 13] ?_
    simp only [zz20, zzI, look_nil, Nat.reduceBEq]
    refine awp_condS _ (by decide) (by simp only [look_cons, Nat.reduceBEq, cond_true, cond_false]; rfl) ?_ ?_
    · intro hb
      have e : chkE l = 5 := by rw [chkE, h1, hb]; rfl
      refine awp_seq fun K3 hK3 => ?_
      refine awp_plain F_mixed [some 2] rfl ?_
      simp only [List.nil_append, List.cons_append, true_and, and_true, zz0, true_implies, Nat.reduceLT, Nat.reduceLeDiff, zzI, look_nil, Nat.reduceBEq, implies_true, evS_assign, zz6, Nat.reduceEqDiff, ↓reduceIte]
      refine hK3 _ ?_; try clear hK3 K3
      refine awp_keepL [2] ?_
      simp only [zz20, zzI, look_nil, Nat.reduceBEq]
      refine awp_ret ?_
      simp only [zz6, Nat.reduceEqDiff, ↓reduceIte]
      refine done0 (by simp only [resCs, resC]; trivial) ?_ (by simp [flatA, flatAs, flatD]) (by simp [AV.ids, AV.idsL])
      simp only [List.map_cons, List.map_nil, resA, S_getD, Nat.reduceLT, Nat.reduceLeDiff, look_cons, Nat.reduceBEq, cond_true, cond_false, resAll]
      rw [e]
    · intro hb
      have h2 : decide ((l.length : Int) > 64) = false := hb
      clear hb
      refine awp_seq fun K3 hK3 => ?_
      refine awp_plain F_mixed [some 18, some 19, some 20, some 17] rfl ?_
      simp only [List.nil_append, List.cons_append, true_and, and_true, zz0, true_implies, Nat.reduceLT, Nat.reduceLeDiff, zzI, look_nil, Nat.reduceBEq, implies_true, evS_move, evS_call, evC_value, zz29, gr_v, zz30, evS_assign, legs, zz6, Nat.reduceEqDiff, ↓reduceIte]
      refine call_go F_go48 (fun hG => eRight_ l hl) (by simp [AV.ids, AV.idsL]) (by simp) ?_
      simp only [List.nil_append, List.cons_append, true_and, and_true, zz0, true_implies, Nat.reduceLT, Nat.reduceLeDiff, zzI, look_nil, Nat.reduceBEq, implies_true, evS_move, evS_call, evC_value, zz29, gr_v, zz30, evS_assign, legs, zz6, Nat.reduceEqDiff, ↓reduceIte, atsL, oksG, freeN, AV.ren, AV.renL, addRows, ORow.row, Nat.reduceMul, Nat.reduceAdd, zz9, Option.bind_some, Option.map_some, forall_eq', D.sl.injEq, zz16, Option.some.injEq, exists_eq_left', exists_eq_left, exists_eq', exists_eq, zzD, zz2]
      refine hK3 _ ?_; try clear hK3 K3
      refine awp_keepL [0, 17] ?_
      simp only [zz20, zzI, look_nil, Nat.reduceBEq]
      refine awp_condS _ (by decide) (by simp only [look_cons, Nat.reduceBEq, cond_true, cond_false]; rfl) ?_ ?_
      · intro hb
        have h3 : l.all legOk = false := by simpa using hb
        have e : chkE l = 3 := by rw [chkE, h1, h2, h3]; rfl
        refine awp_seq fun K4 hK4 => ?_
        refine awp_plain F_mixed [some 2] rfl ?_
        simp only [List.nil_append, List.cons_append, true_and, and_true, zz0, true_implies, Nat.reduceLT, Nat.reduceLeDiff, zzI, look_nil, Nat.reduceBEq, implies_true, evS_assign, zz6, Nat.reduceEqDiff, ↓reduceIte]
        refine hK4 _ ?_; try clear hK4 K4
        refine awp_keepL [2] ?_
        simp only [zz20, zzI, look_nil, Nat.reduceBEq]
        refine awp_ret ?_
        simp only [zz6, Nat.reduceEqDiff, ↓reduceIte]
        refine done0 (by simp only [resCs, resC]; trivial) ?_ (by simp [flatA, flatAs, flatD]) (by simp [AV.ids, AV.idsL])
        simp only [List.map_cons, List.map_nil, resA, S_getD, Nat.reduceLT, Nat.reduceLeDiff, look_cons, Nat.reduceBEq, cond_true, cond_false, resAll]
        rw [e]
      · intro hb
        have h3 : l.all legOk = true := by simpa using hb
        clear hb
        refine awp_skip ?_
        simp only [zz6, Nat.reduceEqDiff, ↓reduceIte]
        refine hK0 _ ?_; try clear hK0 K0
        refine awp_keepL [0] ?_
        simp only [zz20, zzI, look_nil, Nat.reduceBEq]
        refine awp_seq fun K0 hK0 => ?_
        refine awp_seq fun K1 hK1 => ?_
        refine awp_plain F_mixed [some 21] rfl ?_
        simp only [List.nil_append, List.cons_append, true_and, and_true, zz0, true_implies, Nat.reduceLT, Nat.reduceLeDiff, zzI, look_nil, Nat.reduceBEq, implies_true, evS_move, zz6, Nat.reduceEqDiff, ↓reduceIte]
        refine hK1 _ ?_; try clear hK1 K1
        refine awp_keepL [0, 21] ?_
        simp only [zz20, zzI, look_nil, Nat.reduceBEq]
        refine awp_block ?_
        refine awp_loop (fun m s => ∃ c : Nat, c ≤ 3 ∧ (∀ k : Nat, k < c → chkC (k : Int) l = false) ∧ m = 3 - c ∧ s = S 53 [(0, .d (legs l)), (21, .d (iv c))] []) 3 _ (le_SK id [] rfl (l' := [(0, .d (legs l)), (21, .d (iv ((0 : Nat) : Int)))]) (m' := []) ?_ ?_ ?_ ?_) ⟨0, by omega, fun k hk => by omega, rfl, rfl⟩ ?_
        · simp only [leV, look_cons, Nat.reduceBEq, cond_true, cond_false, legs]; exact ⟨VLe.refl _, VLe.refl _, trivial⟩
        · trivial
        · simp [wfV, AV.ids, lookR]
        · trivial
        rintro m s ⟨c, hc3, hck, rfl, rfl⟩
        refine awp_seq fun K2 hK2 => ?_
        refine awp_plain F_mixed [some 22] rfl ?_
        simp only [List.nil_append, List.cons_append, true_and, and_true, zz0, true_implies, Nat.reduceLT, Nat.reduceLeDiff, zzI, look_nil, Nat.reduceBEq, implies_true, zz21, gr_v, zz22, zz6, Nat.reduceEqDiff, ↓reduceIte]
        refine hK2 _ ?_; try clear hK2 K2
        refine awp_keepL [0, 21, 22] ?_
        simp only [zz20, zzI, look_nil, Nat.reduceBEq]
        refine awp_seq fun K2 hK2 => ?_
        refine awp_condS _ (by decide) (by simp only [look_cons, Nat.reduceBEq, cond_true, cond_false]; rfl) ?_ ?_
        · intro hb
          have hlt : c < 3 := by have := of_decide_eq_true hb; omega
          clear hb
          have hwc : IntKind.wrap .i64 ((c : Int) + 1) = ((c + 1 : Nat) : Int) := by rw [wrapI (by omega) (by omega)]; try omega
          refine awp_skip ?_
          simp only [zz6, Nat.reduceEqDiff, ↓reduceIte]
          refine hK2 _ ?_; try clear hK2 K2
          refine awp_keepL [0, 21] ?_
          simp only [zz20, zzI, look_nil, Nat.reduceBEq]
          refine awp_seq fun K2 hK2 => ?_
          refine awp_block ?_
          refine awp_seq fun K3 hK3 => ?_
          refine awp_plain F_mixed [some 23, some 3] rfl ?_
          simp only [List.nil_append, List.cons_append, true_and, and_true, zz0, true_implies, Nat.reduceLT, Nat.reduceLeDiff, zzI, look_nil, Nat.reduceBEq, implies_true, evS_move, evS_assign, zz6, Nat.reduceEqDiff, ↓reduceIte]
          refine hK3 _ ?_; try clear hK3 K3
          refine awp_keepL [0, 3, 21] ?_
          simp only [zz20, zzI, look_nil, Nat.reduceBEq]
          refine awp_seq fun K3 hK3 => ?_
          refine awp_plain F_mixed [some 4] rfl ?_
          simp only [List.nil_append, List.cons_append, true_and, and_true, zz0, true_implies, Nat.reduceLT, Nat.reduceLeDiff, zzI, look_nil, Nat.reduceBEq, implies_true, evS_assign, zz6, Nat.reduceEqDiff, ↓reduceIte]
          refine hK3 _ ?_; try clear hK3 K3
          refine awp_keepL [0, 3, 4, 21] ?_
          simp only [zz20, zzI, look_nil, Nat.reduceBEq]
          refine awp_seq fun K3 hK3 => ?_
          refine awp_seq fun K4 hK4 => ?_
          refine awp_plain F_mixed [some 24, some 25, some 26] rfl ?_
          simp only [List.nil_append, List.cons_append, true_and, and_true, zz0, true_implies, Nat.reduceLT, Nat.reduceLeDiff, zzI, look_nil, Nat.reduceBEq, implies_true, evS_move, evS_call, zz12, F_sl32, Option.isSome_some, legs, len_map, zz6, Nat.reduceEqDiff, ↓reduceIte]
          refine hK4 _ ?_; try clear hK4 K4
          refine awp_keepL [0, 3, 4, 21, 24, 25, 26] ?_
          simp only [zz20, zzI, look_nil, Nat.reduceBEq]
          refine awp_block ?_
          refine awp_loop (fun m s => ∃ pre post : List LegV, l = pre ++ post ∧ m = post.length ∧ s = S 53 [(0, .d (legs l)), (3, .d (iv c)), (4, .ref 4 (amts (curL (c : Int) pre)).length), (21, .d (iv c)), (24, .d (legs l)), (25, .d (iv l.length)), (26, .d (iv (pre).length))] [(4, grow 3 1 4 ((amts (curL (c : Int) pre)).map fun n => [iv n]))]) l.length _ (le_SK id [4] rfl (l' := [(0, .d (legs l)), (3, .d (iv c)), (4, .ref 4 (amts (curL (c : Int) ([] : List LegV))).length), (21, .d (iv c)), (24, .d (legs l)), (25, .d (iv l.length)), (26, .d (iv (([] : List LegV)).length))]) (m' := [(4, grow 3 1 4 ((amts (curL (c : Int) ([] : List LegV))).map fun n => [iv n]))]) ?_ ?_ ?_ ?_) ⟨[], l, rfl, rfl, rfl⟩ ?_
          · simp only [leV, look_cons, Nat.reduceBEq, cond_true, cond_false, legs, len_map]; exact ⟨VLe.still rfl, VLe.still rfl, VLe.nil_ (by decide), VLe.still rfl, VLe.still rfl, VLe.still rfl, VLe.still rfl, trivial⟩
          · exact ⟨fun h => by simp at h, fun _ => rfl, trivial⟩
          · simp [wfV, AV.ids, lookR]
          · simp [wfR, grow, amts, curL, AV.idsL, AV.ids]
          rintro m s ⟨pre, post, hsp, rfl, rfl⟩
          have hspl := congrArg List.length hsp
          simp only [List.length_append] at hspl
          refine awp_seq fun K5 hK5 => ?_
          refine awp_plain F_mixed [some 27] rfl ?_
          simp only [List.nil_append, List.cons_append, true_and, and_true, zz0, true_implies, Nat.reduceLT, Nat.reduceLeDiff, zzI, look_nil, Nat.reduceBEq, implies_true, zz21, gr_v, zz22, zz6, Nat.reduceEqDiff, ↓reduceIte]
          refine hK5 _ ?_; try clear hK5 K5
          refine awp_keepL [0, 3, 4, 21, 24, 25, 26, 27] ?_
          simp only [zz20, zzI, look_nil, Nat.reduceBEq]
          refine awp_seq fun K5 hK5 => ?_
          refine awp_condS _ (by decide) (by simp only [look_cons, Nat.reduceBEq, cond_true, cond_false]; rfl) ?_ ?_
          · intro hb
            obtain ⟨x, post, rfl⟩ : ∃ x t, post = x :: t := by
              cases post with
              | nil => have := of_decide_eq_true hb; simp at hspl; omega
              | cons x t => exact ⟨x, t, rfl⟩
            clear hb
            simp only [List.length_cons] at hspl
            have gx : (l.map legC).getD pre.length [] = [iv x.ac.kind, iv x.ac.who, iv x.ac.cur, iv x.amt] := by
              rw [hsp, List.map_append]; exact gd_mid' (A := pre.map legC) _ _ (by simp)
            have b1 := ltI (show pre.length < l.length by omega)
            have hwi : IntKind.wrap .i64 ((pre.length : Int) + 1) = ((pre.length + 1 : Nat) : Int) := by rw [wrapI (by omega) (by omega)]; try omega
            have hcf : (curL (c : Int) pre).length ≤ pre.length := List.length_filter_le _ _
            have hca : (amts (curL (c : Int) pre)).length = (curL (c : Int) pre).length := by simp [amts]
            refine awp_skip ?_
            simp only [zz6, Nat.reduceEqDiff, ↓reduceIte]
            refine hK5 _ ?_; try clear hK5 K5
            refine awp_keepL [0, 3, 4, 21, 24, 25, 26] ?_
            simp only [zz20, zzI, look_nil, Nat.reduceBEq]
            refine awp_seq fun K5 hK5 => ?_
            refine awp_block ?_
            refine awp_seq fun K6 hK6 => ?_
            refine awp_plain F_mixed [some 28, some 29, some 6, none] rfl ?_
            simp only [List.nil_append, List.cons_append, true_and, and_true, zz0, true_implies, Nat.reduceLT, Nat.reduceLeDiff, zzI, look_nil, Nat.reduceBEq, implies_true, evS_indexAddr, zz23, zz24, F_sl32, F_sz37, Option.map_some, zz16, Option.some.injEq, exists_eq_left', exists_eq_left, eq_self, reduceCtorEq, and_self, F_ok37, F_ag37, zz8, zzD, Nat.reduceAdd, Nat.zero_add, zzF, zzB, zzE, zz32, newRow1, F_zero37, zz10, zz18, splice, List.append_nil, zz1, zzG, legs, len_map, gx, b1, ge0, Int.toNat_natCast, D.agg.injEq, zz6, Nat.reduceEqDiff, ↓reduceIte]
            refine hK6 _ ?_; try clear hK6 K6
            refine awp_keepL [0, 3, 4, 6, 21, 24, 25, 26] ?_
            simp only [zz20, zzI, look_nil, Nat.reduceBEq]
            refine awp_seq fun K6 hK6 => ?_
            refine awp_plain F_mixed [some 30, some 31, some 32, some 33, some 34] rfl ?_
            simp only [List.nil_append, List.cons_append, true_and, and_true, zz0, true_implies, Nat.reduceLT, Nat.reduceLeDiff, zzI, look_nil, Nat.reduceBEq, implies_true, zz19, zz23, F_off37_0, zzB, Nat.zero_add, Nat.reduceAdd, F_off24_2, F_ok3, F_ag3, F_sz3, zz8, zzD, zzF, zzE, zz16, Option.some.injEq, exists_eq_left', exists_eq_left, Option.map_some, eq_self, reduceCtorEq, and_self, evS_move, zz21, gr_v, zz34, zz6, Nat.reduceEqDiff, ↓reduceIte]
            refine hK6 _ ?_; try clear hK6 K6
            refine awp_keepL [0, 3, 4, 6, 21, 24, 25, 26, 34] ?_
            simp only [zz20, zzI, look_nil, Nat.reduceBEq]
            refine awp_condS _ (by decide) (by simp only [look_cons, Nat.reduceBEq, cond_true, cond_false]; rfl) ?_ ?_
            · intro hb
              have hcq : (x.ac.cur == (c : Int)) = true := hb
              clear hb
              have hcx : curL (c : Int) (pre ++ [x]) = curL (c : Int) pre ++ [x] := by simp only [curL, List.filter_append, List.filter_cons, hcq, List.filter_nil, if_true]
              have hcl : (amts (curL (c : Int) pre ++ [x])).length = (amts (curL (c : Int) pre)).length + 1 := by simp [amts]
              refine awp_plain F_mixed [some 35, some 36, some 37, some 38, some 39, some 4] rfl ?_
              simp only [List.nil_append, List.cons_append, true_and, and_true, zz0, true_implies, Nat.reduceLT, Nat.reduceLeDiff, zzI, look_nil, Nat.reduceBEq, implies_true, evS_move, zz19, zz23, F_off37_1, zzB, Nat.zero_add, Nat.reduceAdd, F_ok3, F_ag3, F_sz3, zz8, zzD, zzF, zzE, zz16, Option.some.injEq, exists_eq_left', exists_eq_left, Option.map_some, eq_self, reduceCtorEq, and_self, F_sl50, F_zero3, zz3, newRow1, zz1, zzG, maxLen_le, Nat.reduceMul, evS_call, F_by3, zz4, zz9, Option.bind_some, evS_assign, grow, D.agg.injEq, unDs_map, zz6, Nat.reduceEqDiff, ↓reduceIte]
              have hm : (amts (curL (c : Int) pre)).length + 1 ≤ 1000000 := by omega
              first | refine ⟨le_maxLen hm, by omega, ?_⟩ | refine ⟨by simp [amts], le_maxLen hm, by omega, ?_⟩
              clear hm
              refine hK5 _ ?_; try clear hK5 K5
              refine awp_keepL [0, 3, 4, 21, 24, 25, 26] ?_
              simp only [zz20, zzI, look_nil, Nat.reduceBEq]
              refine awp_plain F_mixed [some 40, some 26] rfl ?_
              simp only [List.nil_append, List.cons_append, true_and, and_true, zz0, true_implies, Nat.reduceLT, Nat.reduceLeDiff, zzI, look_nil, Nat.reduceBEq, implies_true, zz21, gr_v, zz26, evS_move, zz6, Nat.reduceEqDiff, ↓reduceIte]
              refine ⟨post.length, _, by simp, le_SK (fun r => bif r == 4 then 39 else r) [] rfl (l' := [(0, .d (legs l)), (3, .d (iv c)), (4, .ref 4 (amts (curL (c : Int) (pre ++ [x]))).length), (21, .d (iv c)), (24, .d (legs l)), (25, .d (iv l.length)), (26, .d (iv ((pre ++ [x])).length))]) (m' := [(4, grow 3 1 4 ((amts (curL (c : Int) (pre ++ [x]))).map fun n => [iv n]))]) ?_ ?_ ?_ ?_, pre ++ [x], post, by rw [hsp]; simp, rfl, rfl⟩
              · simp only [leV, look_cons, Nat.reduceBEq, cond_true, cond_false, hwi, hcx, List.length_append, List.length_singleton]
                refine ⟨VLe.still rfl, VLe.still rfl, ?_, VLe.still rfl, VLe.still rfl, VLe.still rfl, VLe.still rfl, trivial⟩
                rw [hcl]; exact VLe.ref_ (f := (fun r => bif r == 4 then 39 else r)) (r := 4) (by simp)
              · exact ⟨fun _ => ⟨_, rfl, RowLe.data_ (by rw [hcx] <;> simp [amts])⟩, fun h => by simp at h, trivial⟩
              · simp [wfV, AV.ids, lookR, grow]
              · exact ⟨wf_data _ _, trivial⟩
            · intro hb
              have hcq : (x.ac.cur == (c : Int)) = false := hb
              clear hb
              have hcx : curL (c : Int) (pre ++ [x]) = curL (c : Int) pre := by simp only [curL, List.filter_append, List.filter_cons, hcq, List.filter_nil, List.append_nil, Bool.false_eq_true, if_false]
              have hcl : (amts (curL (c : Int) pre)).length = (amts (curL (c : Int) pre)).length := rfl
              refine awp_skip ?_
              simp only [zz6, Nat.reduceEqDiff, ↓reduceIte]
              refine hK5 _ ?_; try clear hK5 K5
              refine awp_keepL [0, 3, 4, 21, 24, 25, 26] ?_
              simp only [zz20, zzI, look_nil, Nat.reduceBEq]
              refine awp_plain F_mixed [some 40, some 26] rfl ?_
              simp only [List.nil_append, List.cons_append, true_and, and_true, zz0, true_implies, Nat.reduceLT, Nat.reduceLeDiff, zzI, look_nil, Nat.reduceBEq, implies_true, zz21, gr_v, zz26, evS_move, zz6, Nat.reduceEqDiff, ↓reduceIte]
              refine ⟨post.length, _, by simp, le_SK (fun r => bif r == 4 then 4 else r) [] rfl (l' := [(0, .d (legs l)), (3, .d (iv c)), (4, .ref 4 (amts (curL (c : Int) (pre ++ [x]))).length), (21, .d (iv c)), (24, .d (legs l)), (25, .d (iv l.length)), (26, .d (iv ((pre ++ [x])).length))]) (m' := [(4, grow 3 1 4 ((amts (curL (c : Int) (pre ++ [x]))).map fun n => [iv n]))]) ?_ ?_ ?_ ?_, pre ++ [x], post, by rw [hsp]; simp, rfl, rfl⟩
              · simp only [leV, look_cons, Nat.reduceBEq, cond_true, cond_false, hwi, hcx, List.length_append, List.length_singleton]
                refine ⟨VLe.still rfl, VLe.still rfl, ?_, VLe.still rfl, VLe.still rfl, VLe.still rfl, VLe.still rfl, trivial⟩
                rw [hcl]; exact VLe.ref_ (f := (fun r => bif r == 4 then 4 else r)) (r := 4) (by simp)
              · exact ⟨fun _ => ⟨_, rfl, RowLe.data_ (by rw [hcx] <;> simp [amts])⟩, fun h => by simp at h, trivial⟩
              · simp [wfV, AV.ids, lookR, grow]
              · exact ⟨wf_data _ _, trivial⟩
          · intro hb
            obtain rfl : post = [] := by
              cases post with
              | nil => rfl
              | cons x t => have := of_decide_eq_false hb; simp at hspl; omega
            clear hb
            simp only [List.append_nil] at hsp
            obtain rfl : l = pre := hsp
            have hcf : (curL (c : Int) l).length ≤ l.length := List.length_filter_le _ _
            have hca : (amts (curL (c : Int) l)).length = (curL (c : Int) l).length := by simp [amts]
            refine awp_exit ?_
            simp only [zz6, Nat.reduceEqDiff, ↓reduceIte]
            refine hK3 _ ?_; try clear hK3 K3
            refine awp_keepL [0, 4, 21] ?_
            simp only [zz20, zzI, look_nil, Nat.reduceBEq]
            refine awp_seq fun K3 hK3 => ?_
            refine awp_plain F_mixed [some 42, some 43, some 41, some 44, some 45, some 7, some 8] rfl ?_
            simp only [List.nil_append, List.cons_append, true_and, and_true, zz0, true_implies, Nat.reduceLT, Nat.reduceLeDiff, zzI, look_nil, Nat.reduceBEq, implies_true, evS_move, evS_call, evC_value, zz14, zzD, Nat.reduceAdd, Nat.zero_add, zzF, evS_assign, ints, grow, D.sl.injEq, len_map, zz6, Nat.reduceEqDiff, ↓reduceIte]
            refine call_go F_go39 (fun hG => Sum_ (amts (curL (c : Int) l)) (by omega)) (by simp [AV.ids, AV.idsL]) (by simp) ?_
            simp only [List.nil_append, List.cons_append, true_and, and_true, zz0, true_implies, Nat.reduceLT, Nat.reduceLeDiff, zzI, look_nil, Nat.reduceBEq, implies_true, evS_move, evS_call, evC_value, zz14, zzD, Nat.reduceAdd, Nat.zero_add, zzF, evS_assign, ints, grow, D.sl.injEq, len_map, zz6, Nat.reduceEqDiff, ↓reduceIte, atsL, oksG, freeN, AV.ren, AV.renL, addRows, ORow.row, Nat.reduceMul, Nat.reduceAdd, zz9, Option.bind_some, Option.map_some, forall_eq', D.sl.injEq, zz16, Option.some.injEq, exists_eq_left', exists_eq_left, exists_eq', exists_eq, List.length_cons, zz2]
            first | refine ⟨by simp [amts], ?_⟩ | skip
            refine hK3 _ ?_; try clear hK3 K3
            refine awp_keepL [0, 7, 8, 21] ?_
            simp only [zz20, zzI, look_nil, Nat.reduceBEq]
            refine awp_seq fun K3 hK3 => ?_
            refine awp_plain F_mixed [some 46, some 47, some 48, some 49, some 50, some 51] rfl ?_
            simp only [List.nil_append, List.cons_append, true_and, and_true, zz0, true_implies, Nat.reduceLT, Nat.reduceLeDiff, zzI, look_nil, Nat.reduceBEq, implies_true, Nat.reduceSub, S_getD, zz5, and_imp, imp_and, imp_self, and_self, evS_move, zz21, gr_v, zz28, zz13, pickK_l, pickK_r, zz6, Nat.reduceEqDiff, ↓reduceIte]
            refine hK3 _ ?_; try clear hK3 K3
            refine awp_keepL [0, 21, 51] ?_
            simp only [zz20, zzI, look_nil, Nat.reduceBEq]
            refine awp_condS _ (by decide) (by simp only [look_cons, Nat.reduceBEq, cond_true, cond_false]; rfl) ?_ ?_
            · intro hb
              have hcc : chkC (c : Int) l = true := hb
              clear hb
              have e : chkE l = 12 := by
                rw [chkE, h1, h2, h3]
                have : c = 0 ∨ c = 1 ∨ c = 2 := by omega
                rcases this with rfl | rfl | rfl
                · rw [show chkC 0 l = true from hcc]; rfl
                · rw [show chkC 1 l = true from hcc]; cases chkC 0 l <;> rfl
                · rw [show chkC 2 l = true from hcc]; cases chkC 0 l <;> cases chkC 1 l <;> rfl
              refine awp_seq fun K4 hK4 => ?_
              refine awp_plain F_mixed [some 2] rfl ?_
              simp only [List.nil_append, List.cons_append, true_and, and_true, zz0, true_implies, Nat.reduceLT, Nat.reduceLeDiff, zzI, look_nil, Nat.reduceBEq, implies_true, evS_assign, zz6, Nat.reduceEqDiff, ↓reduceIte]
              refine hK4 _ ?_; try clear hK4 K4
              refine awp_keepL [2] ?_
              simp only [zz20, zzI, look_nil, Nat.reduceBEq]
              refine awp_ret ?_
              simp only [zz6, Nat.reduceEqDiff, ↓reduceIte]
              refine done0 (by simp only [resCs, resC]; trivial) ?_ (by simp [flatA, flatAs, flatD]) (by simp [AV.ids, AV.idsL])
              simp only [List.map_cons, List.map_nil, resA, S_getD, Nat.reduceLT, Nat.reduceLeDiff, look_cons, Nat.reduceBEq, cond_true, cond_false, resAll]
              rw [e]
            · intro hb
              have hcc : chkC (c : Int) l = false := hb
              clear hb
              refine awp_skip ?_
              simp only [zz6, Nat.reduceEqDiff, ↓reduceIte]
              refine hK2 _ ?_; try clear hK2 K2
              refine awp_keepL [0, 21] ?_
              simp only [zz20, zzI, look_nil, Nat.reduceBEq]
              refine awp_plain F_mixed [some 52, some 21] rfl ?_
              simp only [List.nil_append, List.cons_append, true_and, and_true, zz0, true_implies, Nat.reduceLT, Nat.reduceLeDiff, zzI, look_nil, Nat.reduceBEq, implies_true, zz21, gr_v, zz26, evS_move, hwc, zz6, Nat.reduceEqDiff, ↓reduceIte]
              refine ⟨3 - (c + 1), _, by omega, le_SK id [] rfl (l' := [(0, .d (legs l)), (21, .d (iv ((c + 1 : Nat) : Int)))]) (m' := []) ?_ ?_ ?_ ?_, c + 1, by omega, fun k hk => by
                rcases Nat.lt_succ_iff_lt_or_eq.1 hk with hk | rfl
                · exact hck k hk
                · exact hcc, rfl, rfl⟩
              · simp only [leV, look_cons, Nat.reduceBEq, cond_true, cond_false, hwc, legs]; exact ⟨VLe.refl _, VLe.refl _, trivial⟩
              · trivial
              · simp [wfV, AV.ids, lookR]
              · trivial
        · intro hb
          obtain rfl : c = 3 := by have := of_decide_eq_false hb; omega
          clear hb
          have e : chkE l = 0 := by
            rw [chkE, h1, h2, h3, show chkC 0 l = false from hck 0 (by omega), show chkC 1 l = false from hck 1 (by omega), show chkC 2 l = false from hck 2 (by omega)]; rfl
          refine awp_exit ?_
          simp only [zz6, Nat.reduceEqDiff, ↓reduceIte]
          refine hK0 _ ?_; try clear hK0 K0
          refine awp_keepL [] ?_
          simp only [zz20, zzI, look_nil, Nat.reduceBEq]
          refine awp_seq fun K0 hK0 => ?_
          refine awp_plain F_mixed [some 2] rfl ?_
          simp only [List.nil_append, List.cons_append, true_and, and_true, zz0, true_implies, Nat.reduceLT, Nat.reduceLeDiff, zzI, look_nil, Nat.reduceBEq, implies_true, evS_assign, zz6, Nat.reduceEqDiff, ↓reduceIte]
          refine hK0 _ ?_; try clear hK0 K0
          refine awp_keepL [2] ?_
          simp only [zz20, zzI, look_nil, Nat.reduceBEq]
          refine awp_ret ?_
          simp only [zz6, Nat.reduceEqDiff, ↓reduceIte]
          refine done0 (by simp only [resCs, resC]; trivial) ?_ (by simp [flatA, flatAs, flatD]) (by simp [AV.ids, AV.idsL])
          simp only [List.map_cons, List.map_nil, resA, S_getD, Nat.reduceLT, Nat.reduceLeDiff, look_cons, Nat.reduceBEq, cond_true, cond_false, resAll]
          rw [e]
theorem rRight_ (n : Int) : ACalls Try.prog 33 [iv n] [] (bv (rightN n)) := by
  refine acalls_S (rs := [.tmp 2]) Try.func33 rfl rfl 9 [(0, .d (iv n))] rfl (by simp) rfl ?_
  refine awp_seq fun K0 hK0 => ?_
  refine awp_plain F_mixed [some 2] rfl ?_
  simp only [List.nil_append, List.cons_append, true_and, and_true, zz0, true_implies, Nat.reduceLT, Nat.reduceLeDiff, zzI, look_nil, Nat.reduceBEq, implies_true, evS_assign, zz6, Nat.reduceEqDiff, ↓reduceIte]
  refine hK0 _ ?_; try clear hK0 K0
  refine awp_keepL [0] ?_
  simp only [zz20, zzI, look_nil, Nat.reduceBEq]
  refine awp_seq fun K0 hK0 => ?_
  refine awp_plain F_mixed [some 3, some 4, some 5, some 6, some 7, some 8, some 2] rfl ?_
  simp only [List.nil_append, List.cons_append, true_and, and_true, zz0, true_implies, Nat.reduceLT, Nat.reduceLeDiff, zzI, look_nil, Nat.reduceBEq, implies_true, Nat.reduceSub, S_getD, zz5, and_imp, imp_and, imp_self, and_self, evS_move, zz21, gr_v, zz31, b_leq, pure_leq, zz13, pickK_l, pickK_r, evS_assign, zz6, Nat.reduceEqDiff, ↓reduceIte]
  refine hK0 _ ?_; try clear hK0 K0
  refine awp_keepL [2] ?_
  simp only [zz20, zzI, look_nil, Nat.reduceBEq]
  refine awp_ret ?_
  simp only [zz6, Nat.reduceEqDiff, ↓reduceIte]
  refine done0 (by simp only [resCs, resC]; trivial) ?_ (by simp [flatA, flatAs, flatD]) (by simp [AV.ids, AV.idsL])
  simp only [List.map_cons, List.map_nil, resA, S_getD, Nat.reduceLT, Nat.reduceLeDiff, look_cons, Nat.reduceBEq, cond_true, cond_false, resAll]
  have h : (decide (n ≥ -4611686018427387904) && decide (n ≤ 4611686018427387904)) = rightN n := by
    rw [Bool.eq_iff_iff]; simp [rightN]
  rw [h]
theorem rMove_ (a b : AcV) (n : Int) : ACalls Try.prog 20 [.agg (acC a), .agg (acC b), iv n] [⟨37, 4, (moveL a b n).map legC⟩] (.ref 0 2) := by
  refine acalls_S (rs := [.tmp 6]) Try.func20 rfl rfl 18 [(0, .d (.agg (acC a))), (1, .d (.agg (acC b))), (2, .d (iv n))] rfl (by simp) rfl ?_
  refine awp_seq fun K0 hK0 => ?_
  refine awp_plain F_mixed [some 3, some 4, some 6] rfl ?_
  simp only [List.nil_append, List.cons_append, true_and, and_true, zz0, true_implies, Nat.reduceLT, Nat.reduceLeDiff, zzI, look_nil, Nat.reduceBEq, implies_true, zz35, newRow1, zz1, zzG, zzD, zz16, Option.some.injEq, exists_eq_left', exists_eq_left, Option.map_some, eq_self, reduceCtorEq, and_self, Nat.reduceAdd, Nat.zero_add, zzF, zzB, zzE, evS_assign, acC, zz6, Nat.reduceEqDiff, ↓reduceIte]
  refine hK0 _ ?_; try clear hK0 K0
  refine awp_keepL [2, 3, 4] ?_
  simp only [zz20, zzI, look_nil, Nat.reduceBEq]
  refine awp_seq fun K0 hK0 => ?_
  refine awp_seq fun K1 hK1 => ?_
  refine awp_plain F_mixed [some 7, some 8, some 9] rfl ?_
  simp only [List.nil_append, List.cons_append, true_and, and_true, zz0, true_implies, Nat.reduceLT, Nat.reduceLeDiff, zzI, look_nil, Nat.reduceBEq, implies_true, evS_move, evS_call, evC_value, zz29, gr_v, zz30, zz6, Nat.reduceEqDiff, ↓reduceIte]
  refine call_go F_go33 (fun hG => rRight_ n) (by simp [AV.ids, AV.idsL]) (by simp) ?_
  simp only [List.nil_append, List.cons_append, true_and, and_true, zz0, true_implies, Nat.reduceLT, Nat.reduceLeDiff, zzI, look_nil, Nat.reduceBEq, implies_true, evS_move, evS_call, evC_value, zz29, gr_v, zz30, zz6, Nat.reduceEqDiff, ↓reduceIte, atsL, oksG, freeN, AV.ren, AV.renL, addRows, ORow.row, Nat.reduceMul, Nat.reduceAdd, zz9, Option.bind_some, Option.map_some, forall_eq', D.sl.injEq, zz16, Option.some.injEq, exists_eq_left', exists_eq_left, exists_eq', exists_eq, zzD, zz2]
  refine hK1 _ ?_; try clear hK1 K1
  refine awp_keepL [2, 3, 4, 9] ?_
  simp only [zz20, zzI, look_nil, Nat.reduceBEq]
  refine awp_condS _ (by decide) (by simp only [look_cons, Nat.reduceBEq, cond_true, cond_false]; rfl) ?_ ?_
  · intro hb
    have e : rightN n = false := by simpa using hb
    clear hb
    have hw : IntKind.wrap .i64 (0 - 0) = 0 - 0 := wrapI (by omega) (by omega)
    refine awp_plain F_mixed [some 2] rfl ?_
    simp only [List.nil_append, List.cons_append, true_and, and_true, zz0, true_implies, Nat.reduceLT, Nat.reduceLeDiff, zzI, look_nil, Nat.reduceBEq, implies_true, evS_assign, zz6, Nat.reduceEqDiff, ↓reduceIte]
    refine hK0 _ ?_; try clear hK0 K0
    refine awp_keepL [2, 3, 4] ?_
    simp only [zz20, zzI, look_nil, Nat.reduceBEq]
    refine awp_seq fun K0 hK0 => ?_
    refine awp_plain F_mixed [some 10, some 11, some 12, some 13, some 14, some 15, some 16, some 17, some 6] rfl ?_
    simp only [List.nil_append, List.cons_append, true_and, and_true, zz0, true_implies, Nat.reduceLT, Nat.reduceLeDiff, zzI, look_nil, Nat.reduceBEq, implies_true, F_ok24, F_ag24, F_sz24, zz8, zz23, zzD, Nat.reduceAdd, Nat.zero_add, zzF, zzB, zzE, zz16, Option.some.injEq, exists_eq_left', exists_eq_left, Option.map_some, eq_self, reduceCtorEq, and_self, evS_move, zz29, gr_v, zz37, F_zero37, F_bld37, zz7, splice, Option.getD_some, List.append_nil, zz1, zzG, zz10, F_fld37_0, F_fld37_1, F_sl32, F_sz37, zz3, newRow1, maxLen_le, Nat.reduceMul, evS_assign, hw, zz6, Nat.reduceEqDiff, ↓reduceIte]
    refine hK0 _ ?_; try clear hK0 K0
    refine awp_keepL [6] ?_
    simp only [zz20, zzI, look_nil, Nat.reduceBEq]
    refine awp_ret ?_
    simp only [zz6, Nat.reduceEqDiff, ↓reduceIte]
    rw [moveL, e]
    refine done1 17 (by simp only [resCs, resC]; trivial) ?_ (by simp [flatA, flatAs, flatD, legC]) (by simp [AV.ids, AV.idsL, legC]) (by rfl) trivial rfl rfl ?_ (by simp [flatDs, flatD, legC])
    · simp only [List.map_cons, List.map_nil, resA, S_getD, Nat.reduceLT, Nat.reduceLeDiff, look_cons, Nat.reduceBEq, cond_true, cond_false, resAll]; rfl
    · simp only [List.map_cons, List.map_nil, legC, cond_true, cond_false]
  · intro hb
    have e : rightN n = true := by simpa using hb
    clear hb
    have hn : -4611686018427387904 ≤ n ∧ n ≤ 4611686018427387904 := by simpa [rightN] using e
    have hw : IntKind.wrap .i64 (0 - n) = 0 - n := wrapI (by omega) (by omega)
    refine awp_skip ?_
    simp only [zz6, Nat.reduceEqDiff, ↓reduceIte]
    refine hK0 _ ?_; try clear hK0 K0
    refine awp_keepL [2, 3, 4] ?_
    simp only [zz20, zzI, look_nil, Nat.reduceBEq]
    refine awp_seq fun K0 hK0 => ?_
    refine awp_plain F_mixed [some 10, some 11, some 12, some 13, some 14, some 15, some 16, some 17, some 6] rfl ?_
    simp only [List.nil_append, List.cons_append, true_and, and_true, zz0, true_implies, Nat.reduceLT, Nat.reduceLeDiff, zzI, look_nil, Nat.reduceBEq, implies_true, F_ok24, F_ag24, F_sz24, zz8, zz23, zzD, Nat.reduceAdd, Nat.zero_add, zzF, zzB, zzE, zz16, Option.some.injEq, exists_eq_left', exists_eq_left, Option.map_some, eq_self, reduceCtorEq, and_self, evS_move, zz29, gr_v, zz37, F_zero37, F_bld37, zz7, splice, Option.getD_some, List.append_nil, zz1, zzG, zz10, F_fld37_0, F_fld37_1, F_sl32, F_sz37, zz3, newRow1, maxLen_le, Nat.reduceMul, evS_assign, hw, zz6, Nat.reduceEqDiff, ↓reduceIte]
    refine hK0 _ ?_; try clear hK0 K0
    refine awp_keepL [6] ?_
    simp only [zz20, zzI, look_nil, Nat.reduceBEq]
    refine awp_ret ?_
    simp only [zz6, Nat.reduceEqDiff, ↓reduceIte]
    rw [moveL, e]
    refine done1 17 (by simp only [resCs, resC]; trivial) ?_ (by simp [flatA, flatAs, flatD, legC]) (by simp [AV.ids, AV.idsL, legC]) (by rfl) trivial rfl rfl ?_ (by simp [flatDs, flatD, legC])
    · simp only [List.map_cons, List.map_nil, resA, S_getD, Nat.reduceLT, Nat.reduceLeDiff, look_cons, Nat.reduceBEq, cond_true, cond_false, resAll]; rfl
    · simp only [List.map_cons, List.map_nil, legC, cond_true, cond_false]
theorem kAcct_ (a : AcV) : ACalls Try.prog 12 [.agg (acC a), .agg (acC a)] [] (bv true) := by
  refine acalls_S (rs := [.tmp 4]) Try.func12 rfl rfl 24 [(0, .d (.agg (acC a))), (1, .d (.agg (acC a)))] rfl (by simp) rfl ?_
  refine awp_seq fun K0 hK0 => ?_
  refine awp_plain F_mixed [some 2, some 3, some 4] rfl ?_
  simp only [List.nil_append, List.cons_append, true_and, and_true, zz0, true_implies, Nat.reduceLT, Nat.reduceLeDiff, zzI, look_nil, Nat.reduceBEq, implies_true, zz35, newRow1, zz1, zzG, zzD, zz16, Option.some.injEq, exists_eq_left', exists_eq_left, Option.map_some, eq_self, reduceCtorEq, and_self, Nat.reduceAdd, Nat.zero_add, zzF, zzB, zzE, evS_assign, acC, zz6, Nat.reduceEqDiff, ↓reduceIte]
  refine hK0 _ ?_; try clear hK0 K0
  refine awp_keepL [2, 3] ?_
  simp only [zz20, zzI, look_nil, Nat.reduceBEq]
  refine awp_seq fun K0 hK0 => ?_
  refine awp_plain F_mixed [some 5, some 6, some 7, some 8, some 9, some 10, some 11, some 12, some 13, some 14, some 15, some 16, some 17, some 18, some 19, some 20, some 21, some 22, some 23, some 4] rfl ?_
  simp only [List.nil_append, List.cons_append, true_and, and_true, zz0, true_implies, Nat.reduceLT, Nat.reduceLeDiff, zzI, look_nil, Nat.reduceBEq, implies_true, Nat.reduceSub, S_getD, zz5, and_imp, imp_and, imp_self, and_self, zz19, zz23, F_off24_0, zzB, Nat.zero_add, Nat.reduceAdd, F_ok3, F_ag3, F_sz3, zz8, zzD, zzF, zzE, zz16, Option.some.injEq, exists_eq_left', exists_eq_left, Option.map_some, eq_self, reduceCtorEq, zz21, gr_v, zz34, evS_move, F_off24_1, zz13, pickK_l, pickK_r, F_off24_2, evS_assign, zz6, Nat.reduceEqDiff, ↓reduceIte]
  refine hK0 _ ?_; try clear hK0 K0
  refine awp_keepL [4] ?_
  simp only [zz20, zzI, look_nil, Nat.reduceBEq]
  refine awp_ret ?_
  simp only [zz6, Nat.reduceEqDiff, ↓reduceIte]
  refine done0 (by simp only [resCs, resC]; trivial) ?_ (by simp [flatA, flatAs, flatD]) (by simp [AV.ids, AV.idsL])
  simp only [List.map_cons, List.map_nil, resA, S_getD, Nat.reduceLT, Nat.reduceLeDiff, look_cons, Nat.reduceBEq, cond_true, cond_false, resAll]
  simp
end Go.Proofs.Ytfbpceolkhlifaa
