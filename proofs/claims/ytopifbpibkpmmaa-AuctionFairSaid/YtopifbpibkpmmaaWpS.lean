import Derived.Test.YtopifbpibkpmmaaWpG
import Derived.Test.YtopifbpibkpmmaaSpecW
namespace Go.Proofs.Ytopifbpibkpmmaa
open Go.RowKit
set_option linter.unusedVariables false
set_option linter.unusedSimpArgs false
theorem F_go10 : goFn Try.prog 10 := ⟨_, Try.func10, rfl, rfl⟩
theorem F_off33_2 : offT Try.prog 33 2 = some 2 := by kernel_rfl
theorem FillF (q : Int) (l : List BidV) (hl : l.length ≤ 1000000) : ACalls Try.prog 9 [iv q, bids l] [] (.tp [.d (fillsD (filV q l)), .d (iv (filR q l)), .d (iv (filE q l))]) :=
  (Fill_ q l hl).freezeT (by simp [frzOk, frzOkL])
theorem b_nu {k : IntKind} {b : Int} : binV .neq undef (.int k b) = .bool false := rfl
set_option maxRecDepth 100000 in
set_option maxHeartbeats 4000000 in
theorem auctionFair_ (q : Int) (l : List BidV) : ACalls Try.prog 3 [iv q, bids l] [] (bv true) := by
  refine acalls_S (rs := [.tmp 4]) Try.func3 rfl rfl 240 [(0, .d (iv q)), (1, .d (bids l))] rfl (by simp) rfl ?_
  refine awp_seq fun K0 hK0 => ?_
  refine awp_plain F_mixed [some 4] rfl ?_
  simp only [List.nil_append, List.cons_append, true_and, and_true, zz0, true_implies, Nat.reduceLT, Nat.reduceLeDiff, zzI, look_nil, Nat.reduceBEq, implies_true, evS_assign, zz6, Nat.reduceEqDiff, ↓reduceIte]
  refine hK0 _ ?_; try clear hK0 K0
  refine awp_keepL [0, 1] ?_
  simp only [zz20, zzI, look_nil, Nat.reduceBEq]
  refine awp_seq fun K0 hK0 => ?_
  refine awp_seq fun K1 hK1 => ?_
  refine awp_plain F_mixed [some 18, some 19, some 20] rfl ?_
  simp only [List.nil_append, List.cons_append, true_and, and_true, zz0, true_implies, Nat.reduceLT, Nat.reduceLeDiff, zzI, look_nil, Nat.reduceBEq, implies_true, evS_move, evS_call, zz12, F_sl22, Option.isSome_some, zz21, gr_v, zz25, bids, len_map, zz6, Nat.reduceEqDiff, ↓reduceIte]
  refine hK1 _ ?_; try clear hK1 K1
  refine awp_keepL [0, 1, 20] ?_
  simp only [zz20, zzI, look_nil, Nat.reduceBEq]
  refine awp_condS _ (by decide) (by simp only [look_cons, Nat.reduceBEq, cond_true, cond_false]; rfl) ?_ ?_
  · intro hb
    clear hb
    refine awp_seq fun K2 hK2 => ?_
    refine awp_plain F_mixed [some 4] rfl ?_
    simp only [List.nil_append, List.cons_append, true_and, and_true, zz0, true_implies, Nat.reduceLT, Nat.reduceLeDiff, zzI, look_nil, Nat.reduceBEq, implies_true, evS_assign, zz6, Nat.reduceEqDiff, ↓reduceIte]
    refine hK2 _ ?_; try clear hK2 K2
    refine awp_keepL [4] ?_
    simp only [zz20, zzI, look_nil, Nat.reduceBEq]
    refine awp_ret ?_
    simp only [zz6, Nat.reduceEqDiff, ↓reduceIte]
    refine done0 (by simp only [resCs, resC]; trivial) ?_ (by simp [flatA, flatAs, flatD]) (by simp [AV.ids, AV.idsL])
    simp only [List.map_cons, List.map_nil, resA, S_getD, Nat.reduceLT, Nat.reduceLeDiff, look_cons, Nat.reduceBEq, cond_true, cond_false, resAll]
    
  · intro hb
    have hl : l.length ≤ 300 := by simp at hb; omega
    clear hb
    refine awp_skip ?_
    simp only [zz6, Nat.reduceEqDiff, ↓reduceIte]
    refine hK0 _ ?_; try clear hK0 K0
    refine awp_keepL [0, 1] ?_
    simp only [zz20, zzI, look_nil, Nat.reduceBEq]
    refine awp_seq fun K0 hK0 => ?_
    refine awp_plain F_mixed [some 22, some 23, some 24, some 21, some 25, some 26, some 27, some 5, some 6, some 7] rfl ?_
    simp only [List.nil_append, List.cons_append, true_and, and_true, zz0, true_implies, Nat.reduceLT, Nat.reduceLeDiff, zzI, look_nil, Nat.reduceBEq, implies_true, evS_move, evS_call, evC_value, zz14, zzD, Nat.reduceAdd, Nat.zero_add, zzF, evS_assign, bids, zz6, Nat.reduceEqDiff, ↓reduceIte]
    refine call_go F_go9 (fun hG => FillF q l (by omega)) (by simp [AV.ids, AV.idsL]) (by simp) ?_
    simp only [List.nil_append, List.cons_append, true_and, and_true, zz0, true_implies, Nat.reduceLT, Nat.reduceLeDiff, zzI, look_nil, Nat.reduceBEq, implies_true, evS_move, evS_call, evC_value, zz14, zzD, Nat.reduceAdd, Nat.zero_add, zzF, evS_assign, bids, zz6, Nat.reduceEqDiff, ↓reduceIte, atsL, oksG, freeN, AV.ren, AV.renL, addRows, ORow.row, Nat.reduceMul, Nat.reduceAdd, zz9, Option.bind_some, Option.map_some, forall_eq', D.sl.injEq, zz16, Option.some.injEq, exists_eq_left', exists_eq_left, exists_eq', exists_eq, List.length_cons, zz2]
    refine hK0 _ ?_; try clear hK0 K0
    refine awp_keepL [0, 1, 5, 6, 7] ?_
    simp only [zz20, zzI, look_nil, Nat.reduceBEq]
    refine awp_seq fun K0 hK0 => ?_
    refine awp_seq fun K1 hK1 => ?_
    refine awp_plain F_mixed [some 28, some 29] rfl ?_
    simp only [List.nil_append, List.cons_append, true_and, and_true, zz0, true_implies, Nat.reduceLT, Nat.reduceLeDiff, zzI, look_nil, Nat.reduceBEq, implies_true, evS_move, zz21, gr_v, zz28, zz6, Nat.reduceEqDiff, ↓reduceIte]
    refine hK1 _ ?_; try clear hK1 K1
    refine awp_keepL [0, 1, 5, 6, 29] ?_
    simp only [zz20, zzI, look_nil, Nat.reduceBEq]
    refine awp_condS _ (by decide) (by simp only [look_cons, Nat.reduceBEq, cond_true, cond_false]; rfl) ?_ ?_
    · intro hb
      have he : filE q l ≠ 0 := by simpa using hb
      clear hb
      have hbd : fillBad q l = true := by
        cases hc : fillBad q l with
        | true => rfl
        | false => exact absurd (by simp only [filE, hc, cond_false]) he
      have ev : filV q l = [] := by simp only [filV, hbd, cond_true]
      have er : filR q l = 0 := by simp only [filR, hbd, cond_true]
      refine awp_seq fun K2 hK2 => ?_
      refine awp_plain F_mixed [some 30, some 31, some 32, some 33, some 34, some 35, some 36, some 37, some 38, some 39, some 4] rfl ?_
      simp only [List.nil_append, List.cons_append, true_and, and_true, zz0, true_implies, Nat.reduceLT, Nat.reduceLeDiff, zzI, look_nil, Nat.reduceBEq, implies_true, Nat.reduceSub, S_getD, zz5, and_imp, imp_and, imp_self, and_self, evS_move, evS_call, zz12, F_sl23, Option.isSome_some, zz21, gr_v, zz34, zz13, evC_value, evS_assign, ev, er, fillsD, List.map_nil, List.length_nil, beq_self_eq_true, Bool.and_self, zz6, Nat.reduceEqDiff, ↓reduceIte]
      refine call_go F_go10 (fun hG => wakes19_) (by simp [AV.ids, AV.idsL]) (by simp) ?_
      simp only [List.nil_append, List.cons_append, true_and, and_true, zz0, true_implies, Nat.reduceLT, Nat.reduceLeDiff, zzI, look_nil, Nat.reduceBEq, implies_true, Nat.reduceSub, S_getD, zz5, and_imp, imp_and, imp_self, and_self, evS_move, evS_call, zz12, F_sl23, Option.isSome_some, zz21, gr_v, zz34, zz13, evC_value, evS_assign, ev, er, fillsD, List.map_nil, beq_self_eq_true, Bool.and_self, zz6, Nat.reduceEqDiff, ↓reduceIte, atsL, oksG, freeN, AV.ren, AV.renL, addRows, ORow.row, Nat.reduceMul, Nat.reduceAdd, zz9, Option.bind_some, Option.map_some, forall_eq', D.sl.injEq, zz16, Option.some.injEq, exists_eq_left', exists_eq_left, exists_eq', exists_eq, zzD, zz2]
      refine hK2 _ ?_; try clear hK2 K2
      refine awp_keepL [4] ?_
      simp only [zz20, zzI, look_nil, Nat.reduceBEq]
      refine awp_ret ?_
      simp only [zz6, Nat.reduceEqDiff, ↓reduceIte]
      refine done0 (by simp only [resCs, resC]; trivial) ?_ (by simp [flatA, flatAs, flatD]) (by simp [AV.ids, AV.idsL])
      simp only [List.map_cons, List.map_nil, resA, S_getD, Nat.reduceLT, Nat.reduceLeDiff, look_cons, Nat.reduceBEq, cond_true, cond_false, resAll]
      try rfl
    · intro hb
      have he : filE q l = 0 := by simpa using hb
      clear hb
      have H := fair_law he
      generalize filV q l = FF at H ⊢
      generalize filR q l = RR at H ⊢
      have hFl := H.len
      refine awp_skip ?_
      simp only [zz6, Nat.reduceEqDiff, ↓reduceIte]
      refine hK0 _ ?_; try clear hK0 K0
      refine awp_keepL [0, 1, 5, 6] ?_
      simp only [zz20, zzI, look_nil, Nat.reduceBEq]
      refine awp_seq fun K0 hK0 => ?_
      refine awp_plain F_mixed [some 8] rfl ?_
      simp only [List.nil_append, List.cons_append, true_and, and_true, zz0, true_implies, Nat.reduceLT, Nat.reduceLeDiff, zzI, look_nil, Nat.reduceBEq, implies_true, evS_assign, zz6, Nat.reduceEqDiff, ↓reduceIte]
      refine hK0 _ ?_; try clear hK0 K0
      refine awp_keepL [0, 1, 5, 6, 8] ?_
      simp only [zz20, zzI, look_nil, Nat.reduceBEq]
      refine awp_seq fun K0 hK0 => ?_
      refine awp_plain F_mixed [some 9] rfl ?_
      simp only [List.nil_append, List.cons_append, true_and, and_true, zz0, true_implies, Nat.reduceLT, Nat.reduceLeDiff, zzI, look_nil, Nat.reduceBEq, implies_true, evS_assign, zz6, Nat.reduceEqDiff, ↓reduceIte]
      refine hK0 _ ?_; try clear hK0 K0
      refine awp_keepL [0, 1, 5, 6, 8, 9] ?_
      simp only [zz20, zzI, look_nil, Nat.reduceBEq]
      refine awp_seq fun K0 hK0 => ?_
      refine awp_seq fun K1 hK1 => ?_
      refine awp_plain F_mixed [some 10] rfl ?_
      simp only [List.nil_append, List.cons_append, true_and, and_true, zz0, true_implies, Nat.reduceLT, Nat.reduceLeDiff, zzI, look_nil, Nat.reduceBEq, implies_true, evS_assign, zz6, Nat.reduceEqDiff, ↓reduceIte]
      refine hK1 _ ?_; try clear hK1 K1
      refine awp_keepL [0, 1, 5, 6, 8, 9, 10] ?_
      simp only [zz20, zzI, look_nil, Nat.reduceBEq]
      refine awp_block ?_
      refine awp_loop (fun m s => ∃ pre post : List BidV, l = pre ++ post ∧ m = post.length ∧ s = S 240 [(0, .d (iv q)), (1, .d (bids l)), (5, .d (fillsD FF)), (6, .d (iv RR)), (8, .d (iv 0)), (9, .d (iv (sumQ pre))), (10, .d (iv (pre).length))] []) l.length _ (le_SK id [] rfl (l' := [(0, .d (iv q)), (1, .d (bids l)), (5, .d (fillsD FF)), (6, .d (iv RR)), (8, .d (iv 0)), (9, .d (iv (sumQ ([] : List BidV)))), (10, .d (iv (([] : List BidV)).length))]) (m' := []) ?_ ?_ ?_ ?_) ⟨[], l, rfl, rfl, rfl⟩ ?_
      · simp only [leV, look_cons, Nat.reduceBEq, cond_true, cond_false, bids, fillsD]; exact ⟨VLe.refl _, VLe.refl _, VLe.refl _, VLe.refl _, VLe.refl _, VLe.refl _, VLe.refl _, trivial⟩
      · trivial
      · simp [wfV, AV.ids, lookR]
      · trivial
      rintro m s ⟨pre, post, hsp, rfl, rfl⟩
      have hspl := congrArg List.length hsp
      simp only [List.length_append] at hspl
      refine awp_seq fun K2 hK2 => ?_
      refine awp_seq fun K3 hK3 => ?_
      refine awp_plain F_mixed [some 40, some 41, some 42, some 43] rfl ?_
      simp only [List.nil_append, List.cons_append, true_and, and_true, zz0, true_implies, Nat.reduceLT, Nat.reduceLeDiff, zzI, look_nil, Nat.reduceBEq, implies_true, evS_move, evS_call, zz12, F_sl22, Option.isSome_some, zz21, gr_v, zz22, bids, len_map, zz6, Nat.reduceEqDiff, ↓reduceIte]
      refine hK3 _ ?_; try clear hK3 K3
      refine awp_keepL [0, 1, 5, 6, 8, 9, 10, 43] ?_
      simp only [zz20, zzI, look_nil, Nat.reduceBEq]
      refine awp_condS _ (by decide) (by simp only [look_cons, Nat.reduceBEq, cond_true, cond_false]; rfl) ?_ ?_
      · intro hb
        obtain ⟨x, post2, rfl⟩ : ∃ x t, post = x :: t := by
          cases post with
          | nil => have := of_decide_eq_true hb; simp at hspl; omega
          | cons x t => exact ⟨x, t, rfl⟩
        clear hb
        simp only [List.length_cons] at hspl
        have gx : (l.map bidC).getD pre.length [] = [iv x.who, iv x.inst, iv x.frm, iv x.qty, iv x.price] := by
          rw [hsp, List.map_append]; exact gd_mid' (A := pre.map bidC) _ _ (by simp)
        have bx := ltI (show pre.length < l.length by omega)
        have wx : IntKind.wrap .i64 ((pre.length : Int) + 1) = ((pre.length + 1 : Nat) : Int) := by rw [wrapI (by omega) (by omega)]; omega
        have hpk : pre.all bidOk = true := by have := H.good; rw [hsp, List.all_append] at this; exact (Bool.and_eq_true_iff.1 this).1
        have hxk : bidOk x = true := by have := H.good; rw [hsp] at this; simp at this; exact this.2.1
        have hxq := ok_qty hxk
        have hsb := sumQ_bnd hpk
        have hws : IntKind.wrap .i64 (sumQ pre + x.qty) = sumQ pre + x.qty := wrapI (by omega) (by omega)
        have hsn := sumQ_snoc pre x
        refine awp_skip ?_
        simp only [zz6, Nat.reduceEqDiff, ↓reduceIte]
        refine hK2 _ ?_; try clear hK2 K2
        refine awp_keepL [0, 1, 5, 6, 8, 9, 10] ?_
        simp only [zz20, zzI, look_nil, Nat.reduceBEq]
        refine awp_seq fun K2 hK2 => ?_
        refine awp_block ?_
        refine awp_plain F_mixed [some 46, some 47, some 48, some 49, some 50, some 51, some 52, some 9] rfl ?_
        simp only [List.nil_append, List.cons_append, true_and, and_true, zz0, true_implies, Nat.reduceLT, Nat.reduceLeDiff, zzI, look_nil, Nat.reduceBEq, implies_true, evS_move, evS_indexAddr, zz23, zz24, F_sl22, F_sz31, Option.map_some, zz16, Option.some.injEq, exists_eq_left', exists_eq_left, eq_self, reduceCtorEq, and_self, zz19, F_off31_2, zzB, Nat.zero_add, Nat.reduceAdd, F_ok3, F_ag3, F_sz3, zz8, zzD, zzF, zzE, zz21, gr_v, zz26, evS_assign, bids, gx, bx, hws, len_map, ge0, Int.toNat_natCast, D.agg.injEq, zz6, Nat.reduceEqDiff, ↓reduceIte]
        refine hK2 _ ?_; try clear hK2 K2
        refine awp_keepL [0, 1, 5, 6, 8, 9, 10] ?_
        simp only [zz20, zzI, look_nil, Nat.reduceBEq]
        refine awp_plain F_mixed [some 44, some 45, some 10] rfl ?_
        simp only [List.nil_append, List.cons_append, true_and, and_true, zz0, true_implies, Nat.reduceLT, Nat.reduceLeDiff, zzI, look_nil, Nat.reduceBEq, implies_true, evS_move, zz21, gr_v, zz26, evS_assign, wx, zz6, Nat.reduceEqDiff, ↓reduceIte]
        refine ⟨post2.length, _, by simp, le_SK id [] rfl (l' := [(0, .d (iv q)), (1, .d (bids l)), (5, .d (fillsD FF)), (6, .d (iv RR)), (8, .d (iv 0)), (9, .d (iv (sumQ (pre ++ [x])))), (10, .d (iv ((pre ++ [x])).length))]) (m' := []) ?_ ?_ ?_ ?_, pre ++ [x], post2, by rw [hsp]; simp, rfl, rfl⟩
        · simp only [leV, look_cons, Nat.reduceBEq, cond_true, cond_false, hws, hsn, wx, bids, fillsD, List.length_append, List.length_singleton]; exact ⟨VLe.refl _, VLe.refl _, VLe.refl _, VLe.refl _, VLe.refl _, VLe.refl _, VLe.refl _, trivial⟩
        · trivial
        · simp [wfV, AV.ids, lookR]
        · trivial
      · intro hb
        obtain rfl : post = [] := by
          cases post with
          | nil => rfl
          | cons x t => have := of_decide_eq_false hb; simp at hspl; omega
        clear hb
        simp only [List.append_nil] at hsp
        subst hsp
        refine awp_exit ?_
        simp only [zz6, Nat.reduceEqDiff, ↓reduceIte]
        refine hK0 _ ?_; try clear hK0 K0
        refine awp_keepL [0, 1, 5, 6, 8, 9] ?_
        simp only [zz20, zzI, look_nil, Nat.reduceBEq]
        refine awp_seq fun K0 hK0 => ?_
        refine awp_seq fun K1 hK1 => ?_
        refine awp_plain F_mixed [some 11] rfl ?_
        simp only [List.nil_append, List.cons_append, true_and, and_true, zz0, true_implies, Nat.reduceLT, Nat.reduceLeDiff, zzI, look_nil, Nat.reduceBEq, implies_true, evS_assign, zz6, Nat.reduceEqDiff, ↓reduceIte]
        refine hK1 _ ?_; try clear hK1 K1
        refine awp_keepL [0, 1, 5, 6, 8, 9, 11] ?_
        simp only [zz20, zzI, look_nil, Nat.reduceBEq]
        refine awp_block ?_
        refine awp_loop (fun m s => ∃ pre post : List FillV, FF = pre ++ post ∧ m = post.length ∧ s = S 240 [(0, .d (iv q)), (1, .d (bids l)), (5, .d (fillsD FF)), (6, .d (iv RR)), (8, .d (iv (sumFl pre))), (9, .d (iv (sumQ l))), (11, .d (iv (pre).length))] []) FF.length _ (le_SK id [] rfl (l' := [(0, .d (iv q)), (1, .d (bids l)), (5, .d (fillsD FF)), (6, .d (iv RR)), (8, .d (iv (sumFl ([] : List FillV)))), (9, .d (iv (sumQ l))), (11, .d (iv (([] : List FillV)).length))]) (m' := []) ?_ ?_ ?_ ?_) ⟨[], FF, rfl, rfl, rfl⟩ ?_
        · simp only [leV, look_cons, Nat.reduceBEq, cond_true, cond_false, bids, fillsD]; exact ⟨VLe.refl _, VLe.refl _, VLe.refl _, VLe.refl _, VLe.refl _, VLe.refl _, VLe.refl _, trivial⟩
        · trivial
        · simp [wfV, AV.ids, lookR]
        · trivial
        rintro m s ⟨pre, post, hsf, rfl, rfl⟩
        have hsfl := congrArg List.length hsf
        simp only [List.length_append] at hsfl
        refine awp_seq fun K2 hK2 => ?_
        refine awp_seq fun K3 hK3 => ?_
        refine awp_plain F_mixed [some 53, some 54, some 55, some 56] rfl ?_
        simp only [List.nil_append, List.cons_append, true_and, and_true, zz0, true_implies, Nat.reduceLT, Nat.reduceLeDiff, zzI, look_nil, Nat.reduceBEq, implies_true, evS_move, evS_call, zz12, F_sl23, Option.isSome_some, zz21, gr_v, zz22, fillsD, len_map, zz6, Nat.reduceEqDiff, ↓reduceIte]
        refine hK3 _ ?_; try clear hK3 K3
        refine awp_keepL [0, 1, 5, 6, 8, 9, 11, 56] ?_
        simp only [zz20, zzI, look_nil, Nat.reduceBEq]
        refine awp_condS _ (by decide) (by simp only [look_cons, Nat.reduceBEq, cond_true, cond_false]; rfl) ?_ ?_
        · intro hb
          obtain ⟨x, post2, rfl⟩ : ∃ x t, post = x :: t := by
            cases post with
            | nil => have := of_decide_eq_true hb; simp at hsfl; omega
            | cons x t => exact ⟨x, t, rfl⟩
          clear hb
          simp only [List.length_cons] at hsfl
          have gx : (FF.map fillC).getD pre.length [] = [iv x.frm, iv x.qty, iv x.price] := by
            rw [hsf, List.map_append]; exact gd_mid' (A := pre.map fillC) _ _ (by simp)
          have bx := ltI (show pre.length < FF.length by omega)
          have wx : IntKind.wrap .i64 ((pre.length : Int) + 1) = ((pre.length + 1 : Nat) : Int) := by rw [wrapI (by omega) (by omega)]; omega
          have hxm := H.mem x (by rw [hsf]; simp)
          have hsn := sumFl_snoc pre x
          have hsb := sumFl_bnd (l := pre) (fun z hz => H.mem z (by rw [hsf]; simp [hz]))
          have hws : IntKind.wrap .i64 (sumFl pre + x.qty) = sumFl pre + x.qty := wrapI (by omega) (by omega)
          have hwk : (IntKind.wrap .i64 ((pre.length : Int) - 1)).toNat = pre.length - 1 := by rw [wrapI (by omega) (by omega)]; omega
          obtain ⟨y, gy, hyA⟩ : ∃ y : FillV, (FF.map fillC).getD (pre.length - 1) [] = [iv y.frm, iv y.qty, iv y.price] ∧ ∀ A z, pre = A ++ [z] → y = z := by
            rcases List.eq_nil_or_concat pre with h | ⟨A, z, h⟩
            · subst h; exact ⟨x, gx, fun A z h => by simp at h⟩
            · obtain rfl : pre = A ++ [z] := by simpa using h
              refine ⟨z, ?_, fun A2 z2 h2 => (List.append_inj_right' h2 rfl |> List.cons.inj).1⟩
              rw [hsf, show A ++ [z] ++ x :: post2 = A ++ z :: (x :: post2) by simp, List.map_append]
              exact gd_mid' (A := A.map fillC) _ _ (by simp)
          have hpf : (decide ((pre.length : Int) > 0) && (decide (q > 0) && decide (x.price > y.price) || decide (q < 0) && decide (x.price < y.price))) = false := by
            rcases List.eq_nil_or_concat pre with h | ⟨A, z, h⟩
            · subst h; rfl
            · obtain rfl : pre = A ++ [z] := by simpa using h
              obtain rfl := hyA A z rfl
              have ha := H.asc A y x post2 (by rw [hsf]; simp)
              by_cases h1 : q > 0
              · by_cases h2 : x.price > y.price
                · exact absurd ⟨h1, h2⟩ ha.1
                · simp [h2, show ¬ q < 0 by omega]
              · by_cases h3 : q < 0
                · by_cases h2 : x.price < y.price
                  · exact absurd ⟨h3, h2⟩ ha.2
                  · simp [h2, h1]
                · simp [h1, h3]
          refine awp_skip ?_
          simp only [zz6, Nat.reduceEqDiff, ↓reduceIte]
          refine hK2 _ ?_; try clear hK2 K2
          refine awp_keepL [0, 1, 5, 6, 8, 9, 11] ?_
          simp only [zz20, zzI, look_nil, Nat.reduceBEq]
          refine awp_seq fun K2 hK2 => ?_
          refine awp_block ?_
          refine awp_seq fun K3 hK3 => ?_
          refine awp_seq fun K4 hK4 => ?_
          refine awp_plain F_mixed [some 59, some 60, some 61, some 62, some 63, some 64] rfl ?_
          simp only [List.nil_append, List.cons_append, true_and, and_true, zz0, true_implies, Nat.reduceLT, Nat.reduceLeDiff, zzI, look_nil, Nat.reduceBEq, implies_true, evS_move, evS_indexAddr, zz23, zz24, F_sl23, F_sz33, Option.map_some, zz16, Option.some.injEq, exists_eq_left', exists_eq_left, eq_self, reduceCtorEq, and_self, zz19, F_off33_1, zzB, Nat.zero_add, Nat.reduceAdd, F_ok3, F_ag3, F_sz3, zz8, zzD, zzF, zzE, zz21, gr_v, zz22, fillsD, fillC, gx, bx, len_map, ge0, Int.toNat_natCast, D.agg.injEq, zz6, Nat.reduceEqDiff, ↓reduceIte]
          refine hK4 _ ?_; try clear hK4 K4
          refine awp_keepL [0, 1, 5, 6, 8, 9, 11, 64] ?_
          simp only [zz20, zzI, look_nil, Nat.reduceBEq]
          refine awp_condS _ (by decide) (by simp only [look_cons, Nat.reduceBEq, cond_true, cond_false]; rfl) ?_ ?_
          · intro hb
            have := of_decide_eq_true hb; omega
          · intro hb
            clear hb
            refine awp_skip ?_
            simp only [zz6, Nat.reduceEqDiff, ↓reduceIte]
            refine hK3 _ ?_; try clear hK3 K3
            refine awp_keepL [0, 1, 5, 6, 8, 9, 11] ?_
            simp only [zz20, zzI, look_nil, Nat.reduceBEq]
            refine awp_seq fun K3 hK3 => ?_
            refine awp_plain F_mixed [some 65, some 66, some 67, some 68, some 69, some 70, some 71, some 8] rfl ?_
            simp only [List.nil_append, List.cons_append, true_and, and_true, zz0, true_implies, Nat.reduceLT, Nat.reduceLeDiff, zzI, look_nil, Nat.reduceBEq, implies_true, evS_move, evS_indexAddr, zz23, zz24, F_sl23, F_sz33, Option.map_some, zz16, Option.some.injEq, exists_eq_left', exists_eq_left, eq_self, reduceCtorEq, and_self, zz19, F_off33_1, zzB, Nat.zero_add, Nat.reduceAdd, F_ok3, F_ag3, F_sz3, zz8, zzD, zzF, zzE, zz21, gr_v, zz26, evS_assign, fillsD, fillC, gx, bx, hws, len_map, ge0, Int.toNat_natCast, D.agg.injEq, zz6, Nat.reduceEqDiff, ↓reduceIte]
            refine hK3 _ ?_; try clear hK3 K3
            refine awp_keepL [0, 1, 5, 6, 8, 9, 11] ?_
            simp only [zz20, zzI, look_nil, Nat.reduceBEq]
            refine awp_seq fun K3 hK3 => ?_
            refine awp_draw F_mixed [some 72, some 73, some 74, some 75, some 76, some 77, some 78, some 79, some 80, some 81, some 82, some 83, some 84, some 85, some 86, some 87, some 88, some 89, some 90, some 91, some 92, some 93, some 94, some 95, some 96, some 97, some 98, some 99, some 100, some 101, some 102, some 103, some 104, some 105, some 106, some 107, some 108, some 109] rfl (by kernel_rfl) ?_
            simp only [List.nil_append, List.cons_append, true_and, and_true, zz0, true_implies, Nat.reduceLT, Nat.reduceLeDiff, zzI, look_nil, Nat.reduceBEq, implies_true, Nat.reduceSub, S_getD, zz5, and_imp, imp_and, imp_self, and_self, evS_move, zz21, gr_v, zz25, evS_indexAddr, zz23, zz24, F_sl23, F_sz33, Option.map_some, zz16, Option.some.injEq, exists_eq_left', exists_eq_left, eq_self, reduceCtorEq, zz19, F_off33_2, zzB, Nat.zero_add, Nat.reduceAdd, F_ok3, F_ag3, F_sz3, zz8, zzD, zzF, zzE, zz33, zz13, zz22, fillsD, gx, bx, gy, hwk, len_map, ge0, Int.toNat_natCast, D.agg.injEq, zz6, Nat.reduceEqDiff, ↓reduceIte]
            have hw0 : decide ((pre.length : Int) > 0) = true → 0 ≤ IntKind.wrap .i64 ((pre.length : Int) - 1) := fun h => by have := of_decide_eq_true h; rw [wrapI (by omega) (by omega)]; omega
            have hw1 : decide ((pre.length : Int) > 0) = true → IntKind.wrap .i64 ((pre.length : Int) - 1) < (FF.length : Int) := fun h => by have := of_decide_eq_true h; rw [wrapI (by omega) (by omega)]; omega
            repeat (refine And.intro (by first | (intros; assumption) | exact ⟨fun a _ => hw0 a, fun a _ => hw1 a⟩ | exact ⟨fun a _ _ => hw0 a, fun a _ _ => hw1 a⟩) ?_)
            refine hK3 _ ?_; try clear hK3 K3
            refine awp_keepL [0, 1, 5, 6, 8, 9, 11, 109] ?_
            simp only [zz20, zzI, look_nil, Nat.reduceBEq]
            refine awp_condS _ (by decide) (by simp only [look_cons, Nat.reduceBEq, cond_true, cond_false]; rfl) ?_ ?_
            · intro hb
              first | (rw [hpf] at hb; cases hb) | (simp only [hpf] at hb; cases hb)
            · intro hb
              clear hb
              refine awp_skip ?_
              simp only [zz6, Nat.reduceEqDiff, ↓reduceIte]
              refine hK2 _ ?_; try clear hK2 K2
              refine awp_keepL [0, 1, 5, 6, 8, 9, 11] ?_
              simp only [zz20, zzI, look_nil, Nat.reduceBEq]
              refine awp_plain F_mixed [some 57, some 58, some 11] rfl ?_
              simp only [List.nil_append, List.cons_append, true_and, and_true, zz0, true_implies, Nat.reduceLT, Nat.reduceLeDiff, zzI, look_nil, Nat.reduceBEq, implies_true, evS_move, zz21, gr_v, zz26, evS_assign, wx, zz6, Nat.reduceEqDiff, ↓reduceIte]
              refine ⟨post2.length, _, by simp, le_SK id [] rfl (l' := [(0, .d (iv q)), (1, .d (bids l)), (5, .d (fillsD FF)), (6, .d (iv RR)), (8, .d (iv (sumFl (pre ++ [x])))), (9, .d (iv (sumQ l))), (11, .d (iv ((pre ++ [x])).length))]) (m' := []) ?_ ?_ ?_ ?_, pre ++ [x], post2, by rw [hsf]; simp, rfl, rfl⟩
              · simp only [leV, look_cons, Nat.reduceBEq, cond_true, cond_false, hws, hsn, wx, bids, fillsD, List.length_append, List.length_singleton]; exact ⟨VLe.refl _, VLe.refl _, VLe.refl _, VLe.refl _, VLe.refl _, VLe.refl _, VLe.refl _, trivial⟩
              · trivial
              · simp [wfV, AV.ids, lookR]
              · trivial
        · intro hb
          obtain rfl : post = [] := by
            cases post with
            | nil => rfl
            | cons x t => have := of_decide_eq_false hb; simp at hsfl; omega
          clear hb
          simp only [List.append_nil] at hsf
          have hFe : FF = pre := hsf
          subst hFe
          have hrg := H.rng
          have hsum := H.sum
          have hwq : IntKind.wrap .i64 (0 - q) = 0 - q := wrapI (by omega) (by omega)
          have hab : (if 0 - q > q then 0 - q else q) = absQ q := rfl
          have haq : 0 ≤ absQ q ∧ absQ q ≤ 1099511627776 := by simp only [absQ]; split <;> omega
          have hwR : IntKind.wrap .i64 (sumFl FF + RR) = absQ q := by rw [hsum.1]; exact wrapI (by omega) (by omega)
          have hmn : (if sumQ l < absQ q then sumQ l else absQ q) = sumFl FF := hsum.2.1.symm
          have hR0 : decide (RR < 0) = false := decide_eq_false (by omega)
          refine awp_exit ?_
          simp only [zz6, Nat.reduceEqDiff, ↓reduceIte]
          refine hK0 _ ?_; try clear hK0 K0
          refine awp_keepL [0, 1, 5, 6, 8, 9] ?_
          simp only [zz20, zzI, look_nil, Nat.reduceBEq]
          refine awp_seq fun K0 hK0 => ?_
          refine awp_plain F_mixed [some 110, some 111, some 112, some 113, some 12] rfl ?_
          simp only [List.nil_append, List.cons_append, true_and, and_true, zz0, true_implies, Nat.reduceLT, Nat.reduceLeDiff, zzI, look_nil, Nat.reduceBEq, implies_true, evS_move, zz29, gr_v, zz37, evS_call, zz11, grsL, Option.bind_some, Option.map_some, oksL, evS_assign, hwq, hab, zz6, Nat.reduceEqDiff, ↓reduceIte]
          refine hK0 _ ?_; try clear hK0 K0
          refine awp_keepL [1, 5, 6, 8, 9, 12] ?_
          simp only [zz20, zzI, look_nil, Nat.reduceBEq]
          refine awp_seq fun K0 hK0 => ?_
          refine awp_seq fun K1 hK1 => ?_
          refine awp_plain F_mixed [some 114, some 115, some 116, some 117, some 118, some 119, some 120, some 121, some 122, some 123, some 124, some 125, some 126, some 127, some 128, some 129] rfl ?_
          simp only [List.nil_append, List.cons_append, true_and, and_true, zz0, true_implies, Nat.reduceLT, Nat.reduceLeDiff, zzI, look_nil, Nat.reduceBEq, implies_true, Nat.reduceSub, S_getD, zz5, and_imp, imp_and, imp_self, and_self, evS_move, zz21, gr_v, zz26, zz28, evS_call, evC_min, mxK_some, mnK_some, grsL, Option.bind_some, Option.map_some, oksL, pure_min, mn_int, zz13, zz22, hwR, hmn, hR0, bne_self_eq_false, Bool.or_self, Bool.or_false, zz6, Nat.reduceEqDiff, ↓reduceIte]
          refine hK1 _ ?_; try clear hK1 K1
          refine awp_keepL [1, 5, 129] ?_
          simp only [zz20, zzI, look_nil, Nat.reduceBEq]
          refine awp_condS _ (by decide) (by simp only [look_cons, Nat.reduceBEq, cond_true, cond_false]; rfl) ?_ ?_
          · intro hb
            first | cases hb | simp at hb
          · intro hb
            clear hb
            refine awp_skip ?_
            simp only [zz6, Nat.reduceEqDiff, ↓reduceIte]
            refine hK0 _ ?_; try clear hK0 K0
            refine awp_keepL [1, 5] ?_
            simp only [zz20, zzI, look_nil, Nat.reduceBEq]
            refine awp_seq fun K0 hK0 => ?_
            refine awp_seq fun K1 hK1 => ?_
            refine awp_plain F_mixed [some 13] rfl ?_
            simp only [List.nil_append, List.cons_append, true_and, and_true, zz0, true_implies, Nat.reduceLT, Nat.reduceLeDiff, zzI, look_nil, Nat.reduceBEq, implies_true, evS_assign, zz6, Nat.reduceEqDiff, ↓reduceIte]
            refine hK1 _ ?_; try clear hK1 K1
            refine awp_keepL [1, 5, 13] ?_
            simp only [zz20, zzI, look_nil, Nat.reduceBEq]
            refine awp_block ?_
            refine awp_loop (fun m s => ∃ pre post : List FillV, FF = pre ++ post ∧ m = post.length ∧ s = S 240 [(1, .d (bids l)), (5, .d (fillsD FF)), (13, .d (iv (pre).length))] []) FF.length _ (le_SK id [] rfl (l' := [(1, .d (bids l)), (5, .d (fillsD FF)), (13, .d (iv (([] : List FillV)).length))]) (m' := []) ?_ ?_ ?_ ?_) ⟨[], FF, rfl, rfl, rfl⟩ ?_
            · simp only [leV, look_cons, Nat.reduceBEq, cond_true, cond_false, bids, fillsD]; exact ⟨VLe.refl _, VLe.refl _, VLe.refl _, trivial⟩
            · trivial
            · simp [wfV, AV.ids, lookR]
            · trivial
            rintro m s ⟨pre, post, hsf, rfl, rfl⟩
            have hsfl := congrArg List.length hsf
            simp only [List.length_append] at hsfl
            have hsp2 : (∃ x y t, post = x :: y :: t) ∨ (post = [] ∨ ∃ x, post = [x]) := by
              rcases post with _ | ⟨x, _ | ⟨y, t⟩⟩
              · exact .inr (.inl rfl)
              · exact .inr (.inr ⟨x, rfl⟩)
              · exact .inl ⟨x, y, t, rfl⟩
            rcases hsp2 with ⟨x, y, post3, rfl⟩ | hsp2
            · skip
              refine awp_seq fun K2 hK2 => ?_
              refine awp_seq fun K3 hK3 => ?_
              refine awp_plain F_mixed [some 130, some 131, some 132, some 133] rfl ?_
              simp only [List.nil_append, List.cons_append, true_and, and_true, zz0, true_implies, Nat.reduceLT, Nat.reduceLeDiff, zzI, look_nil, Nat.reduceBEq, implies_true, evS_move, evS_call, zz12, F_sl23, Option.isSome_some, zz21, gr_v, zz22, fillsD, len_map, zz6, Nat.reduceEqDiff, ↓reduceIte]
              refine hK3 _ ?_; try clear hK3 K3
              refine awp_keepL [1, 5, 13, 133] ?_
              simp only [zz20, zzI, look_nil, Nat.reduceBEq]
              refine awp_condS _ (by decide) (by simp only [look_cons, Nat.reduceBEq, cond_true, cond_false]; rfl) ?_ ?_
              · intro hb
                clear hb
                simp only [List.length_cons] at hsfl
                have gx : (FF.map fillC).getD pre.length [] = [iv x.frm, iv x.qty, iv x.price] := by
                  rw [hsf, List.map_append]; exact gd_mid' (A := pre.map fillC) _ _ (by simp)
                have bx := ltI (show pre.length < FF.length by omega)
                have wx : IntKind.wrap .i64 ((pre.length : Int) + 1) = ((pre.length + 1 : Nat) : Int) := by rw [wrapI (by omega) (by omega)]; omega
                refine awp_skip ?_
                simp only [zz6, Nat.reduceEqDiff, ↓reduceIte]
                refine hK2 _ ?_; try clear hK2 K2
                refine awp_keepL [1, 5, 13] ?_
                simp only [zz20, zzI, look_nil, Nat.reduceBEq]
                refine awp_seq fun K2 hK2 => ?_
                refine awp_block ?_
                refine awp_seq fun K3 hK3 => ?_
                refine awp_plain F_mixed [some 14, some 15] rfl ?_
                simp only [List.nil_append, List.cons_append, true_and, and_true, zz0, true_implies, Nat.reduceLT, Nat.reduceLeDiff, zzI, look_nil, Nat.reduceBEq, implies_true, evS_assign, zz6, Nat.reduceEqDiff, ↓reduceIte]
                refine hK3 _ ?_; try clear hK3 K3
                refine awp_keepL [1, 5, 13, 14, 15] ?_
                simp only [zz20, zzI, look_nil, Nat.reduceBEq]
                refine awp_seq fun K3 hK3 => ?_
                refine awp_seq fun K4 hK4 => ?_
                refine awp_plain F_mixed [some 16] rfl ?_
                simp only [List.nil_append, List.cons_append, true_and, and_true, zz0, true_implies, Nat.reduceLT, Nat.reduceLeDiff, zzI, look_nil, Nat.reduceBEq, implies_true, evS_assign, zz6, Nat.reduceEqDiff, ↓reduceIte]
                refine hK4 _ ?_; try clear hK4 K4
                refine awp_keepL [1, 5, 13, 14, 15, 16] ?_
                simp only [zz20, zzI, look_nil, Nat.reduceBEq]
                refine awp_block ?_
                refine awp_loop (fun m s => ∃ pa pb : List FillV, FF = pa ++ pb ∧ m = pb.length ∧ s = S 240 [(1, .d (bids l)), (5, .d (fillsD FF)), (13, .d (iv pre.length)), (14, .d (iv (gotF x.frm x.price pa))), (15, .d (iv 0)), (16, .d (iv (pa).length))] []) FF.length _ (le_SK id [] rfl (l' := [(1, .d (bids l)), (5, .d (fillsD FF)), (13, .d (iv pre.length)), (14, .d (iv (gotF x.frm x.price ([] : List FillV)))), (15, .d (iv 0)), (16, .d (iv (([] : List FillV)).length))]) (m' := []) ?_ ?_ ?_ ?_) ⟨[], FF, rfl, rfl, rfl⟩ ?_
                · simp only [leV, look_cons, Nat.reduceBEq, cond_true, cond_false, bids, fillsD]; exact ⟨VLe.refl _, VLe.refl _, VLe.refl _, VLe.refl _, VLe.refl _, VLe.refl _, trivial⟩
                · trivial
                · simp [wfV, AV.ids, lookR]
                · trivial
                rintro m s ⟨pa, pb, hpa, rfl, rfl⟩
                have hpal := congrArg List.length hpa
                simp only [List.length_append] at hpal
                refine awp_seq fun K5 hK5 => ?_
                refine awp_seq fun K6 hK6 => ?_
                refine awp_plain F_mixed [some 136, some 137, some 138, some 139] rfl ?_
                simp only [List.nil_append, List.cons_append, true_and, and_true, zz0, true_implies, Nat.reduceLT, Nat.reduceLeDiff, zzI, look_nil, Nat.reduceBEq, implies_true, evS_move, evS_call, zz12, F_sl23, Option.isSome_some, zz21, gr_v, zz22, fillsD, len_map, zz6, Nat.reduceEqDiff, ↓reduceIte]
                refine hK6 _ ?_; try clear hK6 K6
                refine awp_keepL [1, 5, 13, 14, 15, 16, 139] ?_
                simp only [zz20, zzI, look_nil, Nat.reduceBEq]
                refine awp_condS _ (by decide) (by simp only [look_cons, Nat.reduceBEq, cond_true, cond_false]; rfl) ?_ ?_
                · intro hb
                  obtain ⟨z, pb2, rfl⟩ : ∃ x t, pb = x :: t := by
                    cases pb with
                    | nil => have := of_decide_eq_true hb; simp at hpal; omega
                    | cons x t => exact ⟨x, t, rfl⟩
                  clear hb
                  simp only [List.length_cons] at hpal
                  have gz : (FF.map fillC).getD pa.length [] = [iv z.frm, iv z.qty, iv z.price] := by
                    rw [hpa, List.map_append]; exact gd_mid' (A := pa.map fillC) _ _ (by simp)
                  have bz := ltI (show pa.length < FF.length by omega)
                  have wz : IntKind.wrap .i64 ((pa.length : Int) + 1) = ((pa.length + 1 : Nat) : Int) := by rw [wrapI (by omega) (by omega)]; omega
                  have hzm := H.mem z (by rw [hpa]; simp)
                  have hgb := gotF_bnd x.frm x.price (l := pa) (fun z hz => H.mem z (by rw [hpa]; simp [hz]))
                  have hgn0 := gotF_snoc x.frm x.price pa z
                  refine awp_skip ?_
                  simp only [zz6, Nat.reduceEqDiff, ↓reduceIte]
                  refine hK5 _ ?_; try clear hK5 K5
                  refine awp_keepL [1, 5, 13, 14, 15, 16] ?_
                  simp only [zz20, zzI, look_nil, Nat.reduceBEq]
                  refine awp_seq fun K5 hK5 => ?_
                  refine awp_block ?_
                  refine awp_seq fun K6 hK6 => ?_
                  refine awp_draw F_mixed [some 142, some 143, some 144, some 145, some 146, some 147, some 148, some 149, some 150, some 151, some 152, some 153, some 154, some 155, some 156, some 157, some 158, some 159, some 160, some 161, some 162, some 163, some 164, some 165] rfl (by kernel_rfl) ?_
                  simp only [List.nil_append, List.cons_append, true_and, and_true, zz0, true_implies, Nat.reduceLT, Nat.reduceLeDiff, zzI, look_nil, Nat.reduceBEq, implies_true, Nat.reduceSub, S_getD, zz5, and_imp, imp_and, imp_self, and_self, evS_move, evS_indexAddr, zz23, zz24, F_sl23, F_sz33, Option.map_some, zz16, Option.some.injEq, exists_eq_left', exists_eq_left, eq_self, reduceCtorEq, zz19, F_off33_0, zzB, Nat.zero_add, Nat.reduceAdd, F_ok3, F_ag3, F_sz3, zz8, zzD, zzF, zzE, zz21, gr_v, zz34, F_off33_2, zz13, fillsD, fillC, gx, bx, gz, bz, len_map, ge0, Int.toNat_natCast, D.agg.injEq, zz6, Nat.reduceEqDiff, ↓reduceIte]
                  refine hK6 _ ?_; try clear hK6 K6
                  refine awp_keepL [1, 5, 13, 14, 15, 16, 165] ?_
                  simp only [zz20, zzI, look_nil, Nat.reduceBEq]
                  refine awp_condS _ (by decide) (by simp only [look_cons, Nat.reduceBEq, cond_true, cond_false]; rfl) ?_ ?_
                  · intro hb
                    have hc : (z.frm == x.frm && z.price == x.price) = true := hb
                    clear hb
                    have hgn : gotF x.frm x.price (pa ++ [z]) = gotF x.frm x.price pa + z.qty := by rw [hgn0, hc]; rfl
                    have hwg : IntKind.wrap .i64 (gotF x.frm x.price pa + z.qty) = gotF x.frm x.price pa + z.qty := wrapI (by omega) (by omega)
                    refine awp_plain F_mixed [some 166, some 167, some 168, some 169, some 170, some 171, some 172, some 14] rfl ?_
                    simp only [List.nil_append, List.cons_append, true_and, and_true, zz0, true_implies, Nat.reduceLT, Nat.reduceLeDiff, zzI, look_nil, Nat.reduceBEq, implies_true, evS_move, evS_indexAddr, zz23, zz24, F_sl23, F_sz33, Option.map_some, zz16, Option.some.injEq, exists_eq_left', exists_eq_left, eq_self, reduceCtorEq, and_self, zz19, F_off33_1, zzB, Nat.zero_add, Nat.reduceAdd, F_ok3, F_ag3, F_sz3, zz8, zzD, zzF, zzE, zz21, gr_v, zz26, evS_assign, fillsD, fillC, gz, bz, hwg, len_map, ge0, Int.toNat_natCast, D.agg.injEq, zz6, Nat.reduceEqDiff, ↓reduceIte]
                    refine hK5 _ ?_; try clear hK5 K5
                    refine awp_keepL [1, 5, 13, 14, 15, 16] ?_
                    simp only [zz20, zzI, look_nil, Nat.reduceBEq]
                    refine awp_plain F_mixed [some 140, some 141, some 16] rfl ?_
                    simp only [List.nil_append, List.cons_append, true_and, and_true, zz0, true_implies, Nat.reduceLT, Nat.reduceLeDiff, zzI, look_nil, Nat.reduceBEq, implies_true, evS_move, zz21, gr_v, zz26, evS_assign, wz, zz6, Nat.reduceEqDiff, ↓reduceIte]
                    refine ⟨pb2.length, _, by simp, le_SK id [] rfl (l' := [(1, .d (bids l)), (5, .d (fillsD FF)), (13, .d (iv pre.length)), (14, .d (iv (gotF x.frm x.price (pa ++ [z])))), (15, .d (iv 0)), (16, .d (iv ((pa ++ [z])).length))]) (m' := []) ?_ ?_ ?_ ?_, pa ++ [z], pb2, by rw [hpa]; simp, rfl, rfl⟩
                    · simp only [leV, look_cons, Nat.reduceBEq, cond_true, cond_false, hwg, hgn, wz, bids, fillsD, List.length_append, List.length_singleton]; exact ⟨VLe.refl _, VLe.refl _, VLe.refl _, VLe.refl _, VLe.refl _, VLe.refl _, trivial⟩
                    · trivial
                    · simp [wfV, AV.ids, lookR]
                    · trivial
                  · intro hb
                    have hc : (z.frm == x.frm && z.price == x.price) = false := hb
                    clear hb
                    have hgn : gotF x.frm x.price (pa ++ [z]) = gotF x.frm x.price pa := by rw [hgn0, hc]; simp
                    refine awp_skip ?_
                    simp only [zz6, Nat.reduceEqDiff, ↓reduceIte]
                    refine hK5 _ ?_; try clear hK5 K5
                    refine awp_keepL [1, 5, 13, 14, 15, 16] ?_
                    simp only [zz20, zzI, look_nil, Nat.reduceBEq]
                    refine awp_plain F_mixed [some 140, some 141, some 16] rfl ?_
                    simp only [List.nil_append, List.cons_append, true_and, and_true, zz0, true_implies, Nat.reduceLT, Nat.reduceLeDiff, zzI, look_nil, Nat.reduceBEq, implies_true, evS_move, zz21, gr_v, zz26, evS_assign, wz, zz6, Nat.reduceEqDiff, ↓reduceIte]
                    refine ⟨pb2.length, _, by simp, le_SK id [] rfl (l' := [(1, .d (bids l)), (5, .d (fillsD FF)), (13, .d (iv pre.length)), (14, .d (iv (gotF x.frm x.price (pa ++ [z])))), (15, .d (iv 0)), (16, .d (iv ((pa ++ [z])).length))]) (m' := []) ?_ ?_ ?_ ?_, pa ++ [z], pb2, by rw [hpa]; simp, rfl, rfl⟩
                    · simp only [leV, look_cons, Nat.reduceBEq, cond_true, cond_false, hgn, wz, bids, fillsD, List.length_append, List.length_singleton]; exact ⟨VLe.refl _, VLe.refl _, VLe.refl _, VLe.refl _, VLe.refl _, VLe.refl _, trivial⟩
                    · trivial
                    · simp [wfV, AV.ids, lookR]
                    · trivial
                · intro hb
                  obtain rfl : pb = [] := by
                    cases pb with
                    | nil => rfl
                    | cons x t => have := of_decide_eq_false hb; simp at hpal; omega
                  clear hb
                  simp only [List.append_nil] at hpa
                  have hFe : FF = pa := hpa
                  subst hFe
                  refine awp_exit ?_
                  simp only [zz6, Nat.reduceEqDiff, ↓reduceIte]
                  refine hK3 _ ?_; try clear hK3 K3
                  refine awp_keepL [1, 5, 13, 14, 15] ?_
                  simp only [zz20, zzI, look_nil, Nat.reduceBEq]
                  refine awp_seq fun K3 hK3 => ?_
                  refine awp_seq fun K4 hK4 => ?_
                  refine awp_plain F_mixed [some 17] rfl ?_
                  simp only [List.nil_append, List.cons_append, true_and, and_true, zz0, true_implies, Nat.reduceLT, Nat.reduceLeDiff, zzI, look_nil, Nat.reduceBEq, implies_true, evS_assign, zz6, Nat.reduceEqDiff, ↓reduceIte]
                  refine hK4 _ ?_; try clear hK4 K4
                  refine awp_keepL [1, 5, 13, 14, 15, 17] ?_
                  simp only [zz20, zzI, look_nil, Nat.reduceBEq]
                  refine awp_block ?_
                  refine awp_loop (fun m s => ∃ pa pb : List BidV, l = pa ++ pb ∧ m = pb.length ∧ s = S 240 [(1, .d (bids l)), (5, .d (fillsD FF)), (13, .d (iv pre.length)), (14, .d (iv (gotF x.frm x.price FF))), (15, .d (iv (mayB x.frm x.price pa))), (17, .d (iv (pa).length))] []) l.length _ (le_SK id [] rfl (l' := [(1, .d (bids l)), (5, .d (fillsD FF)), (13, .d (iv pre.length)), (14, .d (iv (gotF x.frm x.price FF))), (15, .d (iv (mayB x.frm x.price ([] : List BidV)))), (17, .d (iv (([] : List BidV)).length))]) (m' := []) ?_ ?_ ?_ ?_) ⟨[], l, rfl, rfl, rfl⟩ ?_
                  · simp only [leV, look_cons, Nat.reduceBEq, cond_true, cond_false, bids, fillsD]; exact ⟨VLe.refl _, VLe.refl _, VLe.refl _, VLe.refl _, VLe.refl _, VLe.refl _, trivial⟩
                  · trivial
                  · simp [wfV, AV.ids, lookR]
                  · trivial
                  rintro m s ⟨pa, pb, hpa, rfl, rfl⟩
                  have hpal := congrArg List.length hpa
                  simp only [List.length_append] at hpal
                  refine awp_seq fun K5 hK5 => ?_
                  refine awp_seq fun K6 hK6 => ?_
                  refine awp_plain F_mixed [some 173, some 174, some 175, some 176] rfl ?_
                  simp only [List.nil_append, List.cons_append, true_and, and_true, zz0, true_implies, Nat.reduceLT, Nat.reduceLeDiff, zzI, look_nil, Nat.reduceBEq, implies_true, evS_move, evS_call, zz12, F_sl22, Option.isSome_some, zz21, gr_v, zz22, bids, len_map, zz6, Nat.reduceEqDiff, ↓reduceIte]
                  refine hK6 _ ?_; try clear hK6 K6
                  refine awp_keepL [1, 5, 13, 14, 15, 17, 176] ?_
                  simp only [zz20, zzI, look_nil, Nat.reduceBEq]
                  refine awp_condS _ (by decide) (by simp only [look_cons, Nat.reduceBEq, cond_true, cond_false]; rfl) ?_ ?_
                  · intro hb
                    obtain ⟨z, pb2, rfl⟩ : ∃ x t, pb = x :: t := by
                      cases pb with
                      | nil => have := of_decide_eq_true hb; simp at hpal; omega
                      | cons x t => exact ⟨x, t, rfl⟩
                    clear hb
                    simp only [List.length_cons] at hpal
                    have gz : (l.map bidC).getD pa.length [] = [iv z.who, iv z.inst, iv z.frm, iv z.qty, iv z.price] := by
                      rw [hpa, List.map_append]; exact gd_mid' (A := pa.map bidC) _ _ (by simp)
                    have bz := ltI (show pa.length < l.length by omega)
                    have wz : IntKind.wrap .i64 ((pa.length : Int) + 1) = ((pa.length + 1 : Nat) : Int) := by rw [wrapI (by omega) (by omega)]; omega
                    have hzk : bidOk z = true := by have := H.good; rw [hpa] at this; simp at this; exact this.2.1
                    have hzq := ok_qty hzk
                    have hpk : pa.all bidOk = true := by have := H.good; rw [hpa, List.all_append] at this; exact (Bool.and_eq_true_iff.1 this).1
                    have hgb := mayB_bnd x.frm x.price hpk
                    have hgn0 := mayB_snoc x.frm x.price pa z
                    refine awp_skip ?_
                    simp only [zz6, Nat.reduceEqDiff, ↓reduceIte]
                    refine hK5 _ ?_; try clear hK5 K5
                    refine awp_keepL [1, 5, 13, 14, 15, 17] ?_
                    simp only [zz20, zzI, look_nil, Nat.reduceBEq]
                    refine awp_seq fun K5 hK5 => ?_
                    refine awp_block ?_
                    refine awp_seq fun K6 hK6 => ?_
                    refine awp_draw F_mixed [some 179, some 180, some 181, some 182, some 183, some 184, some 185, some 186, some 187, some 188, some 189, some 190, some 191, some 192, some 193, some 194, some 195, some 196, some 197, some 198, some 199, some 200, some 201, some 202] rfl (by kernel_rfl) ?_
                    simp only [List.nil_append, List.cons_append, true_and, and_true, zz0, true_implies, Nat.reduceLT, Nat.reduceLeDiff, zzI, look_nil, Nat.reduceBEq, implies_true, Nat.reduceSub, S_getD, zz5, and_imp, imp_and, imp_self, and_self, evS_move, evS_indexAddr, zz23, zz24, F_sl22, F_sz31, Option.map_some, zz16, Option.some.injEq, exists_eq_left', exists_eq_left, eq_self, reduceCtorEq, zz19, F_off31_1, zzB, Nat.zero_add, Nat.reduceAdd, F_ok3, F_ag3, F_sz3, zz8, zzD, zzF, zzE, F_sl23, F_sz33, F_off33_0, zz21, gr_v, zz34, F_off31_3, F_off33_2, zz13, bids, fillsD, bidC, fillC, gx, bx, gz, bz, len_map, ge0, Int.toNat_natCast, D.agg.injEq, zz6, Nat.reduceEqDiff, ↓reduceIte]
                    refine hK6 _ ?_; try clear hK6 K6
                    refine awp_keepL [1, 5, 13, 14, 15, 17, 202] ?_
                    simp only [zz20, zzI, look_nil, Nat.reduceBEq]
                    refine awp_condS _ (by decide) (by simp only [look_cons, Nat.reduceBEq, cond_true, cond_false]; rfl) ?_ ?_
                    · intro hb
                      have hc : (z.frm == x.frm && z.price == x.price) = true := hb
                      clear hb
                      have hgn : mayB x.frm x.price (pa ++ [z]) = mayB x.frm x.price pa + z.qty := by rw [hgn0, hc]; rfl
                      have hwg : IntKind.wrap .i64 (mayB x.frm x.price pa + z.qty) = mayB x.frm x.price pa + z.qty := wrapI (by omega) (by omega)
                      refine awp_plain F_mixed [some 203, some 204, some 205, some 206, some 207, some 208, some 209, some 15] rfl ?_
                      simp only [List.nil_append, List.cons_append, true_and, and_true, zz0, true_implies, Nat.reduceLT, Nat.reduceLeDiff, zzI, look_nil, Nat.reduceBEq, implies_true, evS_move, evS_indexAddr, zz23, zz24, F_sl22, F_sz31, Option.map_some, zz16, Option.some.injEq, exists_eq_left', exists_eq_left, eq_self, reduceCtorEq, and_self, zz19, F_off31_2, zzB, Nat.zero_add, Nat.reduceAdd, F_ok3, F_ag3, F_sz3, zz8, zzD, zzF, zzE, zz21, gr_v, zz26, evS_assign, bids, gz, bz, hwg, len_map, ge0, Int.toNat_natCast, D.agg.injEq, zz6, Nat.reduceEqDiff, ↓reduceIte]
                      refine hK5 _ ?_; try clear hK5 K5
                      refine awp_keepL [1, 5, 13, 14, 15, 17] ?_
                      simp only [zz20, zzI, look_nil, Nat.reduceBEq]
                      refine awp_plain F_mixed [some 177, some 178, some 17] rfl ?_
                      simp only [List.nil_append, List.cons_append, true_and, and_true, zz0, true_implies, Nat.reduceLT, Nat.reduceLeDiff, zzI, look_nil, Nat.reduceBEq, implies_true, evS_move, zz21, gr_v, zz26, evS_assign, wz, zz6, Nat.reduceEqDiff, ↓reduceIte]
                      refine ⟨pb2.length, _, by simp, le_SK id [] rfl (l' := [(1, .d (bids l)), (5, .d (fillsD FF)), (13, .d (iv pre.length)), (14, .d (iv (gotF x.frm x.price FF))), (15, .d (iv (mayB x.frm x.price (pa ++ [z])))), (17, .d (iv ((pa ++ [z])).length))]) (m' := []) ?_ ?_ ?_ ?_, pa ++ [z], pb2, by rw [hpa]; simp, rfl, rfl⟩
                      · simp only [leV, look_cons, Nat.reduceBEq, cond_true, cond_false, hwg, hgn, wz, bids, fillsD, List.length_append, List.length_singleton]; exact ⟨VLe.refl _, VLe.refl _, VLe.refl _, VLe.refl _, VLe.refl _, VLe.refl _, trivial⟩
                      · trivial
                      · simp [wfV, AV.ids, lookR]
                      · trivial
                    · intro hb
                      have hc : (z.frm == x.frm && z.price == x.price) = false := hb
                      clear hb
                      have hgn : mayB x.frm x.price (pa ++ [z]) = mayB x.frm x.price pa := by rw [hgn0, hc]; simp
                      refine awp_skip ?_
                      simp only [zz6, Nat.reduceEqDiff, ↓reduceIte]
                      refine hK5 _ ?_; try clear hK5 K5
                      refine awp_keepL [1, 5, 13, 14, 15, 17] ?_
                      simp only [zz20, zzI, look_nil, Nat.reduceBEq]
                      refine awp_plain F_mixed [some 177, some 178, some 17] rfl ?_
                      simp only [List.nil_append, List.cons_append, true_and, and_true, zz0, true_implies, Nat.reduceLT, Nat.reduceLeDiff, zzI, look_nil, Nat.reduceBEq, implies_true, evS_move, zz21, gr_v, zz26, evS_assign, wz, zz6, Nat.reduceEqDiff, ↓reduceIte]
                      refine ⟨pb2.length, _, by simp, le_SK id [] rfl (l' := [(1, .d (bids l)), (5, .d (fillsD FF)), (13, .d (iv pre.length)), (14, .d (iv (gotF x.frm x.price FF))), (15, .d (iv (mayB x.frm x.price (pa ++ [z])))), (17, .d (iv ((pa ++ [z])).length))]) (m' := []) ?_ ?_ ?_ ?_, pa ++ [z], pb2, by rw [hpa]; simp, rfl, rfl⟩
                      · simp only [leV, look_cons, Nat.reduceBEq, cond_true, cond_false, hgn, wz, bids, fillsD, List.length_append, List.length_singleton]; exact ⟨VLe.refl _, VLe.refl _, VLe.refl _, VLe.refl _, VLe.refl _, VLe.refl _, trivial⟩
                      · trivial
                      · simp [wfV, AV.ids, lookR]
                      · trivial
                  · intro hb
                    obtain rfl : pb = [] := by
                      cases pb with
                      | nil => rfl
                      | cons x t => have := of_decide_eq_false hb; simp at hpal; omega
                    clear hb
                    simp only [List.append_nil] at hpa
                    have hFe : l = pa := hpa
                    subst hFe
                    have hle := H.got x
                    have hgt : decide (gotF x.frm x.price FF > mayB x.frm x.price l) = false := decide_eq_false (by omega)
                    have hwl : IntKind.wrap .i64 ((FF.length : Int) - 1) = ((FF.length - 1 : Nat) : Int) := by rw [wrapI (by omega) (by omega)]; omega
                    have g2 : (FF.map fillC).getD (pre.length + 1) [] = [iv y.frm, iv y.qty, iv y.price] := by
                      rw [hsf, show pre ++ x :: y :: post3 = (pre ++ [x]) ++ y :: post3 by simp, List.map_append]; exact gd_mid' (A := (pre ++ [x]).map fillC) _ _ (by simp)
                    have b2 : (((pre.length + 1 : Nat) : Int) < (FF.length : Int)) = True := ltI (by omega)
                    have hd : decide ((pre.length : Int) < ((FF.length - 1 : Nat) : Int)) = true := decide_eq_true (by omega)
                    have hfin : (y.price != x.price && gotF x.frm x.price FF != mayB x.frm x.price l) = false := by
                      by_cases hp : y.price = x.price
                      · simp [hp]
                      · rw [H.all pre x y post3 hsf hp]; simp
                    refine awp_exit ?_
                    simp only [zz6, Nat.reduceEqDiff, ↓reduceIte]
                    refine hK3 _ ?_; try clear hK3 K3
                    refine awp_keepL [1, 5, 13, 14, 15] ?_
                    simp only [zz20, zzI, look_nil, Nat.reduceBEq]
                    refine awp_seq fun K3 hK3 => ?_
                    refine awp_draw F_mixed [some 210, some 211, some 212, some 213, some 214, some 215, some 216, some 217, some 218, some 219, some 220, some 221, some 222, some 223, some 224, some 225, some 226, some 227, some 228, some 229, some 230, some 231, some 232, some 233, some 234, some 235, some 236, some 237, some 238] rfl (by kernel_rfl) ?_
                    simp only [List.nil_append, List.cons_append, true_and, and_true, zz0, true_implies, Nat.reduceLT, Nat.reduceLeDiff, zzI, look_nil, Nat.reduceBEq, implies_true, Nat.reduceSub, S_getD, zz5, and_imp, imp_and, imp_self, and_self, evS_move, zz21, gr_v, zz25, evS_call, zz12, F_sl23, Option.isSome_some, zz33, zz22, zz26, evS_indexAddr, zz23, zz24, F_sz33, Option.map_some, zz16, Option.some.injEq, exists_eq_left', exists_eq_left, eq_self, reduceCtorEq, zz19, F_off33_2, zzB, Nat.zero_add, Nat.reduceAdd, F_ok3, F_ag3, F_sz3, zz8, zzD, zzF, zzE, zz28, zz13, fillsD, len_map, gx, bx, wx, g2, b2, hgt, hwl, hd, ge0, Int.toNat_natCast, D.agg.injEq, List.drop_nil, List.getD_nil, b_nu, Bool.false_and, Bool.true_and, Bool.false_or, Bool.and_false, hfin, Bool.false_eq_true, false_implies, zz6, Nat.reduceEqDiff, ↓reduceIte]
                    refine hK3 _ ?_; try clear hK3 K3
                    refine awp_keepL [1, 5, 13, 238] ?_
                    simp only [zz20, zzI, look_nil, Nat.reduceBEq]
                    refine awp_condS _ (by decide) (by simp only [look_cons, Nat.reduceBEq, cond_true, cond_false]; rfl) ?_ ?_
                    · intro hb
                      first | (rw [hfin] at hb; cases hb) | (simp only [hfin] at hb; cases hb) | (simp [hfin] at hb)
                    · intro hb
                      clear hb
                      refine awp_skip ?_
                      simp only [zz6, Nat.reduceEqDiff, ↓reduceIte]
                      refine hK2 _ ?_; try clear hK2 K2
                      refine awp_keepL [1, 5, 13] ?_
                      simp only [zz20, zzI, look_nil, Nat.reduceBEq]
                      refine awp_plain F_mixed [some 134, some 135, some 13] rfl ?_
                      simp only [List.nil_append, List.cons_append, true_and, and_true, zz0, true_implies, Nat.reduceLT, Nat.reduceLeDiff, zzI, look_nil, Nat.reduceBEq, implies_true, evS_move, zz21, gr_v, zz26, evS_assign, wx, zz6, Nat.reduceEqDiff, ↓reduceIte]
                      refine ⟨(y :: post3).length, _, by simp, le_SK id [] rfl (l' := [(1, .d (bids l)), (5, .d (fillsD FF)), (13, .d (iv ((pre ++ [x])).length))]) (m' := []) ?_ ?_ ?_ ?_, pre ++ [x], y :: post3, by rw [hsf]; simp, rfl, rfl⟩
                      · simp only [leV, look_cons, Nat.reduceBEq, cond_true, cond_false, wx, bids, fillsD, List.length_append, List.length_singleton]; exact ⟨VLe.refl _, VLe.refl _, VLe.refl _, trivial⟩
                      · trivial
                      · simp [wfV, AV.ids, lookR]
                      · trivial
              · intro hb
                have := of_decide_eq_false hb; simp only [List.length_cons] at hsfl; omega
            · skip
              refine awp_seq fun K2 hK2 => ?_
              refine awp_seq fun K3 hK3 => ?_
              refine awp_plain F_mixed [some 130, some 131, some 132, some 133] rfl ?_
              simp only [List.nil_append, List.cons_append, true_and, and_true, zz0, true_implies, Nat.reduceLT, Nat.reduceLeDiff, zzI, look_nil, Nat.reduceBEq, implies_true, evS_move, evS_call, zz12, F_sl23, Option.isSome_some, zz21, gr_v, zz22, fillsD, len_map, zz6, Nat.reduceEqDiff, ↓reduceIte]
              refine hK3 _ ?_; try clear hK3 K3
              refine awp_keepL [1, 5, 13, 133] ?_
              simp only [zz20, zzI, look_nil, Nat.reduceBEq]
              refine awp_condS _ (by decide) (by simp only [look_cons, Nat.reduceBEq, cond_true, cond_false]; rfl) ?_ ?_
              · intro hb
                obtain ⟨x, rfl⟩ : ∃ x, post = [x] := by
                  rcases hsp2 with rfl | h
                  · have := of_decide_eq_true hb; simp at hsfl; omega
                  · exact h
                clear hb hsp2
                simp only [List.length_cons, List.length_nil] at hsfl
                have gx : (FF.map fillC).getD pre.length [] = [iv x.frm, iv x.qty, iv x.price] := by
                  rw [hsf, List.map_append]; exact gd_mid' (A := pre.map fillC) _ _ (by simp)
                have bx := ltI (show pre.length < FF.length by omega)
                have wx : IntKind.wrap .i64 ((pre.length : Int) + 1) = ((pre.length + 1 : Nat) : Int) := by rw [wrapI (by omega) (by omega)]; omega
                refine awp_skip ?_
                simp only [zz6, Nat.reduceEqDiff, ↓reduceIte]
                refine hK2 _ ?_; try clear hK2 K2
                refine awp_keepL [1, 5, 13] ?_
                simp only [zz20, zzI, look_nil, Nat.reduceBEq]
                refine awp_seq fun K2 hK2 => ?_
                refine awp_block ?_
                refine awp_seq fun K3 hK3 => ?_
                refine awp_plain F_mixed [some 14, some 15] rfl ?_
                simp only [List.nil_append, List.cons_append, true_and, and_true, zz0, true_implies, Nat.reduceLT, Nat.reduceLeDiff, zzI, look_nil, Nat.reduceBEq, implies_true, evS_assign, zz6, Nat.reduceEqDiff, ↓reduceIte]
                refine hK3 _ ?_; try clear hK3 K3
                refine awp_keepL [1, 5, 13, 14, 15] ?_
                simp only [zz20, zzI, look_nil, Nat.reduceBEq]
                refine awp_seq fun K3 hK3 => ?_
                refine awp_seq fun K4 hK4 => ?_
                refine awp_plain F_mixed [some 16] rfl ?_
                simp only [List.nil_append, List.cons_append, true_and, and_true, zz0, true_implies, Nat.reduceLT, Nat.reduceLeDiff, zzI, look_nil, Nat.reduceBEq, implies_true, evS_assign, zz6, Nat.reduceEqDiff, ↓reduceIte]
                refine hK4 _ ?_; try clear hK4 K4
                refine awp_keepL [1, 5, 13, 14, 15, 16] ?_
                simp only [zz20, zzI, look_nil, Nat.reduceBEq]
                refine awp_block ?_
                refine awp_loop (fun m s => ∃ pa pb : List FillV, FF = pa ++ pb ∧ m = pb.length ∧ s = S 240 [(1, .d (bids l)), (5, .d (fillsD FF)), (13, .d (iv pre.length)), (14, .d (iv (gotF x.frm x.price pa))), (15, .d (iv 0)), (16, .d (iv (pa).length))] []) FF.length _ (le_SK id [] rfl (l' := [(1, .d (bids l)), (5, .d (fillsD FF)), (13, .d (iv pre.length)), (14, .d (iv (gotF x.frm x.price ([] : List FillV)))), (15, .d (iv 0)), (16, .d (iv (([] : List FillV)).length))]) (m' := []) ?_ ?_ ?_ ?_) ⟨[], FF, rfl, rfl, rfl⟩ ?_
                · simp only [leV, look_cons, Nat.reduceBEq, cond_true, cond_false, bids, fillsD]; exact ⟨VLe.refl _, VLe.refl _, VLe.refl _, VLe.refl _, VLe.refl _, VLe.refl _, trivial⟩
                · trivial
                · simp [wfV, AV.ids, lookR]
                · trivial
                rintro m s ⟨pa, pb, hpa, rfl, rfl⟩
                have hpal := congrArg List.length hpa
                simp only [List.length_append] at hpal
                refine awp_seq fun K5 hK5 => ?_
                refine awp_seq fun K6 hK6 => ?_
                refine awp_plain F_mixed [some 136, some 137, some 138, some 139] rfl ?_
                simp only [List.nil_append, List.cons_append, true_and, and_true, zz0, true_implies, Nat.reduceLT, Nat.reduceLeDiff, zzI, look_nil, Nat.reduceBEq, implies_true, evS_move, evS_call, zz12, F_sl23, Option.isSome_some, zz21, gr_v, zz22, fillsD, len_map, zz6, Nat.reduceEqDiff, ↓reduceIte]
                refine hK6 _ ?_; try clear hK6 K6
                refine awp_keepL [1, 5, 13, 14, 15, 16, 139] ?_
                simp only [zz20, zzI, look_nil, Nat.reduceBEq]
                refine awp_condS _ (by decide) (by simp only [look_cons, Nat.reduceBEq, cond_true, cond_false]; rfl) ?_ ?_
                · intro hb
                  obtain ⟨z, pb2, rfl⟩ : ∃ x t, pb = x :: t := by
                    cases pb with
                    | nil => have := of_decide_eq_true hb; simp at hpal; omega
                    | cons x t => exact ⟨x, t, rfl⟩
                  clear hb
                  simp only [List.length_cons] at hpal
                  have gz : (FF.map fillC).getD pa.length [] = [iv z.frm, iv z.qty, iv z.price] := by
                    rw [hpa, List.map_append]; exact gd_mid' (A := pa.map fillC) _ _ (by simp)
                  have bz := ltI (show pa.length < FF.length by omega)
                  have wz : IntKind.wrap .i64 ((pa.length : Int) + 1) = ((pa.length + 1 : Nat) : Int) := by rw [wrapI (by omega) (by omega)]; omega
                  have hzm := H.mem z (by rw [hpa]; simp)
                  have hgb := gotF_bnd x.frm x.price (l := pa) (fun z hz => H.mem z (by rw [hpa]; simp [hz]))
                  have hgn0 := gotF_snoc x.frm x.price pa z
                  refine awp_skip ?_
                  simp only [zz6, Nat.reduceEqDiff, ↓reduceIte]
                  refine hK5 _ ?_; try clear hK5 K5
                  refine awp_keepL [1, 5, 13, 14, 15, 16] ?_
                  simp only [zz20, zzI, look_nil, Nat.reduceBEq]
                  refine awp_seq fun K5 hK5 => ?_
                  refine awp_block ?_
                  refine awp_seq fun K6 hK6 => ?_
                  refine awp_draw F_mixed [some 142, some 143, some 144, some 145, some 146, some 147, some 148, some 149, some 150, some 151, some 152, some 153, some 154, some 155, some 156, some 157, some 158, some 159, some 160, some 161, some 162, some 163, some 164, some 165] rfl (by kernel_rfl) ?_
                  simp only [List.nil_append, List.cons_append, true_and, and_true, zz0, true_implies, Nat.reduceLT, Nat.reduceLeDiff, zzI, look_nil, Nat.reduceBEq, implies_true, Nat.reduceSub, S_getD, zz5, and_imp, imp_and, imp_self, and_self, evS_move, evS_indexAddr, zz23, zz24, F_sl23, F_sz33, Option.map_some, zz16, Option.some.injEq, exists_eq_left', exists_eq_left, eq_self, reduceCtorEq, zz19, F_off33_0, zzB, Nat.zero_add, Nat.reduceAdd, F_ok3, F_ag3, F_sz3, zz8, zzD, zzF, zzE, zz21, gr_v, zz34, F_off33_2, zz13, fillsD, fillC, gx, bx, gz, bz, len_map, ge0, Int.toNat_natCast, D.agg.injEq, zz6, Nat.reduceEqDiff, ↓reduceIte]
                  refine hK6 _ ?_; try clear hK6 K6
                  refine awp_keepL [1, 5, 13, 14, 15, 16, 165] ?_
                  simp only [zz20, zzI, look_nil, Nat.reduceBEq]
                  refine awp_condS _ (by decide) (by simp only [look_cons, Nat.reduceBEq, cond_true, cond_false]; rfl) ?_ ?_
                  · intro hb
                    have hc : (z.frm == x.frm && z.price == x.price) = true := hb
                    clear hb
                    have hgn : gotF x.frm x.price (pa ++ [z]) = gotF x.frm x.price pa + z.qty := by rw [hgn0, hc]; rfl
                    have hwg : IntKind.wrap .i64 (gotF x.frm x.price pa + z.qty) = gotF x.frm x.price pa + z.qty := wrapI (by omega) (by omega)
                    refine awp_plain F_mixed [some 166, some 167, some 168, some 169, some 170, some 171, some 172, some 14] rfl ?_
                    simp only [List.nil_append, List.cons_append, true_and, and_true, zz0, true_implies, Nat.reduceLT, Nat.reduceLeDiff, zzI, look_nil, Nat.reduceBEq, implies_true, evS_move, evS_indexAddr, zz23, zz24, F_sl23, F_sz33, Option.map_some, zz16, Option.some.injEq, exists_eq_left', exists_eq_left, eq_self, reduceCtorEq, and_self, zz19, F_off33_1, zzB, Nat.zero_add, Nat.reduceAdd, F_ok3, F_ag3, F_sz3, zz8, zzD, zzF, zzE, zz21, gr_v, zz26, evS_assign, fillsD, fillC, gz, bz, hwg, len_map, ge0, Int.toNat_natCast, D.agg.injEq, zz6, Nat.reduceEqDiff, ↓reduceIte]
                    refine hK5 _ ?_; try clear hK5 K5
                    refine awp_keepL [1, 5, 13, 14, 15, 16] ?_
                    simp only [zz20, zzI, look_nil, Nat.reduceBEq]
                    refine awp_plain F_mixed [some 140, some 141, some 16] rfl ?_
                    simp only [List.nil_append, List.cons_append, true_and, and_true, zz0, true_implies, Nat.reduceLT, Nat.reduceLeDiff, zzI, look_nil, Nat.reduceBEq, implies_true, evS_move, zz21, gr_v, zz26, evS_assign, wz, zz6, Nat.reduceEqDiff, ↓reduceIte]
                    refine ⟨pb2.length, _, by simp, le_SK id [] rfl (l' := [(1, .d (bids l)), (5, .d (fillsD FF)), (13, .d (iv pre.length)), (14, .d (iv (gotF x.frm x.price (pa ++ [z])))), (15, .d (iv 0)), (16, .d (iv ((pa ++ [z])).length))]) (m' := []) ?_ ?_ ?_ ?_, pa ++ [z], pb2, by rw [hpa]; simp, rfl, rfl⟩
                    · simp only [leV, look_cons, Nat.reduceBEq, cond_true, cond_false, hwg, hgn, wz, bids, fillsD, List.length_append, List.length_singleton]; exact ⟨VLe.refl _, VLe.refl _, VLe.refl _, VLe.refl _, VLe.refl _, VLe.refl _, trivial⟩
                    · trivial
                    · simp [wfV, AV.ids, lookR]
                    · trivial
                  · intro hb
                    have hc : (z.frm == x.frm && z.price == x.price) = false := hb
                    clear hb
                    have hgn : gotF x.frm x.price (pa ++ [z]) = gotF x.frm x.price pa := by rw [hgn0, hc]; simp
                    refine awp_skip ?_
                    simp only [zz6, Nat.reduceEqDiff, ↓reduceIte]
                    refine hK5 _ ?_; try clear hK5 K5
                    refine awp_keepL [1, 5, 13, 14, 15, 16] ?_
                    simp only [zz20, zzI, look_nil, Nat.reduceBEq]
                    refine awp_plain F_mixed [some 140, some 141, some 16] rfl ?_
                    simp only [List.nil_append, List.cons_append, true_and, and_true, zz0, true_implies, Nat.reduceLT, Nat.reduceLeDiff, zzI, look_nil, Nat.reduceBEq, implies_true, evS_move, zz21, gr_v, zz26, evS_assign, wz, zz6, Nat.reduceEqDiff, ↓reduceIte]
                    refine ⟨pb2.length, _, by simp, le_SK id [] rfl (l' := [(1, .d (bids l)), (5, .d (fillsD FF)), (13, .d (iv pre.length)), (14, .d (iv (gotF x.frm x.price (pa ++ [z])))), (15, .d (iv 0)), (16, .d (iv ((pa ++ [z])).length))]) (m' := []) ?_ ?_ ?_ ?_, pa ++ [z], pb2, by rw [hpa]; simp, rfl, rfl⟩
                    · simp only [leV, look_cons, Nat.reduceBEq, cond_true, cond_false, hgn, wz, bids, fillsD, List.length_append, List.length_singleton]; exact ⟨VLe.refl _, VLe.refl _, VLe.refl _, VLe.refl _, VLe.refl _, VLe.refl _, trivial⟩
                    · trivial
                    · simp [wfV, AV.ids, lookR]
                    · trivial
                · intro hb
                  obtain rfl : pb = [] := by
                    cases pb with
                    | nil => rfl
                    | cons x t => have := of_decide_eq_false hb; simp at hpal; omega
                  clear hb
                  simp only [List.append_nil] at hpa
                  have hFe : FF = pa := hpa
                  subst hFe
                  refine awp_exit ?_
                  simp only [zz6, Nat.reduceEqDiff, ↓reduceIte]
                  refine hK3 _ ?_; try clear hK3 K3
                  refine awp_keepL [1, 5, 13, 14, 15] ?_
                  simp only [zz20, zzI, look_nil, Nat.reduceBEq]
                  refine awp_seq fun K3 hK3 => ?_
                  refine awp_seq fun K4 hK4 => ?_
                  refine awp_plain F_mixed [some 17] rfl ?_
                  simp only [List.nil_append, List.cons_append, true_and, and_true, zz0, true_implies, Nat.reduceLT, Nat.reduceLeDiff, zzI, look_nil, Nat.reduceBEq, implies_true, evS_assign, zz6, Nat.reduceEqDiff, ↓reduceIte]
                  refine hK4 _ ?_; try clear hK4 K4
                  refine awp_keepL [1, 5, 13, 14, 15, 17] ?_
                  simp only [zz20, zzI, look_nil, Nat.reduceBEq]
                  refine awp_block ?_
                  refine awp_loop (fun m s => ∃ pa pb : List BidV, l = pa ++ pb ∧ m = pb.length ∧ s = S 240 [(1, .d (bids l)), (5, .d (fillsD FF)), (13, .d (iv pre.length)), (14, .d (iv (gotF x.frm x.price FF))), (15, .d (iv (mayB x.frm x.price pa))), (17, .d (iv (pa).length))] []) l.length _ (le_SK id [] rfl (l' := [(1, .d (bids l)), (5, .d (fillsD FF)), (13, .d (iv pre.length)), (14, .d (iv (gotF x.frm x.price FF))), (15, .d (iv (mayB x.frm x.price ([] : List BidV)))), (17, .d (iv (([] : List BidV)).length))]) (m' := []) ?_ ?_ ?_ ?_) ⟨[], l, rfl, rfl, rfl⟩ ?_
                  · simp only [leV, look_cons, Nat.reduceBEq, cond_true, cond_false, bids, fillsD]; exact ⟨VLe.refl _, VLe.refl _, VLe.refl _, VLe.refl _, VLe.refl _, VLe.refl _, trivial⟩
                  · trivial
                  · simp [wfV, AV.ids, lookR]
                  · trivial
                  rintro m s ⟨pa, pb, hpa, rfl, rfl⟩
                  have hpal := congrArg List.length hpa
                  simp only [List.length_append] at hpal
                  refine awp_seq fun K5 hK5 => ?_
                  refine awp_seq fun K6 hK6 => ?_
                  refine awp_plain F_mixed [some 173, some 174, some 175, some 176] rfl ?_
                  simp only [List.nil_append, List.cons_append, true_and, and_true, zz0, true_implies, Nat.reduceLT, Nat.reduceLeDiff, zzI, look_nil, Nat.reduceBEq, implies_true, evS_move, evS_call, zz12, F_sl22, Option.isSome_some, zz21, gr_v, zz22, bids, len_map, zz6, Nat.reduceEqDiff, ↓reduceIte]
                  refine hK6 _ ?_; try clear hK6 K6
                  refine awp_keepL [1, 5, 13, 14, 15, 17, 176] ?_
                  simp only [zz20, zzI, look_nil, Nat.reduceBEq]
                  refine awp_condS _ (by decide) (by simp only [look_cons, Nat.reduceBEq, cond_true, cond_false]; rfl) ?_ ?_
                  · intro hb
                    obtain ⟨z, pb2, rfl⟩ : ∃ x t, pb = x :: t := by
                      cases pb with
                      | nil => have := of_decide_eq_true hb; simp at hpal; omega
                      | cons x t => exact ⟨x, t, rfl⟩
                    clear hb
                    simp only [List.length_cons] at hpal
                    have gz : (l.map bidC).getD pa.length [] = [iv z.who, iv z.inst, iv z.frm, iv z.qty, iv z.price] := by
                      rw [hpa, List.map_append]; exact gd_mid' (A := pa.map bidC) _ _ (by simp)
                    have bz := ltI (show pa.length < l.length by omega)
                    have wz : IntKind.wrap .i64 ((pa.length : Int) + 1) = ((pa.length + 1 : Nat) : Int) := by rw [wrapI (by omega) (by omega)]; omega
                    have hzk : bidOk z = true := by have := H.good; rw [hpa] at this; simp at this; exact this.2.1
                    have hzq := ok_qty hzk
                    have hpk : pa.all bidOk = true := by have := H.good; rw [hpa, List.all_append] at this; exact (Bool.and_eq_true_iff.1 this).1
                    have hgb := mayB_bnd x.frm x.price hpk
                    have hgn0 := mayB_snoc x.frm x.price pa z
                    refine awp_skip ?_
                    simp only [zz6, Nat.reduceEqDiff, ↓reduceIte]
                    refine hK5 _ ?_; try clear hK5 K5
                    refine awp_keepL [1, 5, 13, 14, 15, 17] ?_
                    simp only [zz20, zzI, look_nil, Nat.reduceBEq]
                    refine awp_seq fun K5 hK5 => ?_
                    refine awp_block ?_
                    refine awp_seq fun K6 hK6 => ?_
                    refine awp_draw F_mixed [some 179, some 180, some 181, some 182, some 183, some 184, some 185, some 186, some 187, some 188, some 189, some 190, some 191, some 192, some 193, some 194, some 195, some 196, some 197, some 198, some 199, some 200, some 201, some 202] rfl (by kernel_rfl) ?_
                    simp only [List.nil_append, List.cons_append, true_and, and_true, zz0, true_implies, Nat.reduceLT, Nat.reduceLeDiff, zzI, look_nil, Nat.reduceBEq, implies_true, Nat.reduceSub, S_getD, zz5, and_imp, imp_and, imp_self, and_self, evS_move, evS_indexAddr, zz23, zz24, F_sl22, F_sz31, Option.map_some, zz16, Option.some.injEq, exists_eq_left', exists_eq_left, eq_self, reduceCtorEq, zz19, F_off31_1, zzB, Nat.zero_add, Nat.reduceAdd, F_ok3, F_ag3, F_sz3, zz8, zzD, zzF, zzE, F_sl23, F_sz33, F_off33_0, zz21, gr_v, zz34, F_off31_3, F_off33_2, zz13, bids, fillsD, bidC, fillC, gx, bx, gz, bz, len_map, ge0, Int.toNat_natCast, D.agg.injEq, zz6, Nat.reduceEqDiff, ↓reduceIte]
                    refine hK6 _ ?_; try clear hK6 K6
                    refine awp_keepL [1, 5, 13, 14, 15, 17, 202] ?_
                    simp only [zz20, zzI, look_nil, Nat.reduceBEq]
                    refine awp_condS _ (by decide) (by simp only [look_cons, Nat.reduceBEq, cond_true, cond_false]; rfl) ?_ ?_
                    · intro hb
                      have hc : (z.frm == x.frm && z.price == x.price) = true := hb
                      clear hb
                      have hgn : mayB x.frm x.price (pa ++ [z]) = mayB x.frm x.price pa + z.qty := by rw [hgn0, hc]; rfl
                      have hwg : IntKind.wrap .i64 (mayB x.frm x.price pa + z.qty) = mayB x.frm x.price pa + z.qty := wrapI (by omega) (by omega)
                      refine awp_plain F_mixed [some 203, some 204, some 205, some 206, some 207, some 208, some 209, some 15] rfl ?_
                      simp only [List.nil_append, List.cons_append, true_and, and_true, zz0, true_implies, Nat.reduceLT, Nat.reduceLeDiff, zzI, look_nil, Nat.reduceBEq, implies_true, evS_move, evS_indexAddr, zz23, zz24, F_sl22, F_sz31, Option.map_some, zz16, Option.some.injEq, exists_eq_left', exists_eq_left, eq_self, reduceCtorEq, and_self, zz19, F_off31_2, zzB, Nat.zero_add, Nat.reduceAdd, F_ok3, F_ag3, F_sz3, zz8, zzD, zzF, zzE, zz21, gr_v, zz26, evS_assign, bids, gz, bz, hwg, len_map, ge0, Int.toNat_natCast, D.agg.injEq, zz6, Nat.reduceEqDiff, ↓reduceIte]
                      refine hK5 _ ?_; try clear hK5 K5
                      refine awp_keepL [1, 5, 13, 14, 15, 17] ?_
                      simp only [zz20, zzI, look_nil, Nat.reduceBEq]
                      refine awp_plain F_mixed [some 177, some 178, some 17] rfl ?_
                      simp only [List.nil_append, List.cons_append, true_and, and_true, zz0, true_implies, Nat.reduceLT, Nat.reduceLeDiff, zzI, look_nil, Nat.reduceBEq, implies_true, evS_move, zz21, gr_v, zz26, evS_assign, wz, zz6, Nat.reduceEqDiff, ↓reduceIte]
                      refine ⟨pb2.length, _, by simp, le_SK id [] rfl (l' := [(1, .d (bids l)), (5, .d (fillsD FF)), (13, .d (iv pre.length)), (14, .d (iv (gotF x.frm x.price FF))), (15, .d (iv (mayB x.frm x.price (pa ++ [z])))), (17, .d (iv ((pa ++ [z])).length))]) (m' := []) ?_ ?_ ?_ ?_, pa ++ [z], pb2, by rw [hpa]; simp, rfl, rfl⟩
                      · simp only [leV, look_cons, Nat.reduceBEq, cond_true, cond_false, hwg, hgn, wz, bids, fillsD, List.length_append, List.length_singleton]; exact ⟨VLe.refl _, VLe.refl _, VLe.refl _, VLe.refl _, VLe.refl _, VLe.refl _, trivial⟩
                      · trivial
                      · simp [wfV, AV.ids, lookR]
                      · trivial
                    · intro hb
                      have hc : (z.frm == x.frm && z.price == x.price) = false := hb
                      clear hb
                      have hgn : mayB x.frm x.price (pa ++ [z]) = mayB x.frm x.price pa := by rw [hgn0, hc]; simp
                      refine awp_skip ?_
                      simp only [zz6, Nat.reduceEqDiff, ↓reduceIte]
                      refine hK5 _ ?_; try clear hK5 K5
                      refine awp_keepL [1, 5, 13, 14, 15, 17] ?_
                      simp only [zz20, zzI, look_nil, Nat.reduceBEq]
                      refine awp_plain F_mixed [some 177, some 178, some 17] rfl ?_
                      simp only [List.nil_append, List.cons_append, true_and, and_true, zz0, true_implies, Nat.reduceLT, Nat.reduceLeDiff, zzI, look_nil, Nat.reduceBEq, implies_true, evS_move, zz21, gr_v, zz26, evS_assign, wz, zz6, Nat.reduceEqDiff, ↓reduceIte]
                      refine ⟨pb2.length, _, by simp, le_SK id [] rfl (l' := [(1, .d (bids l)), (5, .d (fillsD FF)), (13, .d (iv pre.length)), (14, .d (iv (gotF x.frm x.price FF))), (15, .d (iv (mayB x.frm x.price (pa ++ [z])))), (17, .d (iv ((pa ++ [z])).length))]) (m' := []) ?_ ?_ ?_ ?_, pa ++ [z], pb2, by rw [hpa]; simp, rfl, rfl⟩
                      · simp only [leV, look_cons, Nat.reduceBEq, cond_true, cond_false, hgn, wz, bids, fillsD, List.length_append, List.length_singleton]; exact ⟨VLe.refl _, VLe.refl _, VLe.refl _, VLe.refl _, VLe.refl _, VLe.refl _, trivial⟩
                      · trivial
                      · simp [wfV, AV.ids, lookR]
                      · trivial
                  · intro hb
                    obtain rfl : pb = [] := by
                      cases pb with
                      | nil => rfl
                      | cons x t => have := of_decide_eq_false hb; simp at hpal; omega
                    clear hb
                    simp only [List.append_nil] at hpa
                    have hFe : l = pa := hpa
                    subst hFe
                    have hle := H.got x
                    have hgt : decide (gotF x.frm x.price FF > mayB x.frm x.price l) = false := decide_eq_false (by omega)
                    have hwl : IntKind.wrap .i64 ((FF.length : Int) - 1) = ((FF.length - 1 : Nat) : Int) := by rw [wrapI (by omega) (by omega)]; omega
                    have g2 : (FF.map fillC).getD (pre.length + 1) [] = [] := by simp [List.getD, List.getElem?_eq_none (show FF.length ≤ pre.length + 1 by omega)]
                    have b2 : (((pre.length + 1 : Nat) : Int) < (FF.length : Int)) = False := by simp only [eq_iff_iff, iff_false]; omega
                    have hd : decide ((pre.length : Int) < ((FF.length - 1 : Nat) : Int)) = false := decide_eq_false (by omega)
                    have hfin : (1 : Int) = 1 := rfl
                    refine awp_exit ?_
                    simp only [zz6, Nat.reduceEqDiff, ↓reduceIte]
                    refine hK3 _ ?_; try clear hK3 K3
                    refine awp_keepL [1, 5, 13, 14, 15] ?_
                    simp only [zz20, zzI, look_nil, Nat.reduceBEq]
                    refine awp_seq fun K3 hK3 => ?_
                    refine awp_draw F_mixed [some 210, some 211, some 212, some 213, some 214, some 215, some 216, some 217, some 218, some 219, some 220, some 221, some 222, some 223, some 224, some 225, some 226, some 227, some 228, some 229, some 230, some 231, some 232, some 233, some 234, some 235, some 236, some 237, some 238] rfl (by kernel_rfl) ?_
                    simp only [List.nil_append, List.cons_append, true_and, and_true, zz0, true_implies, Nat.reduceLT, Nat.reduceLeDiff, zzI, look_nil, Nat.reduceBEq, implies_true, Nat.reduceSub, S_getD, zz5, and_imp, imp_and, imp_self, and_self, evS_move, zz21, gr_v, zz25, evS_call, zz12, F_sl23, Option.isSome_some, zz33, zz22, zz26, evS_indexAddr, zz23, zz24, F_sz33, Option.map_some, zz16, Option.some.injEq, exists_eq_left', exists_eq_left, eq_self, reduceCtorEq, zz19, F_off33_2, zzB, Nat.zero_add, Nat.reduceAdd, F_ok3, F_ag3, F_sz3, zz8, zzD, zzF, zzE, zz28, zz13, fillsD, len_map, gx, bx, wx, g2, b2, hgt, hwl, hd, ge0, Int.toNat_natCast, D.agg.injEq, List.drop_nil, List.getD_nil, b_nu, Bool.false_and, Bool.true_and, Bool.false_or, Bool.and_false, hfin, Bool.false_eq_true, false_implies, zz6, Nat.reduceEqDiff, ↓reduceIte]
                    refine hK3 _ ?_; try clear hK3 K3
                    refine awp_keepL [1, 5, 13, 238] ?_
                    simp only [zz20, zzI, look_nil, Nat.reduceBEq]
                    refine awp_condS _ (by decide) (by simp only [look_cons, Nat.reduceBEq, cond_true, cond_false]; rfl) ?_ ?_
                    · intro hb
                      first | (rw [hfin] at hb; cases hb) | (simp only [hfin] at hb; cases hb) | (simp [hfin] at hb)
                    · intro hb
                      clear hb
                      refine awp_skip ?_
                      simp only [zz6, Nat.reduceEqDiff, ↓reduceIte]
                      refine hK2 _ ?_; try clear hK2 K2
                      refine awp_keepL [1, 5, 13] ?_
                      simp only [zz20, zzI, look_nil, Nat.reduceBEq]
                      refine awp_plain F_mixed [some 134, some 135, some 13] rfl ?_
                      simp only [List.nil_append, List.cons_append, true_and, and_true, zz0, true_implies, Nat.reduceLT, Nat.reduceLeDiff, zzI, look_nil, Nat.reduceBEq, implies_true, evS_move, zz21, gr_v, zz26, evS_assign, wx, zz6, Nat.reduceEqDiff, ↓reduceIte]
                      refine ⟨0, _, by simp, le_SK id [] rfl (l' := [(1, .d (bids l)), (5, .d (fillsD FF)), (13, .d (iv ((pre ++ [x])).length))]) (m' := []) ?_ ?_ ?_ ?_, pre ++ [x], [], by rw [hsf]; simp, rfl, rfl⟩
                      · simp only [leV, look_cons, Nat.reduceBEq, cond_true, cond_false, wx, bids, fillsD, List.length_append, List.length_singleton]; exact ⟨VLe.refl _, VLe.refl _, VLe.refl _, trivial⟩
                      · trivial
                      · simp [wfV, AV.ids, lookR]
                      · trivial
              · intro hb
                clear hb
                refine awp_exit ?_
                simp only [zz6, Nat.reduceEqDiff, ↓reduceIte]
                refine hK0 _ ?_; try clear hK0 K0
                refine awp_keepL [] ?_
                simp only [zz20, zzI, look_nil, Nat.reduceBEq]
                refine awp_seq fun K0 hK0 => ?_
                refine awp_plain F_mixed [some 239, some 4] rfl ?_
                simp only [List.nil_append, List.cons_append, true_and, and_true, zz0, true_implies, Nat.reduceLT, Nat.reduceLeDiff, zzI, look_nil, Nat.reduceBEq, implies_true, evS_call, evC_value, evS_assign, zz6, Nat.reduceEqDiff, ↓reduceIte]
                refine call_go F_go10 (fun hG => wakes19_) (by simp [AV.ids, AV.idsL]) (by simp) ?_
                simp only [List.nil_append, List.cons_append, true_and, and_true, zz0, true_implies, Nat.reduceLT, Nat.reduceLeDiff, zzI, look_nil, Nat.reduceBEq, implies_true, evS_call, evC_value, evS_assign, zz6, Nat.reduceEqDiff, ↓reduceIte, atsL, oksG, freeN, AV.ren, AV.renL, addRows, ORow.row, Nat.reduceMul, Nat.reduceAdd, zz9, Option.bind_some, Option.map_some, forall_eq', D.sl.injEq, zz16, Option.some.injEq, exists_eq_left', exists_eq_left, exists_eq', exists_eq, zzD, zz2]
                refine hK0 _ ?_; try clear hK0 K0
                refine awp_keepL [4] ?_
                simp only [zz20, zzI, look_nil, Nat.reduceBEq]
                refine awp_ret ?_
                simp only [zz6, Nat.reduceEqDiff, ↓reduceIte]
                refine done0 (by simp only [resCs, resC]; trivial) ?_ (by simp [flatA, flatAs, flatD]) (by simp [AV.ids, AV.idsL])
                simp only [List.map_cons, List.map_nil, resA, S_getD, Nat.reduceLT, Nat.reduceLeDiff, look_cons, Nat.reduceBEq, cond_true, cond_false, resAll]
                try rfl
end Go.Proofs.Ytopifbpibkpmmaa
