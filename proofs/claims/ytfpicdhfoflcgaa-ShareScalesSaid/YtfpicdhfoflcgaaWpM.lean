import Derived.Test.YtfpicdhfoflcgaaSpecJK
import Derived.Test.YtfpicdhfoflcgaaWpL
namespace Go.Proofs.Ytfpicdhfoflcgaa
open Go.RowKit
set_option linter.unusedVariables false
set_option linter.unusedSimpArgs false

set_option maxRecDepth 100000 in
set_option maxHeartbeats 4000000 in
theorem shareFair_ (t : Int) (l : List Int) : ACalls Try.prog 4 [iv t, ints l] [] (bv true) := by
  refine acalls_S (rs := [.tmp 4]) Try.func4 rfl rfl 118 [(0, .d (iv t)), (1, .d (ints l))] rfl (by simp) rfl ?_
  refine awp_seq fun K0 hK0 => ?_
  refine awp_plain F_mixed [some 4] rfl ?_
  simp only [List.nil_append, List.cons_append, true_and, and_true, zz0, true_implies, Nat.reduceLT, Nat.reduceLeDiff, zzI, look_nil, Nat.reduceBEq, implies_true, evS_assign, zz6, Nat.reduceEqDiff, ↓reduceIte]
  refine hK0 _ ?_; try clear hK0 K0
  refine awp_keepL [0, 1] ?_
  simp only [zz20, zzI, look_nil, Nat.reduceBEq]
  refine awp_seq fun K0 hK0 => ?_
  refine awp_seq fun K1 hK1 => ?_
  refine awp_plain F_mixed [some 9, some 10, some 11, some 12] rfl ?_
  simp only [List.nil_append, List.cons_append, true_and, and_true, zz0, true_implies, Nat.reduceLT, Nat.reduceLeDiff, zzI, look_nil, Nat.reduceBEq, implies_true, evS_move, evS_call, evC_value, zz29, gr_v, zz30, zz6, Nat.reduceEqDiff, ↓reduceIte]
  refine call_go F_go10 (fun hG => may_ t l) (by simp [AV.ids, AV.idsL]) (by simp) ?_
  simp only [List.nil_append, List.cons_append, true_and, and_true, zz0, true_implies, Nat.reduceLT, Nat.reduceLeDiff, zzI, look_nil, Nat.reduceBEq, implies_true, evS_move, evS_call, evC_value, zz29, gr_v, zz30, zz6, Nat.reduceEqDiff, ↓reduceIte, atsL, oksG, freeN, AV.ren, AV.renL, addRows, ORow.row, Nat.reduceMul, Nat.reduceAdd, zz9, Option.bind_some, Option.map_some, forall_eq', D.sl.injEq, zz16, Option.some.injEq, exists_eq_left', exists_eq_left, exists_eq', exists_eq, zzD, zz2]
  refine hK1 _ ?_; try clear hK1 K1
  refine awp_keepL [0, 1, 12] ?_
  simp only [zz20, zzI, look_nil, Nat.reduceBEq]
  refine awp_condS _ (by decide) (by simp only [look_cons, Nat.reduceBEq, cond_true, cond_false]; rfl) ?_ ?_
  · intro hb
    clear hb
    refine awp_seq fun K2 hK2 => ?_
    refine awp_plain F_mixed [some 4] rfl ?_
    simp only [List.nil_append, List.cons_append, true_and, and_true, zz0, true_implies, Nat.reduceLT, Nat.reduceLeDiff, zzI, look_nil, Nat.reduceBEq, implies_true, evS_assign, zz6, Nat.reduceEqDiff, ↓reduceIte]
    refine hK2 _ ?_; try clear hK2 K2
    refine awp_keepL [4] ?_
    simp only [zz20, zzI, look_nil, Nat.reduceBEq]
    refine awp_ret ?_
    simp only [zz6, Nat.reduceEqDiff, ↓reduceIte]
    refine done0 (by simp only [resCs, resC]; trivial) ?_ (by simp [flatA, flatAs, flatD]) (by simp [AV.ids, AV.idsL])
    simp only [List.map_cons, List.map_nil, resA, S_getD, Nat.reduceLT, Nat.reduceLeDiff, look_cons, Nat.reduceBEq, cond_true, cond_false, resAll]
    
  · intro hb
    have hm : mayB t l = true := by simpa using hb
    clear hb
    have hM := may_ok hm
    have hs := sRE_may hM
    have hl2 := hM.2.2
    have hl0 : ∀ x ∈ l, 0 ≤ x := fun x hx => (hM.2.1 x hx).1
    have htb := hM.1
    
    refine awp_skip ?_
    simp only [zz6, Nat.reduceEqDiff, ↓reduceIte]
    refine hK0 _ ?_; try clear hK0 K0
    refine awp_keepL [0, 1] ?_
    simp only [zz20, zzI, look_nil, Nat.reduceBEq]
    refine awp_seq fun K0 hK0 => ?_
    refine awp_plain F_mixed [some 14, some 15, some 16, some 13, some 17, some 18, some 5, some 6] rfl ?_
    simp only [List.nil_append, List.cons_append, true_and, and_true, zz0, true_implies, Nat.reduceLT, Nat.reduceLeDiff, zzI, look_nil, Nat.reduceBEq, implies_true, evS_move, evS_call, evC_value, zz14, zzD, Nat.reduceAdd, Nat.zero_add, zzF, evS_assign, zz6, Nat.reduceEqDiff, ↓reduceIte]
    refine call_go F_go11 (fun hG => splitF t l (by omega)) (by simp [AV.ids, AV.idsL]) (by simp) ?_
    simp only [List.nil_append, List.cons_append, true_and, and_true, zz0, true_implies, Nat.reduceLT, Nat.reduceLeDiff, zzI, look_nil, Nat.reduceBEq, implies_true, evS_move, evS_call, evC_value, zz14, zzD, Nat.reduceAdd, Nat.zero_add, zzF, evS_assign, zz6, Nat.reduceEqDiff, ↓reduceIte, atsL, oksG, freeN, AV.ren, AV.renL, addRows, ORow.row, Nat.reduceMul, Nat.reduceAdd, zz9, Option.bind_some, Option.map_some, forall_eq', D.sl.injEq, zz16, Option.some.injEq, exists_eq_left', exists_eq_left, exists_eq', exists_eq, List.length_cons, zz2]
    refine hK0 _ ?_; try clear hK0 K0
    refine awp_keepL [1, 5, 6] ?_
    simp only [zz20, zzI, look_nil, Nat.reduceBEq]
    refine awp_seq fun K0 hK0 => ?_
    refine awp_seq fun K1 hK1 => ?_
    refine awp_plain F_mixed [some 19, some 20] rfl ?_
    simp only [List.nil_append, List.cons_append, true_and, and_true, zz0, true_implies, Nat.reduceLT, Nat.reduceLeDiff, zzI, look_nil, Nat.reduceBEq, implies_true, evS_move, zz21, gr_v, zz28, zz6, Nat.reduceEqDiff, ↓reduceIte]
    refine hK1 _ ?_; try clear hK1 K1
    refine awp_keepL [1, 5, 20] ?_
    simp only [zz20, zzI, look_nil, Nat.reduceBEq]
    refine awp_condS _ (by decide) (by simp only [look_cons, Nat.reduceBEq, cond_true, cond_false]; rfl) ?_ ?_
    · intro hb
      clear hb
      refine awp_seq fun K2 hK2 => ?_
      refine awp_plain F_mixed [some 21, some 4] rfl ?_
      simp only [List.nil_append, List.cons_append, true_and, and_true, zz0, true_implies, Nat.reduceLT, Nat.reduceLeDiff, zzI, look_nil, Nat.reduceBEq, implies_true, evS_call, evC_value, evS_assign, zz6, Nat.reduceEqDiff, ↓reduceIte]
      refine call_go F_go14 (fun hG => wakes03_) (by simp [AV.ids, AV.idsL]) (by simp) ?_
      simp only [List.nil_append, List.cons_append, true_and, and_true, zz0, true_implies, Nat.reduceLT, Nat.reduceLeDiff, zzI, look_nil, Nat.reduceBEq, implies_true, evS_call, evC_value, evS_assign, zz6, Nat.reduceEqDiff, ↓reduceIte, atsL, oksG, freeN, AV.ren, AV.renL, addRows, ORow.row, Nat.reduceMul, Nat.reduceAdd, zz9, Option.bind_some, Option.map_some, forall_eq', D.sl.injEq, zz16, Option.some.injEq, exists_eq_left', exists_eq_left, exists_eq', exists_eq, zzD, zz2]
      refine hK2 _ ?_; try clear hK2 K2
      refine awp_keepL [4] ?_
      simp only [zz20, zzI, look_nil, Nat.reduceBEq]
      refine awp_ret ?_
      simp only [zz6, Nat.reduceEqDiff, ↓reduceIte]
      refine done0 (by simp only [resCs, resC]; trivial) ?_ (by simp [flatA, flatAs, flatD]) (by simp [AV.ids, AV.idsL])
      simp only [List.map_cons, List.map_nil, resA, S_getD, Nat.reduceLT, Nat.reduceLeDiff, look_cons, Nat.reduceBEq, cond_true, cond_false, resAll]
      
    · intro hb
      have he : splitE t l = 0 := by simpa using hb
      clear hb
      have hpl := split_len hs he
      refine awp_skip ?_
      simp only [zz6, Nat.reduceEqDiff, ↓reduceIte]
      refine hK0 _ ?_; try clear hK0 K0
      refine awp_keepL [1, 5] ?_
      simp only [zz20, zzI, look_nil, Nat.reduceBEq]
      refine awp_seq fun K0 hK0 => ?_
      refine awp_seq fun K1 hK1 => ?_
      refine awp_plain F_mixed [some 22, some 23, some 24, some 25, some 26] rfl ?_
      simp only [List.nil_append, List.cons_append, true_and, and_true, zz0, true_implies, Nat.reduceLT, Nat.reduceLeDiff, zzI, look_nil, Nat.reduceBEq, implies_true, evS_move, evS_call, zz12, F_sl22, Option.isSome_some, zz21, gr_v, zz28, ints, len_map, hpl, zz6, Nat.reduceEqDiff, ↓reduceIte]
      refine hK1 _ ?_; try clear hK1 K1
      refine awp_keepL [1, 5, 26] ?_
      simp only [zz20, zzI, look_nil, Nat.reduceBEq]
      refine awp_condS _ (by decide) (by simp only [look_cons, Nat.reduceBEq, cond_true, cond_false]; rfl) ?_ ?_
      · intro hb
        simp at hb
      · intro hb
        clear hb
        refine awp_skip ?_
        simp only [zz6, Nat.reduceEqDiff, ↓reduceIte]
        refine hK0 _ ?_; try clear hK0 K0
        refine awp_keepL [1, 5] ?_
        simp only [zz20, zzI, look_nil, Nat.reduceBEq]
        refine awp_seq fun K0 hK0 => ?_
        refine awp_seq fun K1 hK1 => ?_
        refine awp_plain F_mixed [some 7] rfl ?_
        simp only [List.nil_append, List.cons_append, true_and, and_true, zz0, true_implies, Nat.reduceLT, Nat.reduceLeDiff, zzI, look_nil, Nat.reduceBEq, implies_true, evS_assign, zz6, Nat.reduceEqDiff, ↓reduceIte]
        refine hK1 _ ?_; try clear hK1 K1
        refine awp_keepL [1, 5, 7] ?_
        simp only [zz20, zzI, look_nil, Nat.reduceBEq]
        refine awp_block ?_
        refine awp_loop (fun m s => ∃ (i : Nat), (i ≤ l.length) ∧ m = l.length - i ∧ s = S 118 [(1, .d (ints l)), (5, .d (ints (splitV t l))), (7, .d (iv ((i : Nat) : Int)))] []) (l.length) _ (le_SK id [] rfl (l' := [(1, .d (ints l)), (5, .d (ints (splitV t l))), (7, .d (iv ((0 : Nat) : Int)))]) (m' := []) ?_ ?_ ?_ ?_) ⟨0, Nat.zero_le _, rfl, rfl⟩ ?_
        · simp only [leV, look_cons, Nat.reduceBEq, cond_true, cond_false]; exact ⟨(by first | exact VLe.still rfl | exact VLe.nil_ (by decide) | exact VLe.nild_ | exact VLe.refl _ | exact VLe.ptrE (by simp) (by rfl) | exact VLe.refE (by simp) (by rfl) (by first | rfl | (simp; done) | (simp; omega)) | exact VLe.dE (by first | rfl | simp)), (by first | exact VLe.still rfl | exact VLe.nil_ (by decide) | exact VLe.nild_ | exact VLe.refl _ | exact VLe.ptrE (by simp) (by rfl) | exact VLe.refE (by simp) (by rfl) (by first | rfl | (simp; done) | (simp; omega)) | exact VLe.dE (by first | rfl | simp)), (by first | exact VLe.still rfl | exact VLe.nil_ (by decide) | exact VLe.nild_ | exact VLe.refl _ | exact VLe.ptrE (by simp) (by rfl) | exact VLe.refE (by simp) (by rfl) (by first | rfl | (simp; done) | (simp; omega)) | exact VLe.dE (by first | rfl | simp)), trivial⟩
        · exact trivial
        · simp [wfV, AV.ids, AV.idsL, lookR, grow]
        · simp [wfR]
        rintro m s ⟨i, hil, rfl, rfl⟩
        refine awp_seq fun K2 hK2 => ?_
        refine awp_seq fun K3 hK3 => ?_
        refine awp_plain F_mixed [some 27, some 28, some 29, some 30] rfl ?_
        simp only [List.nil_append, List.cons_append, true_and, and_true, zz0, true_implies, Nat.reduceLT, Nat.reduceLeDiff, zzI, look_nil, Nat.reduceBEq, implies_true, evS_move, evS_call, zz12, F_sl22, Option.isSome_some, zz21, gr_v, zz22, ints, len_map, zz6, Nat.reduceEqDiff, ↓reduceIte]
        refine hK3 _ ?_; try clear hK3 K3
        refine awp_keepL [1, 5, 7, 30] ?_
        simp only [zz20, zzI, look_nil, Nat.reduceBEq]
        refine awp_condS _ (by decide) (by simp only [look_cons, Nat.reduceBEq, cond_true, cond_false]; rfl) ?_ ?_
        · intro hb
          have hi : i < l.length := by have := of_decide_eq_true hb; omega
          clear hb
          have hwi : IntKind.wrap .i64 ((i : Int) + 1) = ((i + 1 : Nat) : Int) := wrapI (by omega) (by omega)
          refine awp_skip ?_
          simp only [zz6, Nat.reduceEqDiff, ↓reduceIte]
          refine hK2 _ ?_; try clear hK2 K2
          refine awp_keepL [1, 5, 7] ?_
          simp only [zz20, zzI, look_nil, Nat.reduceBEq]
          refine awp_seq fun K2 hK2 => ?_
          refine awp_block ?_
          refine awp_seq fun K3 hK3 => ?_
          refine awp_plain F_mixed [some 33, some 34, some 8] rfl ?_
          simp only [List.nil_append, List.cons_append, true_and, and_true, zz0, true_implies, Nat.reduceLT, Nat.reduceLeDiff, zzI, look_nil, Nat.reduceBEq, implies_true, evS_move, zz21, gr_v, zz26, evS_assign, hwi, zz6, Nat.reduceEqDiff, ↓reduceIte]
          refine hK3 _ ?_; try clear hK3 K3
          refine awp_keepL [1, 5, 7, 8] ?_
          simp only [zz20, zzI, look_nil, Nat.reduceBEq]
          refine awp_block ?_
          refine awp_loop (fun m s => ∃ (k : Nat), (i < k) ∧ (k ≤ l.length) ∧ m = l.length - k ∧ s = S 118 [(1, .d (ints l)), (5, .d (ints (splitV t l))), (7, .d (iv ((i : Nat) : Int))), (8, .d (iv ((k : Nat) : Int)))] []) (l.length - (i + 1)) _ (le_SK id [] rfl (l' := [(1, .d (ints l)), (5, .d (ints (splitV t l))), (7, .d (iv ((i : Nat) : Int))), (8, .d (iv (((i + 1) : Nat) : Int)))]) (m' := []) ?_ ?_ ?_ ?_) ⟨(i + 1), Nat.lt_succ_self _, hi, rfl, rfl⟩ ?_
          · simp only [leV, look_cons, Nat.reduceBEq, cond_true, cond_false]; exact ⟨(by first | exact VLe.still rfl | exact VLe.nil_ (by decide) | exact VLe.nild_ | exact VLe.refl _ | exact VLe.ptrE (by simp) (by rfl) | exact VLe.refE (by simp) (by rfl) (by first | rfl | (simp; done) | (simp; omega)) | exact VLe.dE (by first | rfl | simp)), (by first | exact VLe.still rfl | exact VLe.nil_ (by decide) | exact VLe.nild_ | exact VLe.refl _ | exact VLe.ptrE (by simp) (by rfl) | exact VLe.refE (by simp) (by rfl) (by first | rfl | (simp; done) | (simp; omega)) | exact VLe.dE (by first | rfl | simp)), (by first | exact VLe.still rfl | exact VLe.nil_ (by decide) | exact VLe.nild_ | exact VLe.refl _ | exact VLe.ptrE (by simp) (by rfl) | exact VLe.refE (by simp) (by rfl) (by first | rfl | (simp; done) | (simp; omega)) | exact VLe.dE (by first | rfl | simp)), (by first | exact VLe.still rfl | exact VLe.nil_ (by decide) | exact VLe.nild_ | exact VLe.refl _ | exact VLe.ptrE (by simp) (by rfl) | exact VLe.refE (by simp) (by rfl) (by first | rfl | (simp; done) | (simp; omega)) | exact VLe.dE (by first | rfl | simp)), trivial⟩
          · exact trivial
          · simp [wfV, AV.ids, AV.idsL, lookR, grow]
          · simp [wfR]
          rintro m s ⟨k, hik, hkl, rfl, rfl⟩
          refine awp_seq fun K4 hK4 => ?_
          refine awp_seq fun K5 hK5 => ?_
          refine awp_plain F_mixed [some 35, some 36, some 37, some 38] rfl ?_
          simp only [List.nil_append, List.cons_append, true_and, and_true, zz0, true_implies, Nat.reduceLT, Nat.reduceLeDiff, zzI, look_nil, Nat.reduceBEq, implies_true, evS_move, evS_call, zz12, F_sl22, Option.isSome_some, zz21, gr_v, zz22, ints, len_map, zz6, Nat.reduceEqDiff, ↓reduceIte]
          refine hK5 _ ?_; try clear hK5 K5
          refine awp_keepL [1, 5, 7, 8, 38] ?_
          simp only [zz20, zzI, look_nil, Nat.reduceBEq]
          refine awp_condS _ (by decide) (by simp only [look_cons, Nat.reduceBEq, cond_true, cond_false]; rfl) ?_ ?_
          · intro hb
            have hk : k < l.length := by have := of_decide_eq_true hb; omega
            clear hb
            have hwk : IntKind.wrap .i64 ((k : Int) + 1) = ((k + 1 : Nat) : Int) := wrapI (by omega) (by omega)
            have bi := ltI hi
            have bk := ltI hk
            have gi := intsD_get (p := l) hi
            have gk := intsD_get (p := l) hk
            have pi_ := intsD_get (p := splitV t l) (k := i) (by rw [hpl]; exact hi)
            have pk_ := intsD_get (p := splitV t l) (k := k) (by rw [hpl]; exact hk)
            have hF := split_fair hs he hl0 hik hk
            have hB := split_bnd hs he k
            have hwp : IntKind.wrap .i64 ((splitV t l).getD k 0 + 1) = (splitV t l).getD k 0 + 1 := wrapI (by omega) (by omega)
            refine awp_skip ?_
            simp only [zz6, Nat.reduceEqDiff, ↓reduceIte]
            refine hK4 _ ?_; try clear hK4 K4
            refine awp_keepL [1, 5, 7, 8] ?_
            simp only [zz20, zzI, look_nil, Nat.reduceBEq]
            refine awp_seq fun K4 hK4 => ?_
            refine awp_block ?_
            refine awp_seq fun K5 hK5 => ?_
            refine awp_draw F_mixed (some 41 :: some 42 :: some 43 :: some 44 :: some 45 :: some 46 :: some 47 :: some 48 :: some 49 :: some 50 :: some 51 :: some 52 :: some 53 :: some 54 :: some 55 :: some 56 :: some 57 :: some 58 :: some 59 :: some 60 :: some 61 :: some 62 :: some 63 :: some 64 :: some 65 :: some 66 :: some 67 :: some 68 :: some 69 :: some 70 :: some 71 :: some 72 :: some 73 :: some 74 :: some 75 :: some 76 :: some 77 :: some 78 :: some 79 :: some 80 :: some 81 :: some 82 :: some 83 :: some 84 :: some 85 :: some 86 :: some 87 :: some 88 :: some 89 :: some 90 :: some 91 :: some 92 :: some 93 :: some 94 :: some 95 :: some 96 :: some 97 :: some 98 :: some 99 :: some 100 :: some 101 :: some 102 :: some 103 :: some 104 :: some 105 :: some 106 :: some 107 :: some 108 :: some 109 :: some 110 :: some 111 :: some 112 :: some 113 :: some 114 :: some 115 :: some 116 :: []) rfl (by kernel_rfl) ?_
            simp only [List.nil_append, List.cons_append, true_and, and_true, zz0, true_implies, Nat.reduceLT, Nat.reduceLeDiff, zzI, look_nil, Nat.reduceBEq, implies_true, Nat.reduceSub, S_getD, zz5, and_imp, imp_and, imp_self, and_self, evS_move, evS_indexAddr, zz23, zz24, F_sl22, F_sz3, Option.map_some, zz16, Option.some.injEq, exists_eq_left', exists_eq_left, eq_self, reduceCtorEq, F_ok3, F_ag3, zz8, zzD, Nat.reduceAdd, Nat.zero_add, zzF, zzB, zzE, zz21, gr_v, zz34, zz22, zz26, zz25, zz13, pickK_l, pickK_r, ints, len_map, hpl, bi, bk, gi, gk, pi_, pk_, hwp, ge0, Int.toNat_natCast, List.append_eq, zz6, Nat.reduceEqDiff, ↓reduceIte]
            refine hK5 _ ?_; try clear hK5 K5
            refine awp_keepL [1, 5, 7, 8, 116] ?_
            simp only [zz20, zzI, look_nil, Nat.reduceBEq]
            refine awp_condS _ (by decide) (by simp only [look_cons, Nat.reduceBEq, cond_true, cond_false]; rfl) ?_ ?_
            · intro hb
              exfalso
              generalize (splitV t l).getD k 0 = pk at *
              generalize (splitV t l).getD i 0 = pi at *
              generalize l.getD k 0 = lk at *
              generalize l.getD i 0 = li at *
              simp only [Bool.or_eq_true, Bool.and_eq_true, beq_iff_eq, decide_eq_true_eq] at hb
              omega
            · intro hb
              clear hb
              refine awp_skip ?_
              simp only [zz6, Nat.reduceEqDiff, ↓reduceIte]
              refine hK4 _ ?_; try clear hK4 K4
              refine awp_keepL [1, 5, 7, 8] ?_
              simp only [zz20, zzI, look_nil, Nat.reduceBEq]
              refine awp_plain F_mixed [some 39, some 40, some 8] rfl ?_
              simp only [List.nil_append, List.cons_append, true_and, and_true, zz0, true_implies, Nat.reduceLT, Nat.reduceLeDiff, zzI, look_nil, Nat.reduceBEq, implies_true, evS_move, zz21, gr_v, zz26, evS_assign, hwk, zz6, Nat.reduceEqDiff, ↓reduceIte]
              refine ⟨l.length - (k + 1), _, by omega, le_SK id [] rfl (l' := [(1, .d (ints l)), (5, .d (ints (splitV t l))), (7, .d (iv ((i : Nat) : Int))), (8, .d (iv (((k + 1) : Nat) : Int)))]) (m' := []) ?_ ?_ ?_ ?_, (k + 1), by omega, by omega, rfl, rfl⟩
              · simp only [leV, look_cons, Nat.reduceBEq, cond_true, cond_false, hwk]; exact ⟨(by first | exact VLe.still rfl | exact VLe.nil_ (by decide) | exact VLe.nild_ | exact VLe.refl _ | exact VLe.ptrE (by simp) (by rfl) | exact VLe.refE (by simp) (by rfl) (by first | rfl | (simp; done) | (simp; omega)) | exact VLe.dE (by first | rfl | simp)), (by first | exact VLe.still rfl | exact VLe.nil_ (by decide) | exact VLe.nild_ | exact VLe.refl _ | exact VLe.ptrE (by simp) (by rfl) | exact VLe.refE (by simp) (by rfl) (by first | rfl | (simp; done) | (simp; omega)) | exact VLe.dE (by first | rfl | simp)), (by first | exact VLe.still rfl | exact VLe.nil_ (by decide) | exact VLe.nild_ | exact VLe.refl _ | exact VLe.ptrE (by simp) (by rfl) | exact VLe.refE (by simp) (by rfl) (by first | rfl | (simp; done) | (simp; omega)) | exact VLe.dE (by first | rfl | simp)), (by first | exact VLe.still rfl | exact VLe.nil_ (by decide) | exact VLe.nild_ | exact VLe.refl _ | exact VLe.ptrE (by simp) (by rfl) | exact VLe.refE (by simp) (by rfl) (by first | rfl | (simp; done) | (simp; omega)) | exact VLe.dE (by first | rfl | simp)), trivial⟩
              · exact trivial
              · simp [wfV, AV.ids, AV.idsL, lookR, grow]
              · simp [wfR]
          · intro hb
            clear hb
            refine awp_exit ?_
            simp only [zz6, Nat.reduceEqDiff, ↓reduceIte]
            refine hK2 _ ?_; try clear hK2 K2
            refine awp_keepL [1, 5, 7] ?_
            simp only [zz20, zzI, look_nil, Nat.reduceBEq]
            refine awp_plain F_mixed [some 31, some 32, some 7] rfl ?_
            simp only [List.nil_append, List.cons_append, true_and, and_true, zz0, true_implies, Nat.reduceLT, Nat.reduceLeDiff, zzI, look_nil, Nat.reduceBEq, implies_true, evS_move, zz21, gr_v, zz26, evS_assign, hwi, zz6, Nat.reduceEqDiff, ↓reduceIte]
            refine ⟨l.length - (i + 1), _, by omega, le_SK id [] rfl (l' := [(1, .d (ints l)), (5, .d (ints (splitV t l))), (7, .d (iv (((i + 1) : Nat) : Int)))]) (m' := []) ?_ ?_ ?_ ?_, (i + 1), by omega, rfl, rfl⟩
            · simp only [leV, look_cons, Nat.reduceBEq, cond_true, cond_false, hwi]; exact ⟨(by first | exact VLe.still rfl | exact VLe.nil_ (by decide) | exact VLe.nild_ | exact VLe.refl _ | exact VLe.ptrE (by simp) (by rfl) | exact VLe.refE (by simp) (by rfl) (by first | rfl | (simp; done) | (simp; omega)) | exact VLe.dE (by first | rfl | simp)), (by first | exact VLe.still rfl | exact VLe.nil_ (by decide) | exact VLe.nild_ | exact VLe.refl _ | exact VLe.ptrE (by simp) (by rfl) | exact VLe.refE (by simp) (by rfl) (by first | rfl | (simp; done) | (simp; omega)) | exact VLe.dE (by first | rfl | simp)), (by first | exact VLe.still rfl | exact VLe.nil_ (by decide) | exact VLe.nild_ | exact VLe.refl _ | exact VLe.ptrE (by simp) (by rfl) | exact VLe.refE (by simp) (by rfl) (by first | rfl | (simp; done) | (simp; omega)) | exact VLe.dE (by first | rfl | simp)), trivial⟩
            · exact trivial
            · simp [wfV, AV.ids, AV.idsL, lookR, grow]
            · simp [wfR]
        · intro hb
          clear hb
          refine awp_exit ?_
          simp only [zz6, Nat.reduceEqDiff, ↓reduceIte]
          refine hK0 _ ?_; try clear hK0 K0
          refine awp_keepL [] ?_
          simp only [zz20, zzI, look_nil, Nat.reduceBEq]
          refine awp_seq fun K0 hK0 => ?_
          refine awp_plain F_mixed [some 117, some 4] rfl ?_
          simp only [List.nil_append, List.cons_append, true_and, and_true, zz0, true_implies, Nat.reduceLT, Nat.reduceLeDiff, zzI, look_nil, Nat.reduceBEq, implies_true, evS_call, evC_value, evS_assign, zz6, Nat.reduceEqDiff, ↓reduceIte]
          refine call_go F_go14 (fun hG => wakes03_) (by simp [AV.ids, AV.idsL]) (by simp) ?_
          simp only [List.nil_append, List.cons_append, true_and, and_true, zz0, true_implies, Nat.reduceLT, Nat.reduceLeDiff, zzI, look_nil, Nat.reduceBEq, implies_true, evS_call, evC_value, evS_assign, zz6, Nat.reduceEqDiff, ↓reduceIte, atsL, oksG, freeN, AV.ren, AV.renL, addRows, ORow.row, Nat.reduceMul, Nat.reduceAdd, zz9, Option.bind_some, Option.map_some, forall_eq', D.sl.injEq, zz16, Option.some.injEq, exists_eq_left', exists_eq_left, exists_eq', exists_eq, zzD, zz2]
          refine hK0 _ ?_; try clear hK0 K0
          refine awp_keepL [4] ?_
          simp only [zz20, zzI, look_nil, Nat.reduceBEq]
          refine awp_ret ?_
          simp only [zz6, Nat.reduceEqDiff, ↓reduceIte]
          refine done0 (by simp only [resCs, resC]; trivial) ?_ (by simp [flatA, flatAs, flatD]) (by simp [AV.ids, AV.idsL])
          simp only [List.map_cons, List.map_nil, resA, S_getD, Nat.reduceLT, Nat.reduceLeDiff, look_cons, Nat.reduceBEq, cond_true, cond_false, resAll]
          
set_option maxRecDepth 100000 in
set_option maxHeartbeats 4000000 in
theorem shareScales_ (t : Int) (l : List Int) (k : Int) : ACalls Try.prog 5 [iv t, ints l, iv k] [] (bv true) := by
  refine acalls_S (rs := [.tmp 6]) Try.func5 rfl rfl 70 [(0, .d (iv t)), (1, .d (ints l)), (2, .d (iv k))] rfl (by simp) rfl ?_
  refine awp_seq fun K0 hK0 => ?_
  refine awp_plain F_mixed [some 6] rfl ?_
  simp only [List.nil_append, List.cons_append, true_and, and_true, zz0, true_implies, Nat.reduceLT, Nat.reduceLeDiff, zzI, look_nil, Nat.reduceBEq, implies_true, evS_assign, zz6, Nat.reduceEqDiff, ↓reduceIte]
  refine hK0 _ ?_; try clear hK0 K0
  refine awp_keepL [0, 1, 2] ?_
  simp only [zz20, zzI, look_nil, Nat.reduceBEq]
  refine awp_seq fun K0 hK0 => ?_
  refine awp_seq fun K1 hK1 => ?_
  refine awp_plain F_mixed [some 13, some 14, some 15, some 16, some 17, some 18, some 19, some 20, some 21, some 22, some 23, some 24] rfl ?_
  simp only [List.nil_append, List.cons_append, true_and, and_true, zz0, true_implies, Nat.reduceLT, Nat.reduceLeDiff, zzI, look_nil, Nat.reduceBEq, implies_true, Nat.reduceSub, S_getD, zz5, and_imp, imp_and, imp_self, and_self, evS_move, evS_call, evC_value, zz29, gr_v, zz30, zz21, zz22, zz13, pickK_l, pickK_r, zz25, zz6, Nat.reduceEqDiff, ↓reduceIte]
  refine call_go F_go10 (fun hG => may_ t l) (by simp [AV.ids, AV.idsL]) (by simp) ?_
  simp only [List.nil_append, List.cons_append, true_and, and_true, zz0, true_implies, Nat.reduceLT, Nat.reduceLeDiff, zzI, look_nil, Nat.reduceBEq, implies_true, Nat.reduceSub, S_getD, zz5, and_imp, imp_and, imp_self, and_self, evS_move, evS_call, evC_value, zz29, gr_v, zz30, zz21, zz22, zz13, pickK_l, pickK_r, zz25, zz6, Nat.reduceEqDiff, ↓reduceIte, atsL, oksG, freeN, AV.ren, AV.renL, addRows, ORow.row, Nat.reduceMul, Nat.reduceAdd, zz9, Option.bind_some, Option.map_some, forall_eq', D.sl.injEq, zz16, Option.some.injEq, exists_eq_left', exists_eq_left, exists_eq', exists_eq, zzD, zz2]
  refine hK1 _ ?_; try clear hK1 K1
  refine awp_keepL [0, 1, 2, 24] ?_
  simp only [zz20, zzI, look_nil, Nat.reduceBEq]
  refine awp_condS _ (by decide) (by simp only [look_cons, Nat.reduceBEq, cond_true, cond_false]; rfl) ?_ ?_
  · intro hb
    clear hb
    refine awp_seq fun K2 hK2 => ?_
    refine awp_plain F_mixed [some 6] rfl ?_
    simp only [List.nil_append, List.cons_append, true_and, and_true, zz0, true_implies, Nat.reduceLT, Nat.reduceLeDiff, zzI, look_nil, Nat.reduceBEq, implies_true, evS_assign, zz6, Nat.reduceEqDiff, ↓reduceIte]
    refine hK2 _ ?_; try clear hK2 K2
    refine awp_keepL [6] ?_
    simp only [zz20, zzI, look_nil, Nat.reduceBEq]
    refine awp_ret ?_
    simp only [zz6, Nat.reduceEqDiff, ↓reduceIte]
    refine done0 (by simp only [resCs, resC]; trivial) ?_ (by simp [flatA, flatAs, flatD]) (by simp [AV.ids, AV.idsL])
    simp only [List.map_cons, List.map_nil, resA, S_getD, Nat.reduceLT, Nat.reduceLeDiff, look_cons, Nat.reduceBEq, cond_true, cond_false, resAll]
    
  · intro hb
    simp only [Bool.or_eq_false_iff, Bool.not_eq_false', decide_eq_false_iff_not] at hb
    obtain ⟨⟨hm, hk1⟩, hk2⟩ := hb
    obtain ⟨n, rfl⟩ : ∃ n : Nat, k = (n : Int) := ⟨k.toNat, by omega⟩
    have hn1 : 0 < n := by omega
    have hn2 : n ≤ 1000 := by omega
    have hM := may_ok hm
    have hs := sRE_may hM
    have hl2 := hM.2.2
    
    refine awp_skip ?_
    simp only [zz6, Nat.reduceEqDiff, ↓reduceIte]
    refine hK0 _ ?_; try clear hK0 K0
    refine awp_keepL [0, 1, 2] ?_
    simp only [zz20, zzI, look_nil, Nat.reduceBEq]
    refine awp_seq fun K0 hK0 => ?_
    refine awp_plain F_mixed [some 25, some 26, some 7] rfl ?_
    simp only [List.nil_append, List.cons_append, true_and, and_true, zz0, true_implies, Nat.reduceLT, Nat.reduceLeDiff, zzI, look_nil, Nat.reduceBEq, implies_true, evS_move, evS_call, evC_value, evS_assign, zz6, Nat.reduceEqDiff, ↓reduceIte]
    refine call_go F_go18 (fun hG => twinInts_ l (by omega)) (by simp [AV.ids, AV.idsL]) (by simp) ?_
    simp only [List.nil_append, List.cons_append, true_and, and_true, zz0, true_implies, Nat.reduceLT, Nat.reduceLeDiff, zzI, look_nil, Nat.reduceBEq, implies_true, evS_move, evS_call, evC_value, evS_assign, zz6, Nat.reduceEqDiff, ↓reduceIte, atsL, oksG, freeN, AV.ren, AV.renL, addRows, ORow.row, Nat.reduceMul, Nat.reduceAdd, zz9, Option.bind_some, Option.map_some, forall_eq', D.sl.injEq, zz16, Option.some.injEq, exists_eq_left', exists_eq_left, exists_eq', exists_eq, zzD, zz2]
    refine hK0 _ ?_; try clear hK0 K0
    refine awp_keepL [0, 1, 2, 7] ?_
    simp only [zz20, zzI, look_nil, Nat.reduceBEq]
    refine awp_seq fun K0 hK0 => ?_
    refine awp_seq fun K1 hK1 => ?_
    refine awp_plain F_mixed [some 8] rfl ?_
    simp only [List.nil_append, List.cons_append, true_and, and_true, zz0, true_implies, Nat.reduceLT, Nat.reduceLeDiff, zzI, look_nil, Nat.reduceBEq, implies_true, evS_assign, zz6, Nat.reduceEqDiff, ↓reduceIte]
    refine hK1 _ ?_; try clear hK1 K1
    refine awp_keepL [0, 1, 2, 7, 8] ?_
    simp only [zz20, zzI, look_nil, Nat.reduceBEq]
    refine awp_block ?_
    refine awp_loop (fun m s => ∃ (A : List Int) (pre : List Int) (post : List Int), (l = pre ++ post) ∧ (A = pre.map fun w => w * (n : Int)) ∧ (∀ x ∈ pre, x ≤ 1125899906842624) ∧ m = post.length ∧ s = S 70 [(0, .d (iv t)), (1, .d (ints l)), (2, .d (iv (n : Int))), (7, .ref 27000 (A ++ post).length), (8, .d (iv A.length))] [(27000, (⟨True, 3, 1, true, true, 27000, ((A ++ post).map fun n => [iv n]).map (·.map .d)⟩ : ARow))]) (l.length) _ (le_SK id [] rfl (l' := [(0, .d (iv t)), (1, .d (ints l)), (2, .d (iv (n : Int))), (7, .ref 27000 (([] : List Int) ++ l).length), (8, .d (iv ([] : List Int).length))]) (m' := [(27000, (⟨True, 3, 1, true, true, 27000, ((([] : List Int) ++ l).map fun n => [iv n]).map (·.map .d)⟩ : ARow))]) ?_ ?_ ?_ ?_) ⟨([] : List Int), ([] : List Int), l, rfl, rfl, by simp, rfl, rfl⟩ ?_
    · simp only [leV, look_cons, Nat.reduceBEq, cond_true, cond_false]; exact ⟨(by first | exact VLe.still rfl | exact VLe.nil_ (by decide) | exact VLe.nild_ | exact VLe.refl _ | exact VLe.ptrE (by simp) (by rfl) | exact VLe.refE (by simp) (by rfl) (by first | rfl | (simp; done) | (simp; omega)) | exact VLe.dE (by first | rfl | simp)), (by first | exact VLe.still rfl | exact VLe.nil_ (by decide) | exact VLe.nild_ | exact VLe.refl _ | exact VLe.ptrE (by simp) (by rfl) | exact VLe.refE (by simp) (by rfl) (by first | rfl | (simp; done) | (simp; omega)) | exact VLe.dE (by first | rfl | simp)), (by first | exact VLe.still rfl | exact VLe.nil_ (by decide) | exact VLe.nild_ | exact VLe.refl _ | exact VLe.ptrE (by simp) (by rfl) | exact VLe.refE (by simp) (by rfl) (by first | rfl | (simp; done) | (simp; omega)) | exact VLe.dE (by first | rfl | simp)), (by first | exact VLe.still rfl | exact VLe.nil_ (by decide) | exact VLe.nild_ | exact VLe.refl _ | exact VLe.ptrE (by simp) (by rfl) | exact VLe.refE (by simp) (by rfl) (by first | rfl | (simp; done) | (simp; omega)) | exact VLe.dE (by first | rfl | simp)), (by first | exact VLe.still rfl | exact VLe.nil_ (by decide) | exact VLe.nild_ | exact VLe.refl _ | exact VLe.ptrE (by simp) (by rfl) | exact VLe.refE (by simp) (by rfl) (by first | rfl | (simp; done) | (simp; omega)) | exact VLe.dE (by first | rfl | simp)), trivial⟩
    · exact ⟨fun _ => ⟨_, rfl, (by first | exact RowLe.data_ (by first | rfl | simp) | exact RowLe.uq2 (by first | rfl | simp) (by simp) ids_data | exact RowLe.still (by simp [AV.idsL, AV.ids]) | exact RowLe.same (by simp) (by simp [AV.idsL, AV.ids]))⟩, fun h => by simp at h, trivial⟩
    · simp [wfV, AV.ids, AV.idsL, lookR, grow]
    · exact ⟨wf_data _ _, trivial⟩
    rintro m s ⟨A, pre, post, hsp, hA, hpx, rfl, rfl⟩
    have hspl := congrArg List.length hsp
    simp only [List.length_append] at hspl
    have hAl : A.length = pre.length := by rw [hA]; simp
    refine awp_seq fun K2 hK2 => ?_
    refine awp_seq fun K3 hK3 => ?_
    refine awp_plain F_mixed [some 27, some 28, some 29, some 30] rfl ?_
    simp only [List.nil_append, List.cons_append, true_and, and_true, zz0, true_implies, Nat.reduceLT, Nat.reduceLeDiff, zzI, look_nil, Nat.reduceBEq, implies_true, evS_move, evS_call, zz12, F_sl22, Option.isSome_some, zz21, gr_v, zz22, len_map, zz6, Nat.reduceEqDiff, ↓reduceIte]
    refine hK3 _ ?_; try clear hK3 K3
    refine awp_keepL [0, 1, 2, 7, 8, 30] ?_
    simp only [zz20, zzI, look_nil, Nat.reduceBEq]
    refine awp_condS _ (by decide) (by simp only [look_cons, Nat.reduceBEq, cond_true, cond_false]; rfl) ?_ ?_
    · intro hb
      obtain ⟨x, post2, rfl⟩ : ∃ x q, post = x :: q := by
        cases post with
        | nil => have := of_decide_eq_true hb; simp at this
        | cons x q => exact ⟨x, q, rfl⟩
      clear hb
      simp only [List.length_cons] at hspl
      have hwx : IntKind.wrap .i64 ((A.length : Int) + 1) = ((A ++ [x * (n : Int)]).length : Int) := by rw [wrapI (by omega) (by omega)]; simp
      have hx0 := hM.2.1 x (by rw [hsp]; simp)
      have bA := ltI (show A.length < (A ++ x :: post2).length by simp)
      have cA := eq_true (show A.length < (A ++ x :: post2).length by simp)
      have bB := ltI (show A.length < (A ++ (x * (n : Int)) :: post2).length by simp)
      have cB := eq_true (show A.length < (A ++ (x * (n : Int)) :: post2).length by simp)
      have hle : (A ++ (x * (n : Int)) :: post2).length = (A ++ x :: post2).length := by simp
      refine awp_skip ?_
      simp only [zz6, Nat.reduceEqDiff, ↓reduceIte]
      refine hK2 _ ?_; try clear hK2 K2
      refine awp_keepL [0, 1, 2, 7, 8] ?_
      simp only [zz20, zzI, look_nil, Nat.reduceBEq]
      refine awp_seq fun K2 hK2 => ?_
      refine awp_block ?_
      refine awp_seq fun K3 hK3 => ?_
      refine awp_seq fun K4 hK4 => ?_
      refine awp_plain F_mixed [some 33, some 34, some 35, some 36, some 37] rfl ?_
      simp only [List.nil_append, List.cons_append, true_and, and_true, zz0, true_implies, Nat.reduceLT, Nat.reduceLeDiff, zzI, look_nil, Nat.reduceBEq, implies_true, evS_move, evS_indexAddr, zz23, zz24, F_sl22, F_sz3, Option.map_some, zz16, Option.some.injEq, exists_eq_left', exists_eq_left, eq_self, reduceCtorEq, and_self, F_ok3, F_ag3, zz8, zzD, Nat.reduceAdd, Nat.zero_add, zzF, zzB, zzE, zz21, gr_v, zz25, len_map, bA, cA, ats_get, ge0, Int.toNat_natCast, zz6, Nat.reduceEqDiff, ↓reduceIte]
      refine hK4 _ ?_; try clear hK4 K4
      refine awp_keepL [0, 1, 2, 7, 8, 37] ?_
      simp only [zz20, zzI, look_nil, Nat.reduceBEq]
      refine awp_condS _ (by decide) (by simp only [look_cons, Nat.reduceBEq, cond_true, cond_false]; rfl) ?_ ?_
      · intro hb
        clear hb
        refine awp_seq fun K5 hK5 => ?_
        refine awp_plain F_mixed [some 6] rfl ?_
        simp only [List.nil_append, List.cons_append, true_and, and_true, zz0, true_implies, Nat.reduceLT, Nat.reduceLeDiff, zzI, look_nil, Nat.reduceBEq, implies_true, evS_assign, zz6, Nat.reduceEqDiff, ↓reduceIte]
        refine hK5 _ ?_; try clear hK5 K5
        refine awp_keepL [6] ?_
        simp only [zz20, zzI, look_nil, Nat.reduceBEq]
        refine awp_ret ?_
        simp only [zz6, Nat.reduceEqDiff, ↓reduceIte]
        refine done0 (by simp only [resCs, resC]; trivial) ?_ (by simp [flatA, flatAs, flatD]) (by simp [AV.ids, AV.idsL])
        simp only [List.map_cons, List.map_nil, resA, S_getD, Nat.reduceLT, Nat.reduceLeDiff, look_cons, Nat.reduceBEq, cond_true, cond_false, resAll]
        
      · intro hb
        have hx5 : x ≤ 1125899906842624 := by have := of_decide_eq_false hb; omega
        clear hb
        have hmb := mul_bnd hx0.1 hx5 hn2
        have hwm : IntKind.wrap .i64 (x * (n : Int)) = x * (n : Int) := wrapI (by omega) (by omega)
        refine awp_skip ?_
        simp only [zz6, Nat.reduceEqDiff, ↓reduceIte]
        refine hK3 _ ?_; try clear hK3 K3
        refine awp_keepL [0, 1, 2, 7, 8] ?_
        simp only [zz20, zzI, look_nil, Nat.reduceBEq]
        refine awp_plain F_mixed [some 38, some 39, some 40, some 41, some 42, some 43, some 44, some 45, some 46, none] rfl ?_
        simp only [List.nil_append, List.cons_append, true_and, and_true, zz0, true_implies, Nat.reduceLT, Nat.reduceLeDiff, zzI, look_nil, Nat.reduceBEq, implies_true, evS_move, evS_indexAddr, zz23, zz24, F_sl22, F_sz3, Option.map_some, zz16, Option.some.injEq, exists_eq_left', exists_eq_left, eq_self, reduceCtorEq, and_self, F_ok3, F_ag3, zz8, zzD, Nat.reduceAdd, Nat.zero_add, zzF, zzB, zzE, zz21, gr_v, zz36, zz18, splice, List.append_nil, zz1, zzG, len_map, bA, cA, ats_get, ats_set, hwm, ge0, Int.toNat_natCast, zz6, Nat.reduceEqDiff, ↓reduceIte]
        refine hK2 _ ?_; try clear hK2 K2
        refine awp_keepL [0, 1, 2, 7, 8] ?_
        simp only [zz20, zzI, look_nil, Nat.reduceBEq]
        refine awp_plain F_mixed [some 31, some 32, some 8] rfl ?_
        simp only [List.nil_append, List.cons_append, true_and, and_true, zz0, true_implies, Nat.reduceLT, Nat.reduceLeDiff, zzI, look_nil, Nat.reduceBEq, implies_true, evS_move, zz21, gr_v, zz26, evS_assign, hwx, zz6, Nat.reduceEqDiff, ↓reduceIte]
        refine ⟨post2.length, _, by simp, le_SK id [] rfl (l' := [(0, .d (iv t)), (1, .d (ints l)), (2, .d (iv (n : Int))), (7, .ref 27000 ((A ++ [x * (n : Int)]) ++ post2).length), (8, .d (iv (A ++ [x * (n : Int)]).length))]) (m' := [(27000, (⟨True, 3, 1, true, true, 27000, (((A ++ [x * (n : Int)]) ++ post2).map fun n => [iv n]).map (·.map .d)⟩ : ARow))]) ?_ ?_ ?_ ?_, (A ++ [x * (n : Int)]), (pre ++ [x]), post2, by simp [hsp], by simp [hA], by intro y hy; rcases List.mem_append.1 hy with hy | hy; exact hpx y hy; rw [List.mem_singleton.1 hy]; exact hx5, rfl, rfl⟩
        · simp only [leV, look_cons, Nat.reduceBEq, cond_true, cond_false, hwx]; exact ⟨(by first | exact VLe.still rfl | exact VLe.nil_ (by decide) | exact VLe.nild_ | exact VLe.refl _ | exact VLe.ptrE (by simp) (by rfl) | exact VLe.refE (by simp) (by rfl) (by first | rfl | (simp; done) | (simp; omega)) | exact VLe.dE (by first | rfl | simp)), (by first | exact VLe.still rfl | exact VLe.nil_ (by decide) | exact VLe.nild_ | exact VLe.refl _ | exact VLe.ptrE (by simp) (by rfl) | exact VLe.refE (by simp) (by rfl) (by first | rfl | (simp; done) | (simp; omega)) | exact VLe.dE (by first | rfl | simp)), (by first | exact VLe.still rfl | exact VLe.nil_ (by decide) | exact VLe.nild_ | exact VLe.refl _ | exact VLe.ptrE (by simp) (by rfl) | exact VLe.refE (by simp) (by rfl) (by first | rfl | (simp; done) | (simp; omega)) | exact VLe.dE (by first | rfl | simp)), (VLe.refE (by simp) (by rfl) (by simp)), (by first | exact VLe.still rfl | exact VLe.nil_ (by decide) | exact VLe.nild_ | exact VLe.refl _ | exact VLe.ptrE (by simp) (by rfl) | exact VLe.refE (by simp) (by rfl) (by first | rfl | (simp; done) | (simp; omega)) | exact VLe.dE (by first | rfl | simp)), trivial⟩
        · exact ⟨fun _ => ⟨_, rfl, RowLe.same (by simp) ids_data⟩, fun h => by simp at h, trivial⟩
        · simp [wfV, AV.ids, AV.idsL, lookR, grow]
        · exact ⟨wf_data _ _, trivial⟩
    · intro hb
      obtain rfl : post = [] := by
        cases post with
        | nil => rfl
        | cons x q => have := of_decide_eq_false hb; simp at this; omega
      clear hb
      simp only [List.append_nil] at hsp ⊢
      subst hsp
      subst hA
      have hM2 := scl_all hn1 hn2 hM hpx
      obtain ⟨hv2, he2⟩ := split_mul hn1 hs (sRE_may hM2)
      have hvl := splitV_le hs
      refine awp_exit ?_
      simp only [zz6, Nat.reduceEqDiff, ↓reduceIte]
      refine hK0 _ ?_; try clear hK0 K0
      refine awp_keepL [0, 1, 7] ?_
      simp only [zz20, zzI, look_nil, Nat.reduceBEq]
      refine awp_seq fun K0 hK0 => ?_
      refine awp_plain F_mixed [some 48, some 49, some 50, some 47, some 51, some 52, some 9, some 10] rfl ?_
      simp only [List.nil_append, List.cons_append, true_and, and_true, zz0, true_implies, Nat.reduceLT, Nat.reduceLeDiff, zzI, look_nil, Nat.reduceBEq, implies_true, evS_move, evS_call, evC_value, zz14, zzD, Nat.reduceAdd, Nat.zero_add, zzF, evS_assign, ints, len_map, zz6, Nat.reduceEqDiff, ↓reduceIte]
      refine call_go F_go11 (fun hG => splitF t l (by omega)) (by simp [AV.ids, AV.idsL]) (by simp) ?_
      simp only [List.nil_append, List.cons_append, true_and, and_true, zz0, true_implies, Nat.reduceLT, Nat.reduceLeDiff, zzI, look_nil, Nat.reduceBEq, implies_true, evS_move, evS_call, evC_value, zz14, zzD, Nat.reduceAdd, Nat.zero_add, zzF, evS_assign, ints, len_map, zz6, Nat.reduceEqDiff, ↓reduceIte, atsL, oksG, freeN, AV.ren, AV.renL, addRows, ORow.row, Nat.reduceMul, Nat.reduceAdd, zz9, Option.bind_some, Option.map_some, forall_eq', D.sl.injEq, zz16, Option.some.injEq, exists_eq_left', exists_eq_left, exists_eq', exists_eq, List.length_cons, zz2]
      refine hK0 _ ?_; try clear hK0 K0
      refine awp_keepL [0, 7, 9, 10] ?_
      simp only [zz20, zzI, look_nil, Nat.reduceBEq]
      refine awp_seq fun K0 hK0 => ?_
      refine awp_plain F_mixed [some 54, some 55, some 56, some 53, some 57, some 58, some 11, some 12] rfl ?_
      simp only [List.nil_append, List.cons_append, true_and, and_true, zz0, true_implies, Nat.reduceLT, Nat.reduceLeDiff, zzI, look_nil, Nat.reduceBEq, implies_true, evS_move, evS_call, evC_value, zz14, zzD, Nat.reduceAdd, Nat.zero_add, zzF, evS_assign, ints, len_map, hv2, he2, zz6, Nat.reduceEqDiff, ↓reduceIte]
      refine call_go F_go11 (fun hG => splitF t (l.map fun w => w * (n : Int)) (by simp; omega)) (by simp [AV.ids, AV.idsL]) (by simp) ?_
      simp only [List.nil_append, List.cons_append, true_and, and_true, zz0, true_implies, Nat.reduceLT, Nat.reduceLeDiff, zzI, look_nil, Nat.reduceBEq, implies_true, evS_move, evS_call, evC_value, zz14, zzD, Nat.reduceAdd, Nat.zero_add, zzF, evS_assign, ints, len_map, hv2, he2, zz6, Nat.reduceEqDiff, ↓reduceIte, atsL, oksG, freeN, AV.ren, AV.renL, addRows, ORow.row, Nat.reduceMul, Nat.reduceAdd, zz9, Option.bind_some, Option.map_some, forall_eq', D.sl.injEq, zz16, Option.some.injEq, exists_eq_left', exists_eq_left, exists_eq', exists_eq, List.length_cons, zz2]
      refine hK0 _ ?_; try clear hK0 K0
      refine awp_keepL [9, 10, 11, 12] ?_
      simp only [zz20, zzI, look_nil, Nat.reduceBEq]
      refine awp_seq fun K0 hK0 => ?_
      refine awp_plain F_mixed [some 59, some 60, some 61, some 62, some 63, some 64, some 65, some 66, some 67, some 68, some 69, some 6] rfl ?_
      simp only [List.nil_append, List.cons_append, true_and, and_true, zz0, true_implies, Nat.reduceLT, Nat.reduceLeDiff, zzI, look_nil, Nat.reduceBEq, implies_true, Nat.reduceSub, S_getD, zz5, and_imp, imp_and, imp_self, and_self, evS_move, zz21, gr_v, zz34, evS_call, evC_value, zz13, pickK_l, pickK_r, evS_assign, ints, hv2, he2, beq_self_eq_true, zz6, Nat.reduceEqDiff, ↓reduceIte]
      refine call_go F_go19 (fun hG => kInts_ (splitV t l) (by omega)) (by simp [AV.ids, AV.idsL]) (by simp) ?_
      simp only [List.nil_append, List.cons_append, true_and, and_true, zz0, true_implies, Nat.reduceLT, Nat.reduceLeDiff, zzI, look_nil, Nat.reduceBEq, implies_true, Nat.reduceSub, S_getD, zz5, and_imp, imp_and, imp_self, and_self, evS_move, zz21, gr_v, zz34, evS_call, evC_value, zz13, pickK_l, pickK_r, evS_assign, ints, hv2, he2, beq_self_eq_true, zz6, Nat.reduceEqDiff, ↓reduceIte, atsL, oksG, freeN, AV.ren, AV.renL, addRows, ORow.row, Nat.reduceMul, Nat.reduceAdd, zz9, Option.bind_some, Option.map_some, forall_eq', D.sl.injEq, zz16, Option.some.injEq, exists_eq_left', exists_eq_left, exists_eq', exists_eq, zzD, zz2]
      refine call_go F_go14 (fun hG => wakes03_) (by simp [AV.ids, AV.idsL]) (by simp) ?_
      simp only [List.nil_append, List.cons_append, true_and, and_true, zz0, true_implies, Nat.reduceLT, Nat.reduceLeDiff, zzI, look_nil, Nat.reduceBEq, implies_true, Nat.reduceSub, S_getD, zz5, and_imp, imp_and, imp_self, and_self, evS_move, zz21, gr_v, zz34, evS_call, evC_value, zz13, pickK_l, pickK_r, evS_assign, ints, hv2, he2, beq_self_eq_true, zz6, Nat.reduceEqDiff, ↓reduceIte, atsL, oksG, freeN, AV.ren, AV.renL, addRows, ORow.row, Nat.reduceMul, Nat.reduceAdd, zz9, Option.bind_some, Option.map_some, forall_eq', D.sl.injEq, zz16, Option.some.injEq, exists_eq_left', exists_eq_left, exists_eq', exists_eq, zzD, zz2]
      refine hK0 _ ?_; try clear hK0 K0
      refine awp_keepL [6] ?_
      simp only [zz20, zzI, look_nil, Nat.reduceBEq]
      refine awp_ret ?_
      simp only [zz6, Nat.reduceEqDiff, ↓reduceIte]
      refine done0 (by simp only [resCs, resC]; trivial) ?_ (by simp [flatA, flatAs, flatD]) (by simp [AV.ids, AV.idsL])
      simp only [List.map_cons, List.map_nil, resA, S_getD, Nat.reduceLT, Nat.reduceLeDiff, look_cons, Nat.reduceBEq, cond_true, cond_false, resAll]
      try simp
end Go.Proofs.Ytfpicdhfoflcgaa
