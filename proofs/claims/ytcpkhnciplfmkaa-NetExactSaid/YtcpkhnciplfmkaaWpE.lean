import Derived.Test.YtcpkhnciplfmkaaWpD
namespace Go.Proofs.Ytcpkhnciplfmkaa
open Go.RowKit
set_option linter.unusedVariables false
set_option linter.unusedSimpArgs false
open Option renaming map_some → QA, bind_some → QB
open List renaming length_append → QC, map_cons → QD, map_nil → QE, append_nil → QG, drop_zero → QH, getD_cons_zero → QI, getD_cons_succ → QJ, take_succ_cons → QK, drop_succ_cons → QL, length_singleton → QM
open Nat renaming reduceEqDiff → QO, reduceLeDiff → QP, reduceBEq → QQ, reduceLT → QR, reduceAdd → QS, reduceMul → QT
open AV renaming idsL → QX, ids → QY, ren → QZ, renL → Qa
open _root_ renaming reduceIte → Qb, cond_false → Qc, cond_true → Qd, of_decide_eq_false → Qf, of_decide_eq_true → Qg
open IntKind renaming wrap → Ql
open ORow renaming row → Qm
open VLe renaming refl → Qn
open RowLe renaming same → Qu
open Go.Proofs.Ytcpkhnciplfmkaa renaming awp_plain → Qz, awp_seq → JA, evS_assign → JB, evS_move → JC, look_cons → JD, evS_call → JE, evC_value → JF, awp_block → JH, awp_skip → JI, gr_v → JM, addRows → JO, aV_ids → JU
theorem F_go59 : goFn Try.prog 59 := ⟨_, Try.func59, rfl, rfl⟩
theorem F_go43 : goFn Try.prog 43 := ⟨_, Try.func43, rfl, rfl⟩
set_option maxRecDepth 100000 in
set_option maxHeartbeats 4000000 in
theorem sDue_stable {cf : FuncId} {cs : List D} {c : List D → List D → Int} {Pd : List D → Prop} (h : SC Try.prog cf cs c Pd 3) (M : List (List D)) (hM : okM Pd M) (hN : M.length ≤ 1000000) (n : Nat) (hn : n = M.length) : MCalls Try.prog 43 [.m 0, .d (iv n), .d (.fn cf cs)] [⟨30, 3, M⟩] [⟨30, 3, isort (ltc c) M⟩] [] (.tp []) := by
 refine mcalls_S (rs := []) Try.func43 rfl rfl 63 [(0, .ref 1000000000 (M).length), (1, .d (iv n)), (2, .d (.fn cf cs))] [(1000000000, (⟨True, 30, 3, true, false, 1000000000, (M).map (·.map .d)⟩ : ARow))] rfl (by simp) (by rfl) (by rfl) (by rfl) (by rfl) (by rfl) ?_
 subst hn
 change AWp _ _ _ (S _ _ [(1000000000, (⟨True, 30, 3, true, false, 1000000000, aV (M)⟩ : ARow))])
 refine JA fun K0 hK0 => ?_
 refine Qz F_mixed [some 6] rfl ?_
 simp only [zzK, QR, QP, QQ, JB, zz6, QO, ↓Qb]
 refine hK0 _ ?_; try clear hK0 K0
 refine kpA [0, 1, 2, 6] ?_
 refine JA fun K0 hK0 => ?_
 refine Qz F_mixed [some 10, some 7, some 8] rfl ?_
 simp only [zzK, QR, QP, QQ, JC, JB, zz6, QO, ↓Qb]
 refine hK0 _ ?_; try clear hK0 K0
 refine kpA [0, 1, 2, 6, 7, 8] ?_
 refine JA fun K0 hK0 => ?_
 refine JH ?_
 refine awp_loop (fun mm s => ∃ A B A2 : List (List D), M = A ++ B ∧ A2.length = A.length ∧ okM Pd (A2 ++ B) ∧ (∀ Y, Chk (ltc c) 20 B Y → Chk (ltc c) 20 M (A2 ++ Y)) ∧ mm = B.length ∧ s = S 63 [(0, .ref 1000000000 M.length), (1, .d (iv M.length)), (2, .d (.fn cf cs)), (6, .d (iv 20)), (7, .d (iv (A2).length)), (8, .d (iv ((A2).length + 20 : Nat)))] [(1000000000, (⟨True, 30, 3, true, false, 1000000000, aV ((A2 ++ B))⟩ : ARow))]) M.length _ (le_SK id [] rfl (l' := [(0, .ref 1000000000 M.length), (1, .d (iv M.length)), (2, .d (.fn cf cs)), (6, .d (iv 20)), (7, .d (iv (([] : List (List D))).length)), (8, .d (iv ((([] : List (List D))).length + 20 : Nat)))]) (m' := [(1000000000, (⟨True, 30, 3, true, false, 1000000000, aV ((([] : List (List D)) ++ M))⟩ : ARow))]) ?_ ?_ ?_ ?_) ⟨[], M, [], rfl, rfl, hM, fun Y h => h, rfl, rfl⟩ ?_
 ·simp only [leV, JD, QQ, Qd, Qc]; exact ⟨Qn _, Qn _, Qn _, Qn _, Qn _, Qn _, trivial⟩
 ·exact ⟨fun _ => ⟨_, rfl, Qu rfl (JU _)⟩, fun h => by simp at h, trivial⟩
 ·simp [wfV, QY, lookR]
 ·exact ⟨fun e he r' hr' => by rw [JU _ e he] at hr'; simp at hr', trivial⟩
 rintro mm s ⟨A, B, A2, hAB, hA2, hok, hK, rfl, rfl⟩
 have hlM := congrArg List.length hAB
 simp only [QC] at hlM
 refine JA fun K2 hK2 => ?_
 refine JA fun K3 hK3 => ?_
 refine Qz F_mixed [some 11, some 12, some 13] rfl ?_
 simp only [zzK, QR, QP, QQ, JC, zz21, JM, b_leq, pure_leq, zz6, QO, ↓Qb]
 refine hK3 _ ?_; try clear hK3 K3
 refine kpA [0, 1, 2, 6, 7, 8, 13] ?_
 refine cnA ?_ ?_
 ·intro hb
  have hge : 20 ≤ B.length := by have := Qg hb; omega
  clear hb
  obtain ⟨C, B2, rfl, hC⟩ := split_at B 20 hge
  simp only [QC] at hlM
  have hlC : (A2 ++ isort (ltc c) C).length = A2.length + 20 := by simp only [QC, isort_len]; omega
  have hw8 : Ql .i64 (((A2.length + 20 : Nat) : Int) + 20) = ((A2.length + 20 + 20 : Nat) : Int) := by rw [wrapI (by omega) (by omega)]; omega
  have hN2 : (A2 ++ (C ++ B2)).length ≤ 1000000 := by simp only [QC]; omega
  have hl2 : (A2 ++ (C ++ B2)).length = M.length := by simp only [QC]; omega
  have hof : okM Pd (A2 ++ (isort (ltc c) C ++ B2)) := by
   simp only [okM_app] at hok ⊢
   exact ⟨hok.1, okM_isort hok.2.1, hok.2.2⟩
  refine JI ?_
  simp only [zz6, QO, ↓Qb]
  refine hK2 _ ?_; try clear hK2 K2
  refine kpA [0, 1, 2, 6, 7, 8] ?_
  refine JH ?_
  refine JA fun K2 hK2 => ?_
  refine awp_mut [some 14, some 15, some 16, some 17, some 18] rfl 4 rfl ?_
  simp only [zzK, QR, QP, QQ, JC, JE, JF, aV, hl2, zzB, zz6, QO, ↓Qb]
  refine mut_go [1000000000] F_go59 (sDue_ins h A2 C B2 hok hN2 A2.length (A2.length + 20) rfl (by omega)) (by simp [QY, QX]) (by decide) (by first | exact ⟨by decide, by simp⟩ | rfl) ?_
  simp only [zzK, QR, QP, QQ, JC, JE, JF, aV, hl2, zzB, zz6, QO, ↓Qb, mArgs_nil, asE_cl, asF_cl, asD_ptr, asG_ptr, asD_ep, asG_ep, List.mem_singleton, forall_eq, asEc_cons, asEc_nil, mArgs_d, mArgs_m, mRows_nil, mRows_cons, mNewL, nxM, mBase, mName, oksL, List.getElem?_cons_zero, List.getElem?_cons_succ, zzF, asE_ag, asE_d, asE_ref, asEc_cons, asEc_nil, asF_d, asF_ref, asF_ag, asGs, QY, QX, QM, List.not_mem_nil, false_implies, forall_const, atsL, asD_self, asD_nil, asD_sl, asD_agg, asD_int, asD_bool, asD_func, asD_ag, asD_ref, asG_d, asG_ag, asG_ref, freeN, QZ, Qa, JO, Qm, QT, QS, zz9, QB, QA, zzC, yyF, zzD, S_func, Sk_func]
  refine ⟨fun l hl2 => h.flat l (hof l hl2), ?_⟩
  refine hK2 _ ?_; try clear hK2 K2
  refine kpA [0, 1, 2, 6, 8] ?_
  refine JA fun K2 hK2 => ?_
  refine Qz F_mixed [some 19, some 7] rfl ?_
  simp only [zzK, QR, QP, QQ, JC, JB, zz6, QO, ↓Qb]
  refine hK2 _ ?_; try clear hK2 K2
  refine kpA [0, 1, 2, 6, 7, 8] ?_
  refine Qz F_mixed [some 20, some 21, some 22, some 8] rfl ?_
  simp only [zzK, QR, QP, QQ, JC, zz21, JM, zz26, JB, hw8, zz6, QO, ↓Qb]
  refine ⟨B2.length, _, by simp only [QC]; omega, le_SK id [] rfl (l' := [(0, .ref 1000000000 M.length), (1, .d (iv M.length)), (2, .d (.fn cf cs)), (6, .d (iv 20)), (7, .d (iv (A2 ++ isort (ltc c) C).length)), (8, .d (iv ((A2 ++ isort (ltc c) C).length + 20 : Nat)))]) (m' := [(1000000000, (⟨True, 30, 3, true, false, 1000000000, aV (((A2 ++ isort (ltc c) C) ++ B2))⟩ : ARow))]) ?_ ?_ ?_ ?_, A ++ C, B2, A2 ++ isort (ltc c) C, by rw [hAB]; simp, by simp only [QC, isort_len]; omega, by simpa only [List.append_assoc] using hof, fun Y hY => by rw [List.append_assoc]; exact hK _ (.cons C B2 Y hC hY), rfl, rfl⟩
  ·simp only [leV, JD, QQ, Qd, Qc, hw8, hlC]; exact ⟨Qn _, Qn _, Qn _, Qn _, Qn _, Qn _, trivial⟩
  ·exact ⟨fun _ => ⟨_, rfl, Qu (by rw [List.append_assoc]; rfl) (JU _)⟩, fun h => by simp at h, trivial⟩
  ·simp [wfV, QY, lookR]
  ·exact ⟨fun e he r' hr' => by rw [ids_data e he] at hr'; simp at hr', trivial⟩
 ·intro hb
  have hlt : B.length < 20 := by have := Qf hb; omega
  clear hb
  have hN2 : (A2 ++ (B ++ [])).length ≤ 1000000 := by simp only [QC, QG]; omega
  have hl2 : (A2 ++ (B ++ [])).length = M.length := by simp only [QC, QG]; omega
  have hok2 : okM Pd (A2 ++ (B ++ [])) := by simpa only [QG] using hok
  have hof : okM Pd (A2 ++ (isort (ltc c) B ++ [])) := by
   simp only [okM_app] at hok2 ⊢
   exact ⟨hok2.1, okM_isort hok2.2.1, hok2.2.2⟩
  have hck := hK _ (.last B (by omega))
  refine awp_exit ?_
  simp only [zz6, QO, ↓Qb]
  refine hK0 _ ?_; try clear hK0 K0
  refine kpA [0, 1, 2, 6, 7] ?_
  refine JA fun K0 hK0 => ?_
  rw [show aV (A2 ++ B) = List.map (fun e : List D => e.map AV.d) (A2 ++ (B ++ [])) by rw [QG]; rfl]
  refine awp_mut [some 23, some 24, some 25, some 26, some 27] rfl 4 rfl ?_
  simp only [zzK, QR, QP, QQ, JC, JE, JF, hl2, zzB, zz6, QO, ↓Qb]
  refine mut_go [1000000000] F_go59 (sDue_ins h A2 B [] hok2 hN2 A2.length M.length rfl (by omega)) (by simp [QY, QX]) (by decide) (by first | exact ⟨by decide, by simp⟩ | rfl) ?_
  simp only [zzK, QR, QP, QQ, JC, JE, JF, hl2, zzB, zz6, QO, ↓Qb, mArgs_nil, asE_cl, asF_cl, asD_ptr, asG_ptr, asD_ep, asG_ep, List.mem_singleton, forall_eq, asEc_cons, asEc_nil, mArgs_d, mArgs_m, mRows_nil, mRows_cons, mNewL, nxM, mBase, mName, oksL, List.getElem?_cons_zero, List.getElem?_cons_succ, zzF, asE_ag, asE_d, asE_ref, asEc_cons, asEc_nil, asF_d, asF_ref, asF_ag, asGs, QY, QX, QM, List.not_mem_nil, false_implies, forall_const, atsL, asD_self, asD_nil, asD_sl, asD_agg, asD_int, asD_bool, asD_func, asD_ag, asD_ref, asG_d, asG_ag, asG_ref, freeN, QZ, Qa, JO, Qm, QT, QS, zz9, QB, QA, zzC, yyF, zzD, S_func, Sk_func]
  refine ⟨fun l hl2 => h.flat l (hof l hl2), ?_⟩
  refine hK0 _ ?_; try clear hK0 K0
  refine kpA [0, 1, 2, 6] ?_
  refine JH ?_
  refine awp_loop (fun mm s => ∃ (bs : Nat) (R : List (List D)), 0 < bs ∧ Chk (ltc c) bs M R ∧ mm = M.length - bs ∧ s = S 63 [(0, .ref 1000000000 M.length), (1, .d (iv M.length)), (2, .d (.fn cf cs)), (6, .d (iv bs))] [(1000000000, (⟨True, 30, 3, true, false, 1000000000, aV (R)⟩ : ARow))]) (M.length - 20) _ (le_SK id [] rfl (l' := [(0, .ref 1000000000 M.length), (1, .d (iv M.length)), (2, .d (.fn cf cs)), (6, .d (iv ((20 : Nat) : Int)))]) (m' := [(1000000000, (⟨True, 30, 3, true, false, 1000000000, aV ((A2 ++ isort (ltc c) B))⟩ : ARow))]) ?_ ?_ ?_ ?_) ⟨20, _, by omega, hck, rfl, rfl⟩ ?_
  ·simp only [leV, JD, QQ, Qd, Qc]; exact ⟨Qn _, Qn _, Qn _, Qn _, trivial⟩
  ·exact ⟨fun _ => ⟨_, rfl, Qu (by rw [QG]; rfl) (JU _)⟩, fun h => by simp at h, trivial⟩
  ·simp [wfV, QY, lookR]
  ·exact ⟨fun e he r' hr' => by rw [ids_data e he] at hr'; simp at hr', trivial⟩
  rintro mm s ⟨bs, R, hbs, hck, rfl, rfl⟩
  refine JA fun K1 hK1 => ?_
  refine JA fun K2 hK2 => ?_
  refine Qz F_mixed [some 28, some 29, some 30] rfl ?_
  simp only [zzK, QR, QP, QQ, JC, zz21, JM, zz22, zz6, QO, ↓Qb]
  refine hK2 _ ?_; try clear hK2 K2
  refine kpA [0, 1, 2, 6, 30] ?_
  refine cnA ?_ ?_
  ·intro hb
   have hlt : bs < M.length := by have := Qg hb; omega
   clear hb
   have hw2b : Ql .i64 (2 * (bs : Int)) = ((bs + bs : Nat) : Int) := by rw [wrapI (by omega) (by omega)]; omega
   have hw16 : Ql .i64 ((bs : Int) * 2) = ((bs + bs : Nat) : Int) := by rw [wrapI (by omega) (by omega)]; omega
   refine JI ?_
   simp only [zz6, QO, ↓Qb]
   refine hK1 _ ?_; try clear hK1 K1
   refine kpA [0, 1, 2, 6] ?_
   refine JH ?_
   refine JA fun K1 hK1 => ?_
   refine Qz F_mixed [some 31, some 32, some 7, some 8] rfl ?_
   simp only [zzK, QR, QP, QQ, JC, zz21, JM, zz36, JB, hw2b, zz6, QO, ↓Qb]
   refine hK1 _ ?_; try clear hK1 K1
   refine kpA [0, 1, 2, 6, 7, 8] ?_
   refine JA fun K1 hK1 => ?_
   refine JH ?_
   refine awp_loop (fun mm s => ∃ A B A2 C : List (List D), M = A ++ B ∧ A2.length = A.length ∧ okM Pd (A2 ++ C) ∧ Chk (ltc c) bs B C ∧ (∀ Y, Chk (ltc c) (bs + bs) B Y → Chk (ltc c) (bs + bs) M (A2 ++ Y)) ∧ mm = B.length ∧ s = S 63 [(0, .ref 1000000000 M.length), (1, .d (iv M.length)), (2, .d (.fn cf cs)), (6, .d (iv bs)), (7, .d (iv (A2).length)), (8, .d (iv ((A2).length + (bs + bs) : Nat)))] [(1000000000, (⟨True, 30, 3, true, false, 1000000000, aV ((A2 ++ C))⟩ : ARow))]) M.length _ (le_SK id [] rfl (l' := [(0, .ref 1000000000 M.length), (1, .d (iv M.length)), (2, .d (.fn cf cs)), (6, .d (iv bs)), (7, .d (iv (([] : List (List D))).length)), (8, .d (iv ((([] : List (List D))).length + (bs + bs) : Nat)))]) (m' := [(1000000000, (⟨True, 30, 3, true, false, 1000000000, aV ((([] : List (List D)) ++ R))⟩ : ARow))]) ?_ ?_ ?_ ?_) ⟨[], M, [], R, rfl, rfl, hck.ok hM, hck, fun Y h => h, rfl, rfl⟩ ?_
   ·simp only [leV, JD, QQ, Qd, Qc, List.length_nil, Nat.zero_add]; exact ⟨Qn _, Qn _, Qn _, Qn _, Qn _, Qn _, trivial⟩
   ·exact ⟨fun _ => ⟨_, rfl, Qu rfl (JU _)⟩, fun h => by simp at h, trivial⟩
   ·simp [wfV, QY, lookR]
   ·exact ⟨fun e he r' hr' => by rw [JU _ e he] at hr'; simp at hr', trivial⟩
   rintro mm s ⟨A, B, A2, C, hAB, hA2, hok, hBC, hK, rfl, rfl⟩
   have hlM := congrArg List.length hAB
   simp only [QC] at hlM
   have hlC := hBC.len
   refine JA fun K3 hK3 => ?_
   refine JA fun K4 hK4 => ?_
   refine Qz F_mixed [some 33, some 34, some 35] rfl ?_
   simp only [zzK, QR, QP, QQ, JC, zz21, JM, b_leq, pure_leq, zz6, QO, ↓Qb]
   refine hK4 _ ?_; try clear hK4 K4
   refine kpA [0, 1, 2, 6, 7, 8, 35] ?_
   refine cnA ?_ ?_
   ·intro hb
    have hge : bs + bs ≤ B.length := by have := Qg hb; omega
    clear hb
    obtain ⟨c1, c2, r, Rr, rfl, rfl, hc1, hc2, hrR⟩ := hBC.two hbs hge
    simp only [QC] at hlM
    have hl12 : (A2 ++ isort (ltc c) (c1 ++ c2)).length = A2.length + (bs + bs) := by simp only [QC, isort_len]; omega
    have hlR := hrR.len
    have hw10 : Ql .i64 ((A2.length : Int) + (bs : Int)) = ((A2.length + bs : Nat) : Int) := by rw [wrapI (by omega) (by omega)]; omega
    have hw12 : Ql .i64 (((A2.length + (bs + bs) : Nat) : Int) + ((bs + bs : Nat) : Int)) = ((A2.length + (bs + bs) + (bs + bs) : Nat) : Int) := by rw [wrapI (by omega) (by omega)]; omega
    have hN2 : (A2 ++ (isort (ltc c) c1 ++ (isort (ltc c) c2 ++ Rr))).length ≤ 1000000 := by simp only [QC, isort_len]; omega
    have hl2 : (A2 ++ (isort (ltc c) c1 ++ (isort (ltc c) c2 ++ Rr))).length = M.length := by simp only [QC, isort_len]; omega
    have hom : okM Pd (A2 ++ (mergeS (ltc c) (isort (ltc c) c1) (isort (ltc c) c2) ++ Rr)) := okM_merge hok
    have hof : okM Pd (A2 ++ (isort (ltc c) (c1 ++ c2) ++ Rr)) := by rw [merge_isort h.swo] at hom; exact hom
    refine JI ?_
    simp only [zz6, QO, ↓Qb]
    refine hK3 _ ?_; try clear hK3 K3
    refine kpA [0, 1, 2, 6, 7, 8] ?_
    refine JH ?_
    refine JA fun K3 hK3 => ?_
    refine awp_mut [some 36, some 37, some 38, some 39, some 40, some 41, some 42, some 43] rfl 7 rfl ?_
    simp only [zzK, QR, QP, QQ, JC, zz21, JM, zz26, JE, JF, aV, hl2, hw10, zzB, zz6, QO, ↓Qb]
    refine mut_go [1000000000] F_go60 (sDue_sym h (bs + bs + 1) A2 (isort (ltc c) c1) (isort (ltc c) c2) Rr hok hN2 (List.length_pos_iff.1 (by rw [isort_len]; omega)) (List.length_pos_iff.1 (by rw [isort_len]; omega)) (Srt_isort h.swo _) (Srt_isort h.swo _) A2.length (A2.length + bs) (A2.length + (bs + bs)) rfl (by rw [isort_len]; omega) (by rw [isort_len, isort_len]; omega) (by rw [isort_len, isort_len]; omega)) (by simp [QY, QX]) (by decide) (by first | exact ⟨by decide, by simp⟩ | rfl) ?_
    simp only [zzK, QR, QP, QQ, JC, zz21, JM, zz26, JE, JF, aV, hl2, hw10, zzB, zz6, QO, ↓Qb, mArgs_nil, asE_cl, asF_cl, asD_ptr, asG_ptr, asD_ep, asG_ep, List.mem_singleton, forall_eq, asEc_cons, asEc_nil, mArgs_d, mArgs_m, mRows_nil, mRows_cons, mNewL, nxM, mBase, mName, oksL, List.getElem?_cons_zero, List.getElem?_cons_succ, zzF, asE_ag, asE_d, asE_ref, asEc_cons, asEc_nil, asF_d, asF_ref, asF_ag, asGs, QY, QX, QM, List.not_mem_nil, false_implies, forall_const, atsL, asD_self, asD_nil, asD_sl, asD_agg, asD_int, asD_bool, asD_func, asD_ag, asD_ref, asG_d, asG_ag, asG_ref, freeN, QZ, Qa, JO, Qm, QT, QS, zz9, QB, QA, zzC, yyF, zzD, S_func, Sk_func]
    refine ⟨fun l hl2 => h.flat l (hom l hl2), ?_⟩
    refine hK3 _ ?_; try clear hK3 K3
    refine kpA [0, 1, 2, 6, 8] ?_
    refine JA fun K3 hK3 => ?_
    refine Qz F_mixed [some 44, some 7] rfl ?_
    simp only [zzK, QR, QP, QQ, JC, JB, zz6, QO, ↓Qb]
    refine hK3 _ ?_; try clear hK3 K3
    refine kpA [0, 1, 2, 6, 7, 8] ?_
    refine Qz F_mixed [some 45, some 46, some 47, some 48, some 8] rfl ?_
    simp only [zzK, QR, QP, QQ, JC, zz21, JM, zz36, zz26, JB, hw2b, hw12, zz6, QO, ↓Qb]
    refine ⟨r.length, _, by simp only [QC]; omega, le_SK id [] rfl (l' := [(0, .ref 1000000000 M.length), (1, .d (iv M.length)), (2, .d (.fn cf cs)), (6, .d (iv bs)), (7, .d (iv (A2 ++ isort (ltc c) (c1 ++ c2)).length)), (8, .d (iv ((A2 ++ isort (ltc c) (c1 ++ c2)).length + (bs + bs) : Nat)))]) (m' := [(1000000000, (⟨True, 30, 3, true, false, 1000000000, aV (((A2 ++ isort (ltc c) (c1 ++ c2)) ++ Rr))⟩ : ARow))]) ?_ ?_ ?_ ?_, A ++ (c1 ++ c2), r, A2 ++ isort (ltc c) (c1 ++ c2), Rr, by rw [hAB]; simp, by simp only [QC, isort_len]; omega, by simpa only [List.append_assoc] using hof, hrR, fun Y hY => by rw [List.append_assoc, show c1 ++ (c2 ++ r) = (c1 ++ c2) ++ r by simp] at *; exact hK _ (.cons (c1 ++ c2) r Y (by simp only [QC]; omega) hY), rfl, rfl⟩
    ·simp only [leV, JD, QQ, Qd, Qc, hw12, hl12]; exact ⟨Qn _, Qn _, Qn _, Qn _, Qn _, Qn _, trivial⟩
    ·exact ⟨fun _ => ⟨_, rfl, Qu (by rw [merge_isort h.swo, List.append_assoc]; rfl) (JU _)⟩, fun h => by simp at h, trivial⟩
    ·simp [wfV, QY, lookR]
    ·exact ⟨fun e he r' hr' => by rw [ids_data e he] at hr'; simp at hr', trivial⟩
   ·intro hb
    have hlt2 : B.length < bs + bs := by have := Qf hb; omega
    clear hb
    have hw13 : Ql .i64 ((A2.length : Int) + (bs : Int)) = ((A2.length + bs : Nat) : Int) := by rw [wrapI (by omega) (by omega)]; omega
    refine awp_exit ?_
    simp only [zz6, QO, ↓Qb]
    refine hK1 _ ?_; try clear hK1 K1
    refine kpA [0, 1, 2, 6, 7] ?_
    refine JA fun K1 hK1 => ?_
    refine JA fun K2 hK2 => ?_
    refine Qz F_mixed [some 49, some 50, some 51, some 9] rfl ?_
    simp only [zzK, QR, QP, QQ, JC, zz21, JM, zz26, JB, hw13, zz6, QO, ↓Qb]
    refine hK2 _ ?_; try clear hK2 K2
    refine kpA [0, 1, 2, 6, 7, 9] ?_
    refine JA fun K2 hK2 => ?_
    refine Qz F_mixed [some 52, some 53, some 54] rfl ?_
    simp only [zzK, QR, QP, QQ, JC, zz21, JM, zz22, zz6, QO, ↓Qb]
    refine hK2 _ ?_; try clear hK2 K2
    refine kpA [0, 1, 2, 6, 7, 9, 54] ?_
    refine cnA ?_ ?_
    ·intro hb
     have hgt : bs < B.length := by have := Qg hb; omega
     clear hb
     obtain ⟨c1, c2, rfl, rfl, hc1⟩ := hBC.half hgt hlt2
     simp only [QC] at hlM hgt hlt2
     have hN2 : (A2 ++ (isort (ltc c) c1 ++ (isort (ltc c) c2 ++ []))).length ≤ 1000000 := by simp only [QC, isort_len, List.length_nil]; omega
     have hl2 : (A2 ++ (isort (ltc c) c1 ++ (isort (ltc c) c2 ++ []))).length = M.length := by simp only [QC, isort_len, List.length_nil]; omega
     have hok2 : okM Pd (A2 ++ (isort (ltc c) c1 ++ (isort (ltc c) c2 ++ []))) := by simpa only [QG] using hok
     have hom : okM Pd (A2 ++ (mergeS (ltc c) (isort (ltc c) c1) (isort (ltc c) c2) ++ [])) := okM_merge hok2
     have hfin := hK _ (.last (c1 ++ c2) (by simp only [QC]; omega))
     rw [show aV (A2 ++ (isort (ltc c) c1 ++ isort (ltc c) c2)) = List.map (fun e : List D => e.map AV.d) (A2 ++ (isort (ltc c) c1 ++ (isort (ltc c) c2 ++ []))) by rw [QG]; rfl]
     refine awp_mut [some 55, some 56, some 57, some 58, some 59, some 60] rfl 5 rfl ?_
     simp only [zzK, QR, QP, QQ, JC, JE, JF, hl2, zzB, zz6, QO, ↓Qb]
     refine mut_go [1000000000] F_go60 (sDue_sym h (bs + bs + 1) A2 (isort (ltc c) c1) (isort (ltc c) c2) [] hok2 hN2 (List.length_pos_iff.1 (by rw [isort_len]; omega)) (List.length_pos_iff.1 (by rw [isort_len]; omega)) (Srt_isort h.swo _) (Srt_isort h.swo _) A2.length (A2.length + bs) M.length rfl (by rw [isort_len]; omega) (by rw [isort_len, isort_len]; omega) (by rw [isort_len, isort_len]; omega)) (by simp [QY, QX]) (by decide) (by first | exact ⟨by decide, by simp⟩ | rfl) ?_
     simp only [zzK, QR, QP, QQ, JC, JE, JF, hl2, zzB, zz6, QO, ↓Qb, mArgs_nil, asE_cl, asF_cl, asD_ptr, asG_ptr, asD_ep, asG_ep, List.mem_singleton, forall_eq, asEc_cons, asEc_nil, mArgs_d, mArgs_m, mRows_nil, mRows_cons, mNewL, nxM, mBase, mName, oksL, List.getElem?_cons_zero, List.getElem?_cons_succ, zzF, asE_ag, asE_d, asE_ref, asEc_cons, asEc_nil, asF_d, asF_ref, asF_ag, asGs, QY, QX, QM, List.not_mem_nil, false_implies, forall_const, atsL, asD_self, asD_nil, asD_sl, asD_agg, asD_int, asD_bool, asD_func, asD_ag, asD_ref, asG_d, asG_ag, asG_ref, freeN, QZ, Qa, JO, Qm, QT, QS, zz9, QB, QA, zzC, yyF, zzD, S_func, Sk_func]
     refine ⟨fun l hl2 => h.flat l (hom l hl2), ?_⟩
     refine hK1 _ ?_; try clear hK1 K1
     refine kpA [0, 1, 2, 6] ?_
     refine Qz F_mixed [some 61, some 62, some 6] rfl ?_
     simp only [zzK, QR, QP, QQ, JC, zz21, JM, zz36, JB, hw16, zz6, QO, ↓Qb]
     refine ⟨M.length - (bs + bs), _, by omega, le_SK id [] rfl (l' := [(0, .ref 1000000000 M.length), (1, .d (iv M.length)), (2, .d (.fn cf cs)), (6, .d (iv (bs + bs : Nat)))]) (m' := [(1000000000, (⟨True, 30, 3, true, false, 1000000000, aV ((A2 ++ isort (ltc c) (c1 ++ c2)))⟩ : ARow))]) ?_ ?_ ?_ ?_, bs + bs, _, by omega, hfin, rfl, rfl⟩
     ·simp only [leV, JD, QQ, Qd, Qc, hw16]; exact ⟨Qn _, Qn _, Qn _, Qn _, trivial⟩
     ·exact ⟨fun _ => ⟨_, rfl, Qu (by rw [merge_isort h.swo, QG]; rfl) (JU _)⟩, fun h => by simp at h, trivial⟩
     ·simp [wfV, QY, lookR]
     ·exact ⟨fun e he r' hr' => by rw [ids_data e he] at hr'; simp at hr', trivial⟩
    ·intro hb
     have hle : B.length ≤ bs := by have := Qf hb; omega
     clear hb
     obtain rfl := hBC.fin hle
     have hfin := hK _ (.last B (by omega))
     refine JI ?_
     simp only [zz6, QO, ↓Qb]
     refine hK1 _ ?_; try clear hK1 K1
     refine kpA [0, 1, 2, 6] ?_
     refine Qz F_mixed [some 61, some 62, some 6] rfl ?_
     simp only [zzK, QR, QP, QQ, JC, zz21, JM, zz36, JB, hw16, zz6, QO, ↓Qb]
     refine ⟨M.length - (bs + bs), _, by omega, le_SK id [] rfl (l' := [(0, .ref 1000000000 M.length), (1, .d (iv M.length)), (2, .d (.fn cf cs)), (6, .d (iv (bs + bs : Nat)))]) (m' := [(1000000000, (⟨True, 30, 3, true, false, 1000000000, aV ((A2 ++ isort (ltc c) B))⟩ : ARow))]) ?_ ?_ ?_ ?_, bs + bs, _, by omega, hfin, rfl, rfl⟩
     ·simp only [leV, JD, QQ, Qd, Qc, hw16]; exact ⟨Qn _, Qn _, Qn _, Qn _, trivial⟩
     ·exact ⟨fun _ => ⟨_, rfl, Qu rfl (JU _)⟩, fun h => by simp at h, trivial⟩
     ·simp [wfV, QY, lookR]
     ·exact ⟨fun e he r' hr' => by rw [JU _ e he] at hr'; simp at hr', trivial⟩
  ·intro hb
   have hge : M.length ≤ bs := by have := Qf hb; omega
   clear hb
   obtain rfl := hck.fin hge
   have hfl : ∀ l, l ∈ isort (ltc c) M → flatDs l := fun l hl2 => h.flat l (okM_isort hM l hl2)
   refine awp_exit ?_
   simp only [zz6, QO, ↓Qb]
   refine doneM [] (by simp [resCs, resC, S, List.getD, JD, lookR, ]) ?_ (by simp [flatA, flatAs, flatD, ]) (by simp [QY, QX, ]) (by decide) (by simp) ?_ ?_
   ·simp only [QD, QE, resA, S_getD, S_mem, lookR_cons, lookR_nil, QR, QP, JD, QQ, Qd, Qc, resAll, QI, QJ, QH, QL, QK, List.take_zero, ]; rfl
   ·exact trivial
   ·exact ⟨⟨_, rfl, trivial, rfl, rfl, rfl⟩, hfl, trivial⟩
theorem sDue_sort {cf : FuncId} {cs : List D} {c : List D → List D → Int} {Pd : List D → Prop} (h : SC Try.prog cf cs c Pd 3) (M : List (List D)) (hM : okM Pd M) (hN : M.length ≤ 1000000) : MCalls Try.prog 23 [.m 0, .d (.fn cf cs)] [⟨30, 3, M⟩] [⟨30, 3, isort (ltc c) M⟩] [] (.tp []) := by
 refine mcalls_S (rs := []) Try.func23 rfl rfl 9 [(0, .ref 1000000000 (M).length), (1, .d (.fn cf cs))] [(1000000000, (⟨True, 30, 3, true, false, 1000000000, (M).map (·.map .d)⟩ : ARow))] rfl (by simp) (by rfl) (by rfl) (by rfl) (by rfl) (by rfl) ?_
 refine awp_mut [some 4, some 5, some 6, some 7, some 8] rfl 4 rfl ?_
 simp only [zzK, QR, QP, QQ, JC, JE, zz12, F_sl22, Option.isSome_some, JF, len_map, zzB, zz6, QO, ↓Qb]
 refine mut_go [1000000000] F_go43 (sDue_stable h M hM hN M.length rfl) (by simp [QY, QX]) (by decide) (by first | exact ⟨by decide, by simp⟩ | rfl) ?_
 simp only [zzK, QR, QP, QQ, JC, JE, zz12, F_sl22, Option.isSome_some, JF, len_map, zzB, zz6, QO, ↓Qb, mArgs_nil, asE_cl, asF_cl, asD_ptr, asG_ptr, asD_ep, asG_ep, List.mem_singleton, forall_eq, asEc_cons, asEc_nil, mArgs_d, mArgs_m, mRows_nil, mRows_cons, mNewL, nxM, mBase, mName, oksL, List.getElem?_cons_zero, List.getElem?_cons_succ, zzF, asE_ag, asE_d, asE_ref, asEc_cons, asEc_nil, asF_d, asF_ref, asF_ag, asGs, QY, QX, QM, List.not_mem_nil, false_implies, forall_const, atsL, asD_self, asD_nil, asD_sl, asD_agg, asD_int, asD_bool, asD_func, asD_ag, asD_ref, asG_d, asG_ag, asG_ref, freeN, QZ, Qa, JO, Qm, QT, QS, zz9, QB, QA, zzC, yyF, zzD, S_func, Sk_func]
 refine ⟨fun l hl2 => h.flat l (okM_isort hM l hl2), ?_⟩
 have hfl : ∀ l, l ∈ isort (ltc c) M → flatDs l := fun l hl2 => h.flat l (okM_isort hM l hl2)
 refine doneM [] (by simp [resCs, resC, S, List.getD, JD, lookR, ]) ?_ (by simp [flatA, flatAs, flatD, ]) (by simp [QY, QX, ]) (by decide) (by simp) ?_ ?_
 ·simp only [QD, QE, resA, S_getD, S_mem, lookR_cons, lookR_nil, QR, QP, JD, QQ, Qd, Qc, resAll, QI, QJ, QH, QL, QK, List.take_zero, ]; rfl
 ·exact trivial
 ·exact ⟨⟨_, rfl, trivial, rfl, rfl, rfl⟩, hfl, trivial⟩
end Go.Proofs.Ytcpkhnciplfmkaa
