import Derived.Test.YtjkfadaedgidpaaSpecJD
import Derived.Test.YtjkfadaedgidpaaSpecJF
import Derived.Test.YtjkfadaedgidpaaWpD
namespace Go.Proofs.Ytjkfadaedgidpaa
open Go.RowKit
set_option linter.unusedVariables false
set_option linter.unusedSimpArgs false
open Option renaming map_some → QA, bind_some → QB
open List renaming length_append → QC, map_cons → QD, map_nil → QE, length_cons → QF, append_nil → QG, drop_zero → QH, getD_cons_zero → QI, getD_cons_succ → QJ, take_succ_cons → QK, drop_succ_cons → QL, length_singleton → QM
open Nat renaming zero_add → QN, reduceEqDiff → QO, reduceLeDiff → QP, reduceBEq → QQ, reduceLT → QR, reduceAdd → QS, reduceMul → QT
open Int renaming toNat_natCast → QV
open D.agg renaming injEq → QW
open AV renaming idsL → QX, ids → QY, ren → QZ, renL → Qa
open _root_ renaming reduceIte → Qb, cond_false → Qc, cond_true → Qd, reduceCtorEq → Qe, of_decide_eq_false → Qf, of_decide_eq_true → Qg
open IntKind renaming wrap → Ql
open ORow renaming row → Qm
open VLe renaming refl → Qn, still → Qo, nild_ → Qp, nil_ → Qq, refE → Qr, ptrE → Qs, dE → Qt
open RowLe renaming same → Qu, still → Qv, data_ → Qw, uq2 → Qx
open Go.Proofs.Ytjkfadaedgidpaa renaming awp_plain → Qz, awp_seq → JA, evS_assign → JB, evS_move → JC, look_cons → JD, evS_call → JE, evC_value → JF, awp_block → JH, awp_skip → JI, awp_ret → JJ, awp_exit → JK, awp_loop → JL, gr_v → JM, len_map → JN, addRows → JO, resAll → JP, newRow1 → JS, call_go → JT, aV_ids → JU, freeN → JV, evS_indexAddr → JW, S_getD → JZ, flatA → Ja, flatAs → Jb, flatD → Jc
theorem F_go83 : goFn Try.prog 83 := ⟨_, Try.func83, rfl, rfl⟩
theorem F_go77 : goFn Try.prog 77 := ⟨_, Try.func77, rfl, rfl⟩
theorem F_off124_0 : offT Try.prog 124 0 = some 0 := by kernel_rfl
theorem F_go65 : goFn Try.prog 65 := ⟨_, Try.func65, rfl, rfl⟩
theorem F_go66 : goFn Try.prog 66 := ⟨_, Try.func66, rfl, rfl⟩
theorem F_eqi117 (a0 b0 : Int) (a1 b1 : Int) (w : World) : (Op.equalIn 10000 117 (.agg #[.int .u64 a0, .int .u64 a1]) (.agg #[.int .u64 b0, .int .u64 b1])).run Try.prog w = .ok (veqL [.int .u64 a0, .int .u64 a1] [.int .u64 b0, .int .u64 b1]) w := by
 have u87 := Try.underlying87
 have g87 := Try.isAgg87
 have z87 := Try.sizeOf87
 have hS : Try.prog.underlying 117 = some (.struct (Try.prog.fieldsOf 117)) := by kernel_rfl
 have hp : Try.prog.stoodInHeld 117 = false := by kernel_rfl
 rw [show (10000 : Nat) = 9999 + 1 from rfl, run_equalIn_agg w 9999 117 _ _ hS hp]
 simp only [Program.fieldsOf, Try.underlying117]
 go_simp
 by_cases h0 : a0 = b0 <;> by_cases h1 : a1 = b1 <;> simp [veqL, veq, h0, h1]
theorem F_eql117 (a0 b0 : Int) (a1 b1 : Int) (x y : Operand) : pureBin Try.prog .eql 117 x y (.agg #[.int .u64 a0, .int .u64 a1]) (.agg #[.int .u64 b0, .int .u64 b1]) = True := by
 have hm : Try.prog.eqGuardType Try.prog.depth 117 = false := by kernel_rfl
 simp only [pureBin, Pure, eq_iff_iff, iff_true]
 intro w
 simp only [Sem.run_bind, run_eqGuard_agg w .eql 117 x y _ _ hm, Result.andThen_ok, run_eql_struct, F_eqi117, binV]
theorem F_go67 : goFn Try.prog 67 := ⟨_, Try.func67, rfl, rfl⟩
theorem F_go68 : goFn Try.prog 68 := ⟨_, Try.func68, rfl, rfl⟩
theorem F_zero124 : zeroT Try.prog 124 = some [(.int .u64 0), (.int .u64 0), (.int .i64 0)] := by kernel_rfl
theorem F_bld124 : bldT Try.prog 124 = true := by kernel_rfl
theorem F_fld124_0 : fldT Try.prog 124 0 = some (0, 2) := by kernel_rfl
theorem F_fld124_1 : fldT Try.prog 124 1 = some (2, 1) := by kernel_rfl
theorem F_by124 : byT Try.prog 124 = 24 := by kernel_rfl
theorem F_go69 : goFn Try.prog 69 := ⟨_, Try.func69, rfl, rfl⟩
theorem F_off124_1 : offT Try.prog 124 1 = some 2 := by kernel_rfl
set_option maxRecDepth 100000 in
set_option maxHeartbeats 4000000 in
theorem sRest_stable {cf : FuncId} {cs : List D} {c : List D → List D → Int} {Pd : List D → Prop} (h : SC Try.prog cf cs c Pd 3) (M : List (List D)) (hM : okM Pd M) (hN : M.length ≤ 1000000) (n : Nat) (hn : n = M.length) : MCalls Try.prog 77 [.m 0, .d (iv n), .d (.fn cf cs)] [⟨124, 3, M⟩] [⟨124, 3, isort (ltc c) M⟩] [] (.tp []) := by
 refine mcalls_S (rs := []) Try.func77 rfl rfl 63 [(0, .ref 1000000000 (M).length), (1, .d (iv n)), (2, .d (.fn cf cs))] [(1000000000, (⟨True, 124, 3, true, false, 1000000000, (M).map (·.map .d)⟩ : ARow))] rfl (by simp) (by rfl) (by rfl) (by rfl) (by rfl) (by rfl) ?_
 subst hn
 change AWp _ _ _ (S _ _ [(1000000000, (⟨True, 124, 3, true, false, 1000000000, aV (M)⟩ : ARow))])
 refine JA fun K0 hK0 => ?_
 refine Qz F_mixed [some 6] rfl ?_
 simp only [zzK, QR, QP, QQ, JB, zz6, QO, ↓Qb]
 refine hK0 _ ?_; try clear hK0 K0
 refine kpA [0, 1, 2, 6] ?_
 refine JA fun K0 hK0 => ?_
 refine Qz F_mixed [some 10, some 7, some 8] rfl ?_
 simp only [zzK, QR, QP, QQ, JC, JB, zz6, QO, ↓Qb]
 refine hK0 _ ?_; try clear hK0 K0
 refine kpA [0, 1, 2, 6, 7, 8] ?_
 refine JA fun K0 hK0 => ?_
 refine JH ?_
 refine JL (fun mm s => ∃ A B A2 : List (List D), M = A ++ B ∧ A2.length = A.length ∧ okM Pd (A2 ++ B) ∧ (∀ Y, Chk (ltc c) 20 B Y → Chk (ltc c) 20 M (A2 ++ Y)) ∧ mm = B.length ∧ s = S 63 [(0, .ref 1000000000 M.length), (1, .d (iv M.length)), (2, .d (.fn cf cs)), (6, .d (iv 20)), (7, .d (iv (A2).length)), (8, .d (iv ((A2).length + 20 : Nat)))] [(1000000000, (⟨True, 124, 3, true, false, 1000000000, aV ((A2 ++ B))⟩ : ARow))]) M.length _ (le_SK id [] rfl (l' := [(0, .ref 1000000000 M.length), (1, .d (iv M.length)), (2, .d (.fn cf cs)), (6, .d (iv 20)), (7, .d (iv (([] : List (List D))).length)), (8, .d (iv ((([] : List (List D))).length + 20 : Nat)))]) (m' := [(1000000000, (⟨True, 124, 3, true, false, 1000000000, aV ((([] : List (List D)) ++ M))⟩ : ARow))]) ?_ ?_ ?_ ?_) ⟨[], M, [], rfl, rfl, hM, fun Y h => h, rfl, rfl⟩ ?_
 ·simp only [leV, JD, QQ, Qd, Qc]; exact ⟨Qn _, Qn _, Qn _, Qn _, Qn _, Qn _, trivial⟩
 ·exact ⟨fun _ => ⟨_, rfl, Qu rfl (JU _)⟩, fun h => by simp at h, trivial⟩
 ·simp [wfV, QY, lookR]
 ·exact ⟨fun e he r' hr' => by rw [JU _ e he] at hr'; simp at hr', trivial⟩
 rintro mm s ⟨A, B, A2, hAB, hA2, hok, hK, rfl, rfl⟩
 have hlM := congrArg List.length hAB
 simp only [QC] at hlM
 refine JA fun K2 hK2 => ?_
 refine JA fun K3 hK3 => ?_
 refine Qz F_mixed [some 11, some 12, some 13] rfl ?_
 simp only [zzK, QR, QP, QQ, JC, zz21, JM, b_leq, pure_leq, zz6, QO, ↓Qb]
 refine hK3 _ ?_; try clear hK3 K3
 refine kpA [0, 1, 2, 6, 7, 8, 13] ?_
 refine cnA ?_ ?_
 ·intro hb
  have hge : 20 ≤ B.length := by have := Qg hb; omega
  clear hb
  obtain ⟨C, B2, rfl, hC⟩ := split_at B 20 hge
  simp only [QC] at hlM
  have hlC : (A2 ++ isort (ltc c) C).length = A2.length + 20 := by simp only [QC, isort_len]; omega
  have hw8 : Ql .i64 (((A2.length + 20 : Nat) : Int) + 20) = ((A2.length + 20 + 20 : Nat) : Int) := by rw [wrapI (by omega) (by omega)]; omega
  have hN2 : (A2 ++ (C ++ B2)).length ≤ 1000000 := by simp only [QC]; omega
  have hl2 : (A2 ++ (C ++ B2)).length = M.length := by simp only [QC]; omega
  have hof : okM Pd (A2 ++ (isort (ltc c) C ++ B2)) := by
   simp only [okM_app] at hok ⊢
   exact ⟨hok.1, okM_isort hok.2.1, hok.2.2⟩
  refine JI ?_
  simp only [zz6, QO, ↓Qb]
  refine hK2 _ ?_; try clear hK2 K2
  refine kpA [0, 1, 2, 6, 7, 8] ?_
  refine JH ?_
  refine JA fun K2 hK2 => ?_
  refine awp_mut [some 14, some 15, some 16, some 17, some 18] rfl 4 rfl ?_
  simp only [zzK, QR, QP, QQ, JC, JE, JF, aV, hl2, zzB, zz6, QO, ↓Qb]
  refine mut_go [1000000000] F_go83 (sRest_ins h A2 C B2 hok hN2 A2.length (A2.length + 20) rfl (by omega)) (by simp [QY, QX]) (by decide) (by first | exact ⟨by decide, by simp⟩ | rfl) ?_
  simp only [zzK, QR, QP, QQ, JC, JE, JF, aV, hl2, zzB, zz6, QO, ↓Qb, mArgs_nil, asE_cl, asF_cl, asD_ptr, asG_ptr, asD_ep, asG_ep, List.mem_singleton, forall_eq, asEc_cons, asEc_nil, mArgs_d, mArgs_m, mRows_nil, mRows_cons, mNewL, nxM, mBase, mName, oksL, List.getElem?_cons_zero, List.getElem?_cons_succ, zzF, asE_ag, asE_d, asE_ref, asEc_cons, asEc_nil, asF_d, asF_ref, asF_ag, asGs, QY, QX, QM, List.not_mem_nil, false_implies, forall_const, atsL, asD_self, asD_nil, asD_sl, asD_agg, asD_int, asD_bool, asD_func, asD_ag, asD_ref, asG_d, asG_ag, asG_ref, JV, QZ, Qa, JO, Qm, QT, QS, zz9, QB, QA, zzC, yyF, zzD, S_func, Sk_func]
  refine ⟨fun l hl2 => h.flat l (hof l hl2), ?_⟩
  refine hK2 _ ?_; try clear hK2 K2
  refine kpA [0, 1, 2, 6, 8] ?_
  refine JA fun K2 hK2 => ?_
  refine Qz F_mixed [some 19, some 7] rfl ?_
  simp only [zzK, QR, QP, QQ, JC, JB, zz6, QO, ↓Qb]
  refine hK2 _ ?_; try clear hK2 K2
  refine kpA [0, 1, 2, 6, 7, 8] ?_
  refine Qz F_mixed [some 20, some 21, some 22, some 8] rfl ?_
  simp only [zzK, QR, QP, QQ, JC, zz21, JM, zz26, JB, hw8, zz6, QO, ↓Qb]
  refine ⟨B2.length, _, by simp only [QC]; omega, le_SK id [] rfl (l' := [(0, .ref 1000000000 M.length), (1, .d (iv M.length)), (2, .d (.fn cf cs)), (6, .d (iv 20)), (7, .d (iv (A2 ++ isort (ltc c) C).length)), (8, .d (iv ((A2 ++ isort (ltc c) C).length + 20 : Nat)))]) (m' := [(1000000000, (⟨True, 124, 3, true, false, 1000000000, aV (((A2 ++ isort (ltc c) C) ++ B2))⟩ : ARow))]) ?_ ?_ ?_ ?_, A ++ C, B2, A2 ++ isort (ltc c) C, by rw [hAB]; simp, by simp only [QC, isort_len]; omega, by simpa only [List.append_assoc] using hof, fun Y hY => by rw [List.append_assoc]; exact hK _ (.cons C B2 Y hC hY), rfl, rfl⟩
  ·simp only [leV, JD, QQ, Qd, Qc, hw8, hlC]; exact ⟨Qn _, Qn _, Qn _, Qn _, Qn _, Qn _, trivial⟩
  ·exact ⟨fun _ => ⟨_, rfl, Qu (by rw [List.append_assoc]; rfl) (JU _)⟩, fun h => by simp at h, trivial⟩
  ·simp [wfV, QY, lookR]
  ·exact ⟨fun e he r' hr' => by rw [ids_data e he] at hr'; simp at hr', trivial⟩
 ·intro hb
  have hlt : B.length < 20 := by have := Qf hb; omega
  clear hb
  have hN2 : (A2 ++ (B ++ [])).length ≤ 1000000 := by simp only [QC, QG]; omega
  have hl2 : (A2 ++ (B ++ [])).length = M.length := by simp only [QC, QG]; omega
  have hok2 : okM Pd (A2 ++ (B ++ [])) := by simpa only [QG] using hok
  have hof : okM Pd (A2 ++ (isort (ltc c) B ++ [])) := by
   simp only [okM_app] at hok2 ⊢
   exact ⟨hok2.1, okM_isort hok2.2.1, hok2.2.2⟩
  have hck := hK _ (.last B (by omega))
  refine JK ?_
  simp only [zz6, QO, ↓Qb]
  refine hK0 _ ?_; try clear hK0 K0
  refine kpA [0, 1, 2, 6, 7] ?_
  refine JA fun K0 hK0 => ?_
  rw [show aV (A2 ++ B) = List.map (fun e : List D => e.map AV.d) (A2 ++ (B ++ [])) by rw [QG]; rfl]
  refine awp_mut [some 23, some 24, some 25, some 26, some 27] rfl 4 rfl ?_
  simp only [zzK, QR, QP, QQ, JC, JE, JF, hl2, zzB, zz6, QO, ↓Qb]
  refine mut_go [1000000000] F_go83 (sRest_ins h A2 B [] hok2 hN2 A2.length M.length rfl (by omega)) (by simp [QY, QX]) (by decide) (by first | exact ⟨by decide, by simp⟩ | rfl) ?_
  simp only [zzK, QR, QP, QQ, JC, JE, JF, hl2, zzB, zz6, QO, ↓Qb, mArgs_nil, asE_cl, asF_cl, asD_ptr, asG_ptr, asD_ep, asG_ep, List.mem_singleton, forall_eq, asEc_cons, asEc_nil, mArgs_d, mArgs_m, mRows_nil, mRows_cons, mNewL, nxM, mBase, mName, oksL, List.getElem?_cons_zero, List.getElem?_cons_succ, zzF, asE_ag, asE_d, asE_ref, asEc_cons, asEc_nil, asF_d, asF_ref, asF_ag, asGs, QY, QX, QM, List.not_mem_nil, false_implies, forall_const, atsL, asD_self, asD_nil, asD_sl, asD_agg, asD_int, asD_bool, asD_func, asD_ag, asD_ref, asG_d, asG_ag, asG_ref, JV, QZ, Qa, JO, Qm, QT, QS, zz9, QB, QA, zzC, yyF, zzD, S_func, Sk_func]
  refine ⟨fun l hl2 => h.flat l (hof l hl2), ?_⟩
  refine hK0 _ ?_; try clear hK0 K0
  refine kpA [0, 1, 2, 6] ?_
  refine JH ?_
  refine JL (fun mm s => ∃ (bs : Nat) (R : List (List D)), 0 < bs ∧ Chk (ltc c) bs M R ∧ mm = M.length - bs ∧ s = S 63 [(0, .ref 1000000000 M.length), (1, .d (iv M.length)), (2, .d (.fn cf cs)), (6, .d (iv bs))] [(1000000000, (⟨True, 124, 3, true, false, 1000000000, aV (R)⟩ : ARow))]) (M.length - 20) _ (le_SK id [] rfl (l' := [(0, .ref 1000000000 M.length), (1, .d (iv M.length)), (2, .d (.fn cf cs)), (6, .d (iv ((20 : Nat) : Int)))]) (m' := [(1000000000, (⟨True, 124, 3, true, false, 1000000000, aV ((A2 ++ isort (ltc c) B))⟩ : ARow))]) ?_ ?_ ?_ ?_) ⟨20, _, by omega, hck, rfl, rfl⟩ ?_
  ·simp only [leV, JD, QQ, Qd, Qc]; exact ⟨Qn _, Qn _, Qn _, Qn _, trivial⟩
  ·exact ⟨fun _ => ⟨_, rfl, Qu (by rw [QG]; rfl) (JU _)⟩, fun h => by simp at h, trivial⟩
  ·simp [wfV, QY, lookR]
  ·exact ⟨fun e he r' hr' => by rw [ids_data e he] at hr'; simp at hr', trivial⟩
  rintro mm s ⟨bs, R, hbs, hck, rfl, rfl⟩
  refine JA fun K1 hK1 => ?_
  refine JA fun K2 hK2 => ?_
  refine Qz F_mixed [some 28, some 29, some 30] rfl ?_
  simp only [zzK, QR, QP, QQ, JC, zz21, JM, zz22, zz6, QO, ↓Qb]
  refine hK2 _ ?_; try clear hK2 K2
  refine kpA [0, 1, 2, 6, 30] ?_
  refine cnA ?_ ?_
  ·intro hb
   have hlt : bs < M.length := by have := Qg hb; omega
   clear hb
   have hw2b : Ql .i64 (2 * (bs : Int)) = ((bs + bs : Nat) : Int) := by rw [wrapI (by omega) (by omega)]; omega
   have hw16 : Ql .i64 ((bs : Int) * 2) = ((bs + bs : Nat) : Int) := by rw [wrapI (by omega) (by omega)]; omega
   refine JI ?_
   simp only [zz6, QO, ↓Qb]
   refine hK1 _ ?_; try clear hK1 K1
   refine kpA [0, 1, 2, 6] ?_
   refine JH ?_
   refine JA fun K1 hK1 => ?_
   refine Qz F_mixed [some 31, some 32, some 7, some 8] rfl ?_
   simp only [zzK, QR, QP, QQ, JC, zz21, JM, zz36, JB, hw2b, zz6, QO, ↓Qb]
   refine hK1 _ ?_; try clear hK1 K1
   refine kpA [0, 1, 2, 6, 7, 8] ?_
   refine JA fun K1 hK1 => ?_
   refine JH ?_
   refine JL (fun mm s => ∃ A B A2 C : List (List D), M = A ++ B ∧ A2.length = A.length ∧ okM Pd (A2 ++ C) ∧ Chk (ltc c) bs B C ∧ (∀ Y, Chk (ltc c) (bs + bs) B Y → Chk (ltc c) (bs + bs) M (A2 ++ Y)) ∧ mm = B.length ∧ s = S 63 [(0, .ref 1000000000 M.length), (1, .d (iv M.length)), (2, .d (.fn cf cs)), (6, .d (iv bs)), (7, .d (iv (A2).length)), (8, .d (iv ((A2).length + (bs + bs) : Nat)))] [(1000000000, (⟨True, 124, 3, true, false, 1000000000, aV ((A2 ++ C))⟩ : ARow))]) M.length _ (le_SK id [] rfl (l' := [(0, .ref 1000000000 M.length), (1, .d (iv M.length)), (2, .d (.fn cf cs)), (6, .d (iv bs)), (7, .d (iv (([] : List (List D))).length)), (8, .d (iv ((([] : List (List D))).length + (bs + bs) : Nat)))]) (m' := [(1000000000, (⟨True, 124, 3, true, false, 1000000000, aV ((([] : List (List D)) ++ R))⟩ : ARow))]) ?_ ?_ ?_ ?_) ⟨[], M, [], R, rfl, rfl, hck.ok hM, hck, fun Y h => h, rfl, rfl⟩ ?_
   ·simp only [leV, JD, QQ, Qd, Qc, List.length_nil, QN]; exact ⟨Qn _, Qn _, Qn _, Qn _, Qn _, Qn _, trivial⟩
   ·exact ⟨fun _ => ⟨_, rfl, Qu rfl (JU _)⟩, fun h => by simp at h, trivial⟩
   ·simp [wfV, QY, lookR]
   ·exact ⟨fun e he r' hr' => by rw [JU _ e he] at hr'; simp at hr', trivial⟩
   rintro mm s ⟨A, B, A2, C, hAB, hA2, hok, hBC, hK, rfl, rfl⟩
   have hlM := congrArg List.length hAB
   simp only [QC] at hlM
   have hlC := hBC.len
   refine JA fun K3 hK3 => ?_
   refine JA fun K4 hK4 => ?_
   refine Qz F_mixed [some 33, some 34, some 35] rfl ?_
   simp only [zzK, QR, QP, QQ, JC, zz21, JM, b_leq, pure_leq, zz6, QO, ↓Qb]
   refine hK4 _ ?_; try clear hK4 K4
   refine kpA [0, 1, 2, 6, 7, 8, 35] ?_
   refine cnA ?_ ?_
   ·intro hb
    have hge : bs + bs ≤ B.length := by have := Qg hb; omega
    clear hb
    obtain ⟨c1, c2, r, Rr, rfl, rfl, hc1, hc2, hrR⟩ := hBC.two hbs hge
    simp only [QC] at hlM
    have hl12 : (A2 ++ isort (ltc c) (c1 ++ c2)).length = A2.length + (bs + bs) := by simp only [QC, isort_len]; omega
    have hlR := hrR.len
    have hw10 : Ql .i64 ((A2.length : Int) + (bs : Int)) = ((A2.length + bs : Nat) : Int) := by rw [wrapI (by omega) (by omega)]; omega
    have hw12 : Ql .i64 (((A2.length + (bs + bs) : Nat) : Int) + ((bs + bs : Nat) : Int)) = ((A2.length + (bs + bs) + (bs + bs) : Nat) : Int) := by rw [wrapI (by omega) (by omega)]; omega
    have hN2 : (A2 ++ (isort (ltc c) c1 ++ (isort (ltc c) c2 ++ Rr))).length ≤ 1000000 := by simp only [QC, isort_len]; omega
    have hl2 : (A2 ++ (isort (ltc c) c1 ++ (isort (ltc c) c2 ++ Rr))).length = M.length := by simp only [QC, isort_len]; omega
    have hom : okM Pd (A2 ++ (mergeS (ltc c) (isort (ltc c) c1) (isort (ltc c) c2) ++ Rr)) := okM_merge hok
    have hof : okM Pd (A2 ++ (isort (ltc c) (c1 ++ c2) ++ Rr)) := by rw [merge_isort h.swo] at hom; exact hom
    refine JI ?_
    simp only [zz6, QO, ↓Qb]
    refine hK3 _ ?_; try clear hK3 K3
    refine kpA [0, 1, 2, 6, 7, 8] ?_
    refine JH ?_
    refine JA fun K3 hK3 => ?_
    refine awp_mut [some 36, some 37, some 38, some 39, some 40, some 41, some 42, some 43] rfl 7 rfl ?_
    simp only [zzK, QR, QP, QQ, JC, zz21, JM, zz26, JE, JF, aV, hl2, hw10, zzB, zz6, QO, ↓Qb]
    refine mut_go [1000000000] F_go84 (sRest_sym h (bs + bs + 1) A2 (isort (ltc c) c1) (isort (ltc c) c2) Rr hok hN2 (List.length_pos_iff.1 (by rw [isort_len]; omega)) (List.length_pos_iff.1 (by rw [isort_len]; omega)) (Srt_isort h.swo _) (Srt_isort h.swo _) A2.length (A2.length + bs) (A2.length + (bs + bs)) rfl (by rw [isort_len]; omega) (by rw [isort_len, isort_len]; omega) (by rw [isort_len, isort_len]; omega)) (by simp [QY, QX]) (by decide) (by first | exact ⟨by decide, by simp⟩ | rfl) ?_
    simp only [zzK, QR, QP, QQ, JC, zz21, JM, zz26, JE, JF, aV, hl2, hw10, zzB, zz6, QO, ↓Qb, mArgs_nil, asE_cl, asF_cl, asD_ptr, asG_ptr, asD_ep, asG_ep, List.mem_singleton, forall_eq, asEc_cons, asEc_nil, mArgs_d, mArgs_m, mRows_nil, mRows_cons, mNewL, nxM, mBase, mName, oksL, List.getElem?_cons_zero, List.getElem?_cons_succ, zzF, asE_ag, asE_d, asE_ref, asEc_cons, asEc_nil, asF_d, asF_ref, asF_ag, asGs, QY, QX, QM, List.not_mem_nil, false_implies, forall_const, atsL, asD_self, asD_nil, asD_sl, asD_agg, asD_int, asD_bool, asD_func, asD_ag, asD_ref, asG_d, asG_ag, asG_ref, JV, QZ, Qa, JO, Qm, QT, QS, zz9, QB, QA, zzC, yyF, zzD, S_func, Sk_func]
    refine ⟨fun l hl2 => h.flat l (hom l hl2), ?_⟩
    refine hK3 _ ?_; try clear hK3 K3
    refine kpA [0, 1, 2, 6, 8] ?_
    refine JA fun K3 hK3 => ?_
    refine Qz F_mixed [some 44, some 7] rfl ?_
    simp only [zzK, QR, QP, QQ, JC, JB, zz6, QO, ↓Qb]
    refine hK3 _ ?_; try clear hK3 K3
    refine kpA [0, 1, 2, 6, 7, 8] ?_
    refine Qz F_mixed [some 45, some 46, some 47, some 48, some 8] rfl ?_
    simp only [zzK, QR, QP, QQ, JC, zz21, JM, zz36, zz26, JB, hw2b, hw12, zz6, QO, ↓Qb]
    refine ⟨r.length, _, by simp only [QC]; omega, le_SK id [] rfl (l' := [(0, .ref 1000000000 M.length), (1, .d (iv M.length)), (2, .d (.fn cf cs)), (6, .d (iv bs)), (7, .d (iv (A2 ++ isort (ltc c) (c1 ++ c2)).length)), (8, .d (iv ((A2 ++ isort (ltc c) (c1 ++ c2)).length + (bs + bs) : Nat)))]) (m' := [(1000000000, (⟨True, 124, 3, true, false, 1000000000, aV (((A2 ++ isort (ltc c) (c1 ++ c2)) ++ Rr))⟩ : ARow))]) ?_ ?_ ?_ ?_, A ++ (c1 ++ c2), r, A2 ++ isort (ltc c) (c1 ++ c2), Rr, by rw [hAB]; simp, by simp only [QC, isort_len]; omega, by simpa only [List.append_assoc] using hof, hrR, fun Y hY => by rw [List.append_assoc, show c1 ++ (c2 ++ r) = (c1 ++ c2) ++ r by simp] at *; exact hK _ (.cons (c1 ++ c2) r Y (by simp only [QC]; omega) hY), rfl, rfl⟩
    ·simp only [leV, JD, QQ, Qd, Qc, hw12, hl12]; exact ⟨Qn _, Qn _, Qn _, Qn _, Qn _, Qn _, trivial⟩
    ·exact ⟨fun _ => ⟨_, rfl, Qu (by rw [merge_isort h.swo, List.append_assoc]; rfl) (JU _)⟩, fun h => by simp at h, trivial⟩
    ·simp [wfV, QY, lookR]
    ·exact ⟨fun e he r' hr' => by rw [ids_data e he] at hr'; simp at hr', trivial⟩
   ·intro hb
    have hlt2 : B.length < bs + bs := by have := Qf hb; omega
    clear hb
    have hw13 : Ql .i64 ((A2.length : Int) + (bs : Int)) = ((A2.length + bs : Nat) : Int) := by rw [wrapI (by omega) (by omega)]; omega
    refine JK ?_
    simp only [zz6, QO, ↓Qb]
    refine hK1 _ ?_; try clear hK1 K1
    refine kpA [0, 1, 2, 6, 7] ?_
    refine JA fun K1 hK1 => ?_
    refine JA fun K2 hK2 => ?_
    refine Qz F_mixed [some 49, some 50, some 51, some 9] rfl ?_
    simp only [zzK, QR, QP, QQ, JC, zz21, JM, zz26, JB, hw13, zz6, QO, ↓Qb]
    refine hK2 _ ?_; try clear hK2 K2
    refine kpA [0, 1, 2, 6, 7, 9] ?_
    refine JA fun K2 hK2 => ?_
    refine Qz F_mixed [some 52, some 53, some 54] rfl ?_
    simp only [zzK, QR, QP, QQ, JC, zz21, JM, zz22, zz6, QO, ↓Qb]
    refine hK2 _ ?_; try clear hK2 K2
    refine kpA [0, 1, 2, 6, 7, 9, 54] ?_
    refine cnA ?_ ?_
    ·intro hb
     have hgt : bs < B.length := by have := Qg hb; omega
     clear hb
     obtain ⟨c1, c2, rfl, rfl, hc1⟩ := hBC.half hgt hlt2
     simp only [QC] at hlM hgt hlt2
     have hN2 : (A2 ++ (isort (ltc c) c1 ++ (isort (ltc c) c2 ++ []))).length ≤ 1000000 := by simp only [QC, isort_len, List.length_nil]; omega
     have hl2 : (A2 ++ (isort (ltc c) c1 ++ (isort (ltc c) c2 ++ []))).length = M.length := by simp only [QC, isort_len, List.length_nil]; omega
     have hok2 : okM Pd (A2 ++ (isort (ltc c) c1 ++ (isort (ltc c) c2 ++ []))) := by simpa only [QG] using hok
     have hom : okM Pd (A2 ++ (mergeS (ltc c) (isort (ltc c) c1) (isort (ltc c) c2) ++ [])) := okM_merge hok2
     have hfin := hK _ (.last (c1 ++ c2) (by simp only [QC]; omega))
     rw [show aV (A2 ++ (isort (ltc c) c1 ++ isort (ltc c) c2)) = List.map (fun e : List D => e.map AV.d) (A2 ++ (isort (ltc c) c1 ++ (isort (ltc c) c2 ++ []))) by rw [QG]; rfl]
     refine awp_mut [some 55, some 56, some 57, some 58, some 59, some 60] rfl 5 rfl ?_
     simp only [zzK, QR, QP, QQ, JC, JE, JF, hl2, zzB, zz6, QO, ↓Qb]
     refine mut_go [1000000000] F_go84 (sRest_sym h (bs + bs + 1) A2 (isort (ltc c) c1) (isort (ltc c) c2) [] hok2 hN2 (List.length_pos_iff.1 (by rw [isort_len]; omega)) (List.length_pos_iff.1 (by rw [isort_len]; omega)) (Srt_isort h.swo _) (Srt_isort h.swo _) A2.length (A2.length + bs) M.length rfl (by rw [isort_len]; omega) (by rw [isort_len, isort_len]; omega) (by rw [isort_len, isort_len]; omega)) (by simp [QY, QX]) (by decide) (by first | exact ⟨by decide, by simp⟩ | rfl) ?_
     simp only [zzK, QR, QP, QQ, JC, JE, JF, hl2, zzB, zz6, QO, ↓Qb, mArgs_nil, asE_cl, asF_cl, asD_ptr, asG_ptr, asD_ep, asG_ep, List.mem_singleton, forall_eq, asEc_cons, asEc_nil, mArgs_d, mArgs_m, mRows_nil, mRows_cons, mNewL, nxM, mBase, mName, oksL, List.getElem?_cons_zero, List.getElem?_cons_succ, zzF, asE_ag, asE_d, asE_ref, asEc_cons, asEc_nil, asF_d, asF_ref, asF_ag, asGs, QY, QX, QM, List.not_mem_nil, false_implies, forall_const, atsL, asD_self, asD_nil, asD_sl, asD_agg, asD_int, asD_bool, asD_func, asD_ag, asD_ref, asG_d, asG_ag, asG_ref, JV, QZ, Qa, JO, Qm, QT, QS, zz9, QB, QA, zzC, yyF, zzD, S_func, Sk_func]
     refine ⟨fun l hl2 => h.flat l (hom l hl2), ?_⟩
     refine hK1 _ ?_; try clear hK1 K1
     refine kpA [0, 1, 2, 6] ?_
     refine Qz F_mixed [some 61, some 62, some 6] rfl ?_
     simp only [zzK, QR, QP, QQ, JC, zz21, JM, zz36, JB, hw16, zz6, QO, ↓Qb]
     refine ⟨M.length - (bs + bs), _, by omega, le_SK id [] rfl (l' := [(0, .ref 1000000000 M.length), (1, .d (iv M.length)), (2, .d (.fn cf cs)), (6, .d (iv (bs + bs : Nat)))]) (m' := [(1000000000, (⟨True, 124, 3, true, false, 1000000000, aV ((A2 ++ isort (ltc c) (c1 ++ c2)))⟩ : ARow))]) ?_ ?_ ?_ ?_, bs + bs, _, by omega, hfin, rfl, rfl⟩
     ·simp only [leV, JD, QQ, Qd, Qc, hw16]; exact ⟨Qn _, Qn _, Qn _, Qn _, trivial⟩
     ·exact ⟨fun _ => ⟨_, rfl, Qu (by rw [merge_isort h.swo, QG]; rfl) (JU _)⟩, fun h => by simp at h, trivial⟩
     ·simp [wfV, QY, lookR]
     ·exact ⟨fun e he r' hr' => by rw [ids_data e he] at hr'; simp at hr', trivial⟩
    ·intro hb
     have hle : B.length ≤ bs := by have := Qf hb; omega
     clear hb
     obtain rfl := hBC.fin hle
     have hfin := hK _ (.last B (by omega))
     refine JI ?_
     simp only [zz6, QO, ↓Qb]
     refine hK1 _ ?_; try clear hK1 K1
     refine kpA [0, 1, 2, 6] ?_
     refine Qz F_mixed [some 61, some 62, some 6] rfl ?_
     simp only [zzK, QR, QP, QQ, JC, zz21, JM, zz36, JB, hw16, zz6, QO, ↓Qb]
     refine ⟨M.length - (bs + bs), _, by omega, le_SK id [] rfl (l' := [(0, .ref 1000000000 M.length), (1, .d (iv M.length)), (2, .d (.fn cf cs)), (6, .d (iv (bs + bs : Nat)))]) (m' := [(1000000000, (⟨True, 124, 3, true, false, 1000000000, aV ((A2 ++ isort (ltc c) B))⟩ : ARow))]) ?_ ?_ ?_ ?_, bs + bs, _, by omega, hfin, rfl, rfl⟩
     ·simp only [leV, JD, QQ, Qd, Qc, hw16]; exact ⟨Qn _, Qn _, Qn _, Qn _, trivial⟩
     ·exact ⟨fun _ => ⟨_, rfl, Qu rfl (JU _)⟩, fun h => by simp at h, trivial⟩
     ·simp [wfV, QY, lookR]
     ·exact ⟨fun e he r' hr' => by rw [JU _ e he] at hr'; simp at hr', trivial⟩
  ·intro hb
   have hge : M.length ≤ bs := by have := Qf hb; omega
   clear hb
   obtain rfl := hck.fin hge
   have hfl : ∀ l, l ∈ isort (ltc c) M → flatDs l := fun l hl2 => h.flat l (okM_isort hM l hl2)
   refine JK ?_
   simp only [zz6, QO, ↓Qb]
   refine doneM [] (by simp [resCs, resC, S, List.getD, JD, lookR, ]) ?_ (by simp [Ja, Jb, Jc, ]) (by simp [QY, QX, ]) (by decide) (by simp) ?_ ?_
   ·simp only [QD, QE, resA, JZ, S_mem, lookR_cons, lookR_nil, QR, QP, JD, QQ, Qd, Qc, JP, QI, QJ, QH, QL, QK, List.take_zero, ]; rfl
   ·exact trivial
   ·exact ⟨⟨_, rfl, trivial, rfl, rfl, rfl⟩, hfl, trivial⟩
theorem sRest_sort {cf : FuncId} {cs : List D} {c : List D → List D → Int} {Pd : List D → Prop} (h : SC Try.prog cf cs c Pd 3) (M : List (List D)) (hM : okM Pd M) (hN : M.length ≤ 1000000) : MCalls Try.prog 69 [.m 0, .d (.fn cf cs)] [⟨124, 3, M⟩] [⟨124, 3, isort (ltc c) M⟩] [] (.tp []) := by
 refine mcalls_S (rs := []) Try.func69 rfl rfl 9 [(0, .ref 1000000000 (M).length), (1, .d (.fn cf cs))] [(1000000000, (⟨True, 124, 3, true, false, 1000000000, (M).map (·.map .d)⟩ : ARow))] rfl (by simp) (by rfl) (by rfl) (by rfl) (by rfl) (by rfl) ?_
 refine awp_mut [some 4, some 5, some 6, some 7, some 8] rfl 4 rfl ?_
 simp only [zzK, QR, QP, QQ, JC, JE, zz12, F_sl119, Option.isSome_some, JF, JN, zzB, zz6, QO, ↓Qb]
 refine mut_go [1000000000] F_go77 (sRest_stable h M hM hN M.length rfl) (by simp [QY, QX]) (by decide) (by first | exact ⟨by decide, by simp⟩ | rfl) ?_
 simp only [zzK, QR, QP, QQ, JC, JE, zz12, F_sl119, Option.isSome_some, JF, JN, zzB, zz6, QO, ↓Qb, mArgs_nil, asE_cl, asF_cl, asD_ptr, asG_ptr, asD_ep, asG_ep, List.mem_singleton, forall_eq, asEc_cons, asEc_nil, mArgs_d, mArgs_m, mRows_nil, mRows_cons, mNewL, nxM, mBase, mName, oksL, List.getElem?_cons_zero, List.getElem?_cons_succ, zzF, asE_ag, asE_d, asE_ref, asEc_cons, asEc_nil, asF_d, asF_ref, asF_ag, asGs, QY, QX, QM, List.not_mem_nil, false_implies, forall_const, atsL, asD_self, asD_nil, asD_sl, asD_agg, asD_int, asD_bool, asD_func, asD_ag, asD_ref, asG_d, asG_ag, asG_ref, JV, QZ, Qa, JO, Qm, QT, QS, zz9, QB, QA, zzC, yyF, zzD, S_func, Sk_func]
 refine ⟨fun l hl2 => h.flat l (okM_isort hM l hl2), ?_⟩
 have hfl : ∀ l, l ∈ isort (ltc c) M → flatDs l := fun l hl2 => h.flat l (okM_isort hM l hl2)
 refine doneM [] (by simp [resCs, resC, S, List.getD, JD, lookR, ]) ?_ (by simp [Ja, Jb, Jc, ]) (by simp [QY, QX, ]) (by decide) (by simp) ?_ ?_
 ·simp only [QD, QE, resA, JZ, S_mem, lookR_cons, lookR_nil, QR, QP, JD, QQ, Qd, Qc, JP, QI, QJ, QH, QL, QK, List.take_zero, ]; rfl
 ·exact trivial
 ·exact ⟨⟨_, rfl, trivial, rfl, rfl, rfl⟩, hfl, trivial⟩
theorem restCmp_ (a b : RestV) : ACalls Try.prog 70 [.agg (restC a), .agg (restC b)] [] (.d (iv (cmpG b.r a.r))) := by
 refine acalls_S (rs := [.tmp 4]) Try.func70 rfl rfl 10 [(0, .d (.agg (restC a))), (1, .d (.agg (restC b)))] rfl (by simp) rfl ?_
 refine JA fun K0 hK0 => ?_
 refine Qz F_mixed [some 2, some 3, some 4] rfl ?_
 simp only [zzK, QR, QP, QQ, zz35, JS, zz1, zzG, zzD, zzC, QA, yyE, Qe, QS, QN, zzH, JB, restC, uw, zz6, QO, ↓Qb]
 refine hK0 _ ?_; try clear hK0 K0
 refine kpA [2, 3] ?_
 refine JA fun K0 hK0 => ?_
 refine Qz F_mixed [some 5, some 6, some 7, some 8, some 9, some 4] rfl ?_
 simp only [zzK, QR, QP, QQ, zz19, zz23, F_off124_0, zzH, QN, QS, F_ok117, F_ag117, F_sz117, zz8, zzD, zzC, QA, yyE, Qe, JE, JF, JB, gC, uw, QW, zz6, QO, ↓Qb]
 refine JT F_go71 (fun hG => gCmp_ b.r a.r) (by simp [QY, QX]) (by simp) ?_
 simp only [zzK, QR, QP, QQ, zz19, zz23, F_off124_0, zzH, QN, QS, F_ok117, F_ag117, F_sz117, zz8, zzD, zzC, QA, yyE, Qe, JE, JF, JB, gC, uw, QW, zz6, QO, ↓Qb, atsL, oksG, JV, QZ, Qa, JO, Qm, QT, QS, zz9, QB, QA, S_mem, yyF, QF, zz2]
 refine hK0 _ ?_; try clear hK0 K0
 refine kpA [4] ?_
 refine JJ ?_
 simp only [zz6, QO, ↓Qb]
 refine dnA ?_
 simp only [QD, QE, resA, JZ, QR, QP, JD, QQ, Qd, Qc, JP]
 
theorem restSC : SC Try.prog 70 [] restCmp isRest 3 where
 go := ⟨_, Try.func70, rfl, rfl⟩
 call x y hx hy := by
  obtain ⟨a, rfl⟩ := hx
  obtain ⟨b, rfl⟩ := hy
  have h := restCmp_ a b
  simp only [restCmp, restD_C]
  exact h
 len x hx := by obtain ⟨b, rfl⟩ := hx; rfl
 flat x hx := by obtain ⟨b, rfl⟩ := hx; simp [restC, uw, flatDs, Jc]
 cell x hx := by obtain ⟨b, rfl⟩ := hx; simp [restC, uw, cell1s, AV.cell1, Value.oneCell']
 swo := restCmp_swo

theorem restSortC (T S : Nat) (l : List Int) (hl : l.length ≤ 1000000) : MCalls Try.prog 69 [.m 0, .d (.v (.func (.func 70) #[] #[]))] [⟨124, 3, (rsV T S l).map restC⟩] [⟨124, 3, (ordR T S l).map restC⟩] [] (.tp []) := by
 have e := mcalls_fn0 (sRest_sort restSC ((rsV T S l).map restC) (okM_rests _) (by simp [rsV_len]; omega))
 rw [sort_rests] at e
 exact e
theorem restFlat (L : List RestV) : ∀ x ∈ L.map restC, flatDs x := fun x hx => by
 obtain ⟨b, _, rfl⟩ := List.mem_map.1 hx
 simp [restC, uw, flatDs, Jc]

set_option maxRecDepth 100000 in
set_option maxHeartbeats 4000000 in
theorem split_ (t : Int) (l : List Int) (hl : l.length ≤ 1000000) : ACalls Try.prog 37 [iv t, ints l] [⟨3, 1, (splitV t l).map fun n => [iv n]⟩] (.tp [.ref 0 (splitV t l).length, .d (iv (splitE t l))]) := by
 refine acalls_S (rs := [.tmp 4, .tmp 5]) Try.func37 rfl rfl 103 [(0, .d (iv t)), (1, .d (ints l))] rfl (by simp) rfl ?_
 refine JA fun K0 hK0 => ?_
 refine Qz F_mixed [some 4, some 5] rfl ?_
 simp only [zzK, QR, QP, QQ, JB, zz6, QO, ↓Qb]
 refine hK0 _ ?_; try clear hK0 K0
 refine kpA [0, 1] ?_
 refine JA fun K0 hK0 => ?_
 refine Qz F_mixed [some 20, some 21, some 22, some 6] rfl ?_
 simp only [zzK, QR, QP, QQ, JC, JE, JF, JB, ints, zz6, QO, ↓Qb]
 refine JT F_go65 (fun hG => sRight_ t l hl) (by simp [QY, QX]) (by simp) ?_
 simp only [zzK, QR, QP, QQ, JC, JE, JF, JB, ints, zz6, QO, ↓Qb, atsL, oksG, JV, QZ, Qa, JO, Qm, QT, QS, zz9, QB, QA, zzC, yyF, zzD, zz2]
 refine hK0 _ ?_; try clear hK0 K0
 refine kpA [0, 1, 6] ?_
 refine JA fun K0 hK0 => ?_
 refine JA fun K1 hK1 => ?_
 refine Qz F_mixed [some 23, some 24] rfl ?_
 simp only [zzK, QR, QP, QQ, JC, zz21, JM, zz28, zz6, QO, ↓Qb]
 refine hK1 _ ?_; try clear hK1 K1
 refine kpA [0, 1, 6, 24] ?_
 refine cnA ?_ ?_
 ·intro hb
  have hs : (sRE t l == 0) = false := by simpa using hb
  clear hb
  refine JA fun K2 hK2 => ?_
  refine Qz F_mixed [some 25, some 4, some 5] rfl ?_
  simp only [zzK, QR, QP, QQ, JC, JB, zz6, QO, ↓Qb]
  refine hK2 _ ?_; try clear hK2 K2
  refine kpA [4, 5] ?_
  refine awp_le (le_SK id [0] rfl (l' := [(4, .ref 0 0), (5, .d (iv (sRE t l)))]) (m' := [(0, (⟨True, 3, 1, true, true, 0, []⟩ : ARow))]) ?_ ?_ ?_ ?_) ?_
  ·simp only [leV, JD, QQ, Qd, Qc]; exact ⟨Qq (by decide), Qo rfl, trivial⟩
  ·exact ⟨fun h => by simp at h, fun _ => rfl, trivial⟩
  ·simp [wfV, QY, lookR]
  ·simp [wfR]
  refine JJ ?_
  simp only [zz6, QO, ↓Qb]
  rw [show splitV t l = [] by simp only [splitV, hs, Qc], show splitE t l = sRE t l by simp only [splitE, hs, Qc]]
  refine done1 0 (by simp only [resCs, resC]; trivial) ?_ (by simp [Ja, Jb, Jc]) (by simp [QY, QX]) (by rfl) trivial rfl rfl ?_ (by simp [flatDs, Jc])
  ·simp only [QD, QE, resA, JZ, QR, QP, JD, QQ, Qd, Qc, JP]; rfl
  ·rfl
 ·intro hb
  have hs : sRE t l = 0 := by simpa using hb
  clear hb
  obtain ⟨ht, hll, hl2⟩ := sRE_ok hs
  have hSl := sN_le hll
  have htt : ((t.toNat : Nat) : Int) = t := by omega
  have ht64 : Ql .u64 t = t := wrapU (by omega) (by omega)
  refine JI ?_
  simp only [zz6, QO, ↓Qb]
  refine hK0 _ ?_; try clear hK0 K0
  refine kpA [0, 1] ?_
  refine JA fun K0 hK0 => ?_
  refine Qz F_mixed [some 7] rfl ?_
  simp only [zzK, QR, QP, QQ, zz32, JS, F_zero117, zzC, QA, yyE, Qe, zzD, QS, QN, zzH, zz10, zz6, QO, ↓Qb]
  refine hK0 _ ?_; try clear hK0 K0
  refine kpA [0, 1, 7] ?_
  refine JA fun K0 hK0 => ?_
  refine JA fun K1 hK1 => ?_
  refine Qz F_mixed [some 26, some 27, some 28] rfl ?_
  simp only [zzK, QR, QP, QQ, JC, JE, zz12, F_sl25, Option.isSome_some, ints, JN, zz6, QO, ↓Qb]
  refine hK1 _ ?_; try clear hK1 K1
  refine kpA [0, 1, 7, 26, 27, 28] ?_
  refine JH ?_
  refine JL (fun m s => ∃ (pre : List Int) (post : List Int), (l = pre ++ post) ∧ m = post.length ∧ s = S 103 [(0, .d (iv t)), (1, .d (ints l)), (7, .ptr 7 0 0), (26, .d (ints l)), (27, .d (iv l.length)), (28, .d (iv pre.length))] [(7, (⟨True, 117, 2, true, false, 7, [[.d (.v (.int .u64 ((sN pre / 18446744073709551616 : Nat) : Int))), .d (.v (.int .u64 ((sN pre % 18446744073709551616 : Nat) : Int)))]]⟩ : ARow))]) (l.length) _ (le_SK id [] rfl (l' := [(0, .d (iv t)), (1, .d (ints l)), (7, .ptr 7 0 0), (26, .d (ints l)), (27, .d (iv l.length)), (28, .d (iv [].length))]) (m' := [(7, (⟨True, 117, 2, true, false, 7, [[.d (.v (.int .u64 ((sN [] / 18446744073709551616 : Nat) : Int))), .d (.v (.int .u64 ((sN [] % 18446744073709551616 : Nat) : Int)))]]⟩ : ARow))]) ?_ ?_ ?_ ?_) ⟨[], l, rfl, rfl, rfl⟩ ?_
  ·simp only [leV, JD, QQ, Qd, Qc]; exact ⟨(by first | exact Qo rfl | exact Qq (by decide) | exact Qp | exact Qn _ | exact Qs (by simp) (by rfl) | exact Qr (by simp) (by rfl) (by first | rfl | (simp; done) | (simp; omega)) | exact Qt (by first | rfl | simp)), (by first | exact Qo rfl | exact Qq (by decide) | exact Qp | exact Qn _ | exact Qs (by simp) (by rfl) | exact Qr (by simp) (by rfl) (by first | rfl | (simp; done) | (simp; omega)) | exact Qt (by first | rfl | simp)), (by first | exact Qo rfl | exact Qq (by decide) | exact Qp | exact Qn _ | exact Qs (by simp) (by rfl) | exact Qr (by simp) (by rfl) (by first | rfl | (simp; done) | (simp; omega)) | exact Qt (by first | rfl | simp)), (by first | exact Qo rfl | exact Qq (by decide) | exact Qp | exact Qn _ | exact Qs (by simp) (by rfl) | exact Qr (by simp) (by rfl) (by first | rfl | (simp; done) | (simp; omega)) | exact Qt (by first | rfl | simp)), (by first | exact Qo rfl | exact Qq (by decide) | exact Qp | exact Qn _ | exact Qs (by simp) (by rfl) | exact Qr (by simp) (by rfl) (by first | rfl | (simp; done) | (simp; omega)) | exact Qt (by first | rfl | simp)), (by first | exact Qo rfl | exact Qq (by decide) | exact Qp | exact Qn _ | exact Qs (by simp) (by rfl) | exact Qr (by simp) (by rfl) (by first | rfl | (simp; done) | (simp; omega)) | exact Qt (by first | rfl | simp)), trivial⟩
  ·exact ⟨fun _ => ⟨_, rfl, RowLe.cells (VLess.one_ (VLes.cons_ (Qt (by simp [sN])) (VLes.cons_ (Qt (by simp [sN])) (VLes.nil_))))⟩, fun h => by simp at h, trivial⟩
  ·simp [wfV, QY, QX, lookR, grow]
  ·exact ⟨by simp [QX, QY, lookR], trivial⟩
  rintro m s ⟨pre, post, hsp, rfl, rfl⟩
  have hspl := congrArg List.length hsp
  simp only [QC] at hspl
  refine JA fun K2 hK2 => ?_
  refine Qz F_mixed [some 29] rfl ?_
  simp only [zzK, QR, QP, QQ, zz21, JM, zz22, JN, zz6, QO, ↓Qb]
  refine hK2 _ ?_; try clear hK2 K2
  refine kpA [0, 1, 7, 26, 27, 28, 29] ?_
  refine JA fun K2 hK2 => ?_
  refine cnA ?_ ?_
  ·intro hb
   obtain ⟨x, post2, rfl⟩ : ∃ x t, post = x :: t := by
    cases post with
    | nil => have := Qg hb; simp at hspl; omega
    | cons x t => exact ⟨x, t, rfl⟩
   clear hb
   simp only [QF] at hspl
   have gx : (l.map (fun n => [iv n])).getD pre.length [] = [iv x] := by
    rw [hsp, List.map_append]; exact gd_mid' (A := pre.map (fun n => [iv n])) _ _ (by simp)
   have bx := ltI (show pre.length < l.length by omega)
   have hwx : Ql .i64 ((pre.length : Int) + 1) = ((pre ++ [x]).length : Int) := by rw [wrapI (by omega) (by omega)]; simp
   have hxb := hll x (by rw [hsp]; simp)
   have hx64 : Ql .u64 x = ((x.toNat : Nat) : Int) := by rw [wrapU (by omega) (by omega)]; omega
   have hsn := sN_snoc pre x
   have hsm := sN_le (l := pre) (fun y hy => hll y (by rw [hsp]; simp [hy]))
   refine JI ?_
   simp only [zz6, QO, ↓Qb]
   refine hK2 _ ?_; try clear hK2 K2
   refine kpA [0, 1, 7, 26, 27, 28] ?_
   refine JA fun K2 hK2 => ?_
   refine JH ?_
   refine JA fun K3 hK3 => ?_
   refine Qz F_mixed [some 30, some 31, some 9] rfl ?_
   simp only [zzK, QR, QP, QQ, JW, zz23, zz24, F_sl25, F_sz3, QA, zzC, yyE, Qe, F_ok3, F_ag3, zz8, zzD, QS, QN, zzH, JB, ints, gx, bx, hwx, JN, ge0, QV, QW, zz6, QO, ↓Qb]
   refine hK3 _ ?_; try clear hK3 K3
   refine kpA [0, 1, 7, 9, 26, 27, 28] ?_
   refine Qz F_mixed [some 32, some 33, some 34, some 35, none] rfl ?_
   simp only [zzK, QR, QP, QQ, F_ok117, F_ag117, F_sz117, zz8, zz23, zzD, QS, QN, zzH, zzC, QA, yyE, Qe, JC, zz27, JM, F_cv3_87, F_cvV87, JE, JF, zz18, splice, QG, zz1, zzG, hx64, gC, gA, uw, QW, zz6, QO, ↓Qb]
   refine JT F_go66 (fun hG => gPlus_ (sN pre) x.toNat (by omega) (by omega)) (by simp [QY, QX, gA]) (by simp) ?_
   simp only [zzK, QR, QP, QQ, F_ok117, F_ag117, F_sz117, zz8, zz23, zzD, QS, QN, zzH, zzC, QA, yyE, Qe, JC, zz27, JM, F_cv3_87, F_cvV87, JE, JF, zz18, splice, QG, zz1, zzG, hx64, gC, gA, uw, QW, zz6, QO, ↓Qb, atsL, oksG, JV, QZ, Qa, JO, Qm, QT, QS, zz9, QB, QA, S_mem, yyF, QF, zz2]
   try simp only [gA, uw, cellsOf_ag, cell1s_cons, cell1s_nil, cell1_int, QF, List.length_nil, splice, QH, List.take_zero]
   refine hK2 _ ?_; try clear hK2 K2
   refine kpA [0, 1, 7, 26, 27, 28] ?_
   refine Qz F_mixed [some 36, some 28] rfl ?_
   simp only [zzK, QR, QP, QQ, zz21, JM, zz26, JC, hwx, zz6, QO, ↓Qb]
   refine ⟨post2.length, _, by simp, le_SK id [] rfl (l' := [(0, .d (iv t)), (1, .d (ints l)), (7, .ptr 7 0 0), (26, .d (ints l)), (27, .d (iv l.length)), (28, .d (iv (pre ++ [x]).length))]) (m' := [(7, (⟨True, 117, 2, true, false, 7, [[.d (.v (.int .u64 ((sN (pre ++ [x]) / 18446744073709551616 : Nat) : Int))), .d (.v (.int .u64 ((sN (pre ++ [x]) % 18446744073709551616 : Nat) : Int)))]]⟩ : ARow))]) ?_ ?_ ?_ ?_, (pre ++ [x]), post2, by simp [hsp], rfl, rfl⟩
   ·simp only [leV, JD, QQ, Qd, Qc, hwx]; exact ⟨(by first | exact Qo rfl | exact Qq (by decide) | exact Qp | exact Qn _ | exact Qs (by simp) (by rfl) | exact Qr (by simp) (by rfl) (by first | rfl | (simp; done) | (simp; omega)) | exact Qt (by first | rfl | simp)), (by first | exact Qo rfl | exact Qq (by decide) | exact Qp | exact Qn _ | exact Qs (by simp) (by rfl) | exact Qr (by simp) (by rfl) (by first | rfl | (simp; done) | (simp; omega)) | exact Qt (by first | rfl | simp)), (by first | exact Qo rfl | exact Qq (by decide) | exact Qp | exact Qn _ | exact Qs (by simp) (by rfl) | exact Qr (by simp) (by rfl) (by first | rfl | (simp; done) | (simp; omega)) | exact Qt (by first | rfl | simp)), (by first | exact Qo rfl | exact Qq (by decide) | exact Qp | exact Qn _ | exact Qs (by simp) (by rfl) | exact Qr (by simp) (by rfl) (by first | rfl | (simp; done) | (simp; omega)) | exact Qt (by first | rfl | simp)), (by first | exact Qo rfl | exact Qq (by decide) | exact Qp | exact Qn _ | exact Qs (by simp) (by rfl) | exact Qr (by simp) (by rfl) (by first | rfl | (simp; done) | (simp; omega)) | exact Qt (by first | rfl | simp)), (by first | exact Qo rfl | exact Qq (by decide) | exact Qp | exact Qn _ | exact Qs (by simp) (by rfl) | exact Qr (by simp) (by rfl) (by first | rfl | (simp; done) | (simp; omega)) | exact Qt (by first | rfl | simp)), trivial⟩
   ·exact ⟨fun _ => ⟨_, rfl, RowLe.cells (VLess.one_ (VLes.cons_ (Qt (by rw [hsn])) (VLes.cons_ (Qt (by rw [hsn])) (VLes.nil_))))⟩, fun h => by simp at h, trivial⟩
   ·simp [wfV, QY, QX, lookR, grow]
   ·exact ⟨by simp [QX, QY, lookR], trivial⟩
  ·intro hb
   obtain rfl : post = [] := by
    cases post with
    | nil => rfl
    | cons x t => have := Qf hb; simp at hspl; omega
   clear hb
   simp only [QG] at hsp
   subst hsp
   refine JK ?_
   simp only [zz6, QO, ↓Qb]
   refine hK0 _ ?_; try clear hK0 K0
   refine kpA [0, 1, 7] ?_
   refine JA fun K0 hK0 => ?_
   refine JA fun K1 hK1 => ?_
   refine Qz F_mixed [some 37, some 38, some 39] rfl ?_
   simp only [zzK, QR, QP, QQ, F_ok117, F_ag117, F_sz117, zz8, zz23, zzD, QS, QN, zzH, zzC, QA, yyE, Qe, F_zero117, F_bld117, zz7, splice, Option.getD_some, QG, zz1, zzG, zz10, zz21, JM, gr_ag, gr_agg, grL_cons, grL_nil, grD_cons, grD_nil, b_eqla, b_neqa, F_eql117, uw, veqL, veq, sN_zero, Bool.and_true, zz6, QO, ↓Qb]
   refine hK1 _ ?_; try clear hK1 K1
   refine kpA [0, 1, 7, 39] ?_
   refine cnA ?_ ?_
   ·intro hb
    have hz : (sN l == 0) = true := hb
    clear hb
    refine JA fun K2 hK2 => ?_
    refine JA fun K3 hK3 => ?_
    refine Qz F_mixed [some 40, some 41] rfl ?_
    simp only [zzK, QR, QP, QQ, JC, zz21, JM, zz28, zz6, QO, ↓Qb]
    refine hK3 _ ?_; try clear hK3 K3
    refine kpA [1, 41] ?_
    refine cnA ?_ ?_
    ·intro hb
     have h0 : (t == 0) = false := by simpa using hb
     clear hb
     refine JA fun K4 hK4 => ?_
     refine Qz F_mixed [some 4, some 5] rfl ?_
     simp only [zzK, QR, QP, QQ, JB, zz6, QO, ↓Qb]
     refine hK4 _ ?_; try clear hK4 K4
     refine kpA [4, 5] ?_
     refine awp_le (le_SK id [0] rfl (l' := [(4, .ref 0 0), (5, .d (iv 2))]) (m' := [(0, (⟨True, 3, 1, true, true, 0, []⟩ : ARow))]) ?_ ?_ ?_ ?_) ?_
     ·simp only [leV, JD, QQ, Qd, Qc]; exact ⟨Qq (by decide), Qo rfl, trivial⟩
     ·exact ⟨fun h => by simp at h, fun _ => rfl, trivial⟩
     ·simp [wfV, QY, lookR]
     ·simp [wfR]
     refine JJ ?_
     simp only [zz6, QO, ↓Qb]
     rw [show splitV t l = [] by simp only [splitV, hs, hz, h0]; rfl, show splitE t l = 2 by simp only [splitE, hs, hz, h0]; rfl]
     refine done1 0 (by simp only [resCs, resC]; trivial) ?_ (by simp [Ja, Jb, Jc]) (by simp [QY, QX]) (by rfl) trivial rfl rfl ?_ (by simp [flatDs, Jc])
     ·simp only [QD, QE, resA, JZ, QR, QP, JD, QQ, Qd, Qc, JP]; rfl
     ·rfl
    ·intro hb
     have h0 : (t == 0) = true := by simpa using hb
     clear hb
     refine JI ?_
     simp only [zz6, QO, ↓Qb]
     refine hK2 _ ?_; try clear hK2 K2
     refine kpA [1] ?_
     refine JA fun K2 hK2 => ?_
     refine Qz F_mixed [some 42, some 43, some 44, some 4, some 5] rfl ?_
     simp only [zzK, QR, QP, QQ, JC, JE, zz12, F_sl25, Option.isSome_some, evS_makeSlice, msK_some, msZ_some, F_zero3, F_sz3, F_by3, JS, zz10, zzC, QA, yyE, Qe, zzD, QS, QN, zzH, JB, ints, JN, zz6, QO, ↓Qb]
     refine ⟨⟨by omega, by omega⟩, ?_⟩
     refine hK2 _ ?_; try clear hK2 K2
     refine kpA [4, 5] ?_
     refine JJ ?_
     simp only [zz6, QO, ↓Qb]
     rw [show splitV t l = zerosI l.length by simp only [splitV, hs, hz, h0]; rfl, show splitE t l = 0 by simp only [splitE, hs, hz, h0]; rfl, show (zerosI l.length).length = l.length by simp [zerosI]]
     refine done1 44 (by simp only [resCs, resC]; trivial) ?_ (by simp [Ja, Jb, Jc]) (by simp [QY, QX]) (by rfl) trivial rfl rfl ?_ (by simp [flatDs, Jc])
     ·simp only [QD, QE, resA, JZ, QR, QP, JD, QQ, Qd, Qc, JP]; rfl
     ·simp [zerosI]
   ·intro hb
    have hz : (sN l == 0) = false := hb
    clear hb
    have hS : 0 < sN l := Nat.pos_of_ne_zero (by simpa using hz)
    refine JI ?_
    simp only [zz6, QO, ↓Qb]
    refine hK0 _ ?_; try clear hK0 K0
    refine kpA [0, 1, 7] ?_
    refine JA fun K0 hK0 => ?_
    refine Qz F_mixed [some 10] rfl ?_
    simp only [zzK, QR, QP, QQ, JB, zz6, QO, ↓Qb]
    refine hK0 _ ?_; try clear hK0 K0
    refine kpA [0, 1, 7, 10] ?_
    refine JA fun K0 hK0 => ?_
    refine Qz F_mixed [some 11] rfl ?_
    simp only [zzK, QR, QP, QQ, JB, zz6, QO, ↓Qb]
    refine hK0 _ ?_; try clear hK0 K0
    refine kpA [0, 1, 7, 10, 11] ?_
    refine JA fun K0 hK0 => ?_
    refine Qz F_mixed [some 45, some 12] rfl ?_
    simp only [zzK, QR, QP, QQ, JC, JB, zz6, QO, ↓Qb]
    refine hK0 _ ?_; try clear hK0 K0
    refine kpA [0, 1, 7, 10, 11, 12] ?_
    refine JA fun K0 hK0 => ?_
    refine JA fun K1 hK1 => ?_
    refine Qz F_mixed [some 46, some 47, some 48] rfl ?_
    simp only [zzK, QR, QP, QQ, JC, JE, zz12, F_sl25, Option.isSome_some, ints, JN, zz6, QO, ↓Qb]
    refine hK1 _ ?_; try clear hK1 K1
    refine kpA [0, 7, 10, 11, 12, 46, 47, 48] ?_
    refine JH ?_
    refine JL (fun m s => ∃ (pre : List Int) (post : List Int), (l = pre ++ post) ∧ m = post.length ∧ s = S 103 [(0, .d (iv t)), (7, .ptr 7 0 0), (10, .ref 10 (qsV t.toNat (sN l) pre).length), (11, .ref 11 (rsV t.toNat (sN l) pre).length), (12, .d (iv (leftV t.toNat (sN l) pre))), (46, .d (ints l)), (47, .d (iv l.length)), (48, .d (iv pre.length))] [(7, (⟨True, 117, 2, true, false, 7, [[.d (.v (.int .u64 ((sN l / 18446744073709551616 : Nat) : Int))), .d (.v (.int .u64 ((sN l % 18446744073709551616 : Nat) : Int)))]]⟩ : ARow)), (10, grow 3 1 10 ((qsV t.toNat (sN l) pre).map fun n => [iv n])), (11, grow 124 3 11 ((rsV t.toNat (sN l) pre).map restC))]) (l.length) _ (le_SK id [10, 11] rfl (l' := [(0, .d (iv t)), (7, .ptr 7 0 0), (10, .ref 10 (qsV t.toNat (sN l) []).length), (11, .ref 11 (rsV t.toNat (sN l) []).length), (12, .d (iv (leftV t.toNat (sN l) []))), (46, .d (ints l)), (47, .d (iv l.length)), (48, .d (iv [].length))]) (m' := [(7, (⟨True, 117, 2, true, false, 7, [[.d (.v (.int .u64 ((sN l / 18446744073709551616 : Nat) : Int))), .d (.v (.int .u64 ((sN l % 18446744073709551616 : Nat) : Int)))]]⟩ : ARow)), (10, grow 3 1 10 ((qsV t.toNat (sN l) []).map fun n => [iv n])), (11, grow 124 3 11 ((rsV t.toNat (sN l) []).map restC))]) ?_ ?_ ?_ ?_) ⟨[], l, rfl, rfl, rfl⟩ ?_
    ·simp only [leV, JD, QQ, Qd, Qc]; exact ⟨(by first | exact Qo rfl | exact Qq (by decide) | exact Qp | exact Qn _ | exact Qs (by simp) (by rfl) | exact Qr (by simp) (by rfl) (by first | rfl | (simp; done) | (simp; omega)) | exact Qt (by first | rfl | simp)), (by first | exact Qo rfl | exact Qq (by decide) | exact Qp | exact Qn _ | exact Qs (by simp) (by rfl) | exact Qr (by simp) (by rfl) (by first | rfl | (simp; done) | (simp; omega)) | exact Qt (by first | rfl | simp)), (by first | exact Qo rfl | exact Qq (by decide) | exact Qp | exact Qn _ | exact Qs (by simp) (by rfl) | exact Qr (by simp) (by rfl) (by first | rfl | (simp; done) | (simp; omega)) | exact Qt (by first | rfl | simp)), (by first | exact Qo rfl | exact Qq (by decide) | exact Qp | exact Qn _ | exact Qs (by simp) (by rfl) | exact Qr (by simp) (by rfl) (by first | rfl | (simp; done) | (simp; omega)) | exact Qt (by first | rfl | simp)), (Qt (by simp [leftV, qsV, htt])), (by first | exact Qo rfl | exact Qq (by decide) | exact Qp | exact Qn _ | exact Qs (by simp) (by rfl) | exact Qr (by simp) (by rfl) (by first | rfl | (simp; done) | (simp; omega)) | exact Qt (by first | rfl | simp)), (by first | exact Qo rfl | exact Qq (by decide) | exact Qp | exact Qn _ | exact Qs (by simp) (by rfl) | exact Qr (by simp) (by rfl) (by first | rfl | (simp; done) | (simp; omega)) | exact Qt (by first | rfl | simp)), (by first | exact Qo rfl | exact Qq (by decide) | exact Qp | exact Qn _ | exact Qs (by simp) (by rfl) | exact Qr (by simp) (by rfl) (by first | rfl | (simp; done) | (simp; omega)) | exact Qt (by first | rfl | simp)), trivial⟩
    ·exact ⟨fun _ => ⟨_, rfl, (by first | exact Qw (by first | rfl | simp) | exact Qx (by first | rfl | simp) (by simp) ids_data | exact Qv (by simp [QX, QY]) | exact Qu (by simp) (by simp [QX, QY]))⟩, fun h => by simp at h, fun h => by simp at h, fun _ => rfl, fun h => by simp at h, fun _ => rfl, trivial⟩
    ·simp [wfV, QY, QX, lookR, grow]
    ·exact ⟨by simp [QX, QY, lookR], wf_data _ _, wf_data _ _, trivial⟩
    rintro m s ⟨pre, post, hsp, rfl, rfl⟩
    have hspl := congrArg List.length hsp
    simp only [QC] at hspl
    have hql := qsV_len t.toNat (sN l) pre
    have hrl := rsV_len t.toNat (sN l) pre
    refine JA fun K2 hK2 => ?_
    refine Qz F_mixed [some 49] rfl ?_
    simp only [zzK, QR, QP, QQ, zz21, JM, zz22, JN, zz6, QO, ↓Qb]
    refine hK2 _ ?_; try clear hK2 K2
    refine kpA [0, 7, 10, 11, 12, 46, 47, 48, 49] ?_
    refine JA fun K2 hK2 => ?_
    refine cnA ?_ ?_
    ·intro hb
     obtain ⟨x, post2, rfl⟩ : ∃ x t, post = x :: t := by
      cases post with
      | nil => have := Qg hb; simp at hspl; omega
      | cons x t => exact ⟨x, t, rfl⟩
     clear hb
     simp only [QF] at hspl
     have gx : (l.map (fun n => [iv n])).getD pre.length [] = [iv x] := by
      rw [hsp, List.map_append]; exact gd_mid' (A := pre.map (fun n => [iv n])) _ _ (by simp)
     have bx := ltI (show pre.length < l.length by omega)
     have hwx : Ql .i64 ((pre.length : Int) + 1) = ((pre ++ [x]).length : Int) := by rw [wrapI (by omega) (by omega)]; simp
     have hxb := hll x (by rw [hsp]; simp)
     have hx64 : Ql .u64 x = ((x.toNat : Nat) : Int) := by rw [wrapU (by omega) (by omega)]; omega
     have hxS : x.toNat ≤ sN l := w_le (by rw [hsp]; simp)
     have hqT := q_le (T := t.toNat) hxS
     have hmul : t * ((x.toNat : Nat) : Int) = ((t.toNat * x.toNat : Nat) : Int) := by rw [Int.natCast_mul, htt]
     have hhi : t * ((x.toNat : Nat) : Int) / 18446744073709551616 = ((t.toNat * x.toNat / 18446744073709551616 : Nat) : Int) := by rw [hmul]; generalize t.toNat * x.toNat = A; omega
     have hlo : t * ((x.toNat : Nat) : Int) % 18446744073709551616 = ((t.toNat * x.toNat % 18446744073709551616 : Nat) : Int) := by rw [hmul]; generalize t.toNat * x.toNat = A; omega
     have hTx : t.toNat * x.toNat < 340282366920938463463374607431768211456 := Nat.lt_of_le_of_lt (Nat.mul_le_mul (show t.toNat ≤ 4611686018427387904 by omega) (show x.toNat ≤ 4611686018427387904 by omega)) (by decide)
     have hqm : t.toNat * x.toNat / sN l % 18446744073709551616 = t.toNat * x.toNat / sN l := Nat.mod_eq_of_lt (by omega)
     have hq64 : Ql .i64 ((t.toNat * x.toNat / sN l : Nat) : Int) = ((t.toNat * x.toNat / sN l : Nat) : Int) := wrapI (by omega) (by omega)
     have hlb := left_mid (T := t.toNat) hS hsp
     have hls := leftV_snoc t.toNat (sN l) pre x
     have hlv : Ql .i64 (leftV t.toNat (sN l) pre - ((t.toNat * x.toNat / sN l : Nat) : Int)) = leftV t.toNat (sN l) (pre ++ [x]) := by
      rw [← hls]; exact wrapI (by omega) (by omega)
     refine JI ?_
     simp only [zz6, QO, ↓Qb]
     refine hK2 _ ?_; try clear hK2 K2
     refine kpA [0, 7, 10, 11, 12, 46, 47, 48] ?_
     refine JA fun K2 hK2 => ?_
     refine JH ?_
     refine JA fun K3 hK3 => ?_
     refine Qz F_mixed [some 50, some 51, some 52, some 13, some 14] rfl ?_
     simp only [zzK, QR, QP, QQ, JC, JW, zz23, zz24, F_sl25, F_sz3, QA, zzC, yyE, Qe, F_ok3, F_ag3, zz8, zzD, QS, QN, zzH, JB, ints, gx, bx, hwx, JN, ge0, QV, QW, zz6, QO, ↓Qb]
     refine hK3 _ ?_; try clear hK3 K3
     refine kpA [0, 7, 10, 11, 12, 13, 14, 46, 47, 48] ?_
     refine JA fun K3 hK3 => ?_
     refine Qz F_mixed [some 54, some 55, some 56, some 57, some 58, some 53, some 59, some 60, some 15, some 16] rfl ?_
     simp only [zzK, QR, QP, QQ, JC, zz27, JM, F_cv3_87, F_cvV87, JE, JF, zz14, zzD, QS, QN, zzF, JB, ht64, hx64, zz6, QO, ↓Qb]
     refine JT F_go67 (fun hG => Mul64_ t (x.toNat : Int) (by omega) (by omega) (by omega) (by omega)) (by simp [QY, QX]) (by simp) ?_
     simp only [zzK, QR, QP, QQ, JC, zz27, JM, F_cv3_87, F_cvV87, JE, JF, zz14, zzD, QS, QN, zzF, JB, ht64, hx64, zz6, QO, ↓Qb, atsL, oksG, JV, QZ, Qa, JO, Qm, QT, QS, zz9, QB, QA, zzC, yyF, QF, zz2]
     simp only [hhi, hlo]
     refine hK3 _ ?_; try clear hK3 K3
     refine kpA [0, 7, 10, 11, 12, 13, 15, 16, 46, 47, 48] ?_
     refine JA fun K3 hK3 => ?_
     refine Qz F_mixed [some 62, some 63, some 64, some 65, some 66, some 61, some 67, some 68, some 18, some 17, none] rfl ?_
     simp only [zzK, QR, QP, QQ, JC, F_zero117, F_bld117, zz7, splice, Option.getD_some, QG, zz1, zzG, zzD, zzC, QA, yyE, Qe, QS, QN, zzH, zz10, F_fld117_0, F_fld117_1, F_ok117, F_ag117, F_sz117, zz8, zz23, JE, JF, zz14, zz32, JS, JB, zz18, gC, gA, uw, QW, zz6, QO, ↓Qb]
     refine JT F_go68 (fun hG => gQuo_ (t.toNat * x.toNat) (sN l) hTx hS (by omega)) (by simp [QY, QX, gA]) (by simp) ?_
     simp only [zzK, QR, QP, QQ, JC, F_zero117, F_bld117, zz7, splice, Option.getD_some, QG, zz1, zzG, zzD, zzC, QA, yyE, Qe, QS, QN, zzH, zz10, F_fld117_0, F_fld117_1, F_ok117, F_ag117, F_sz117, zz8, zz23, JE, JF, zz14, zz32, JS, JB, zz18, gC, gA, uw, QW, zz6, QO, ↓Qb, atsL, oksG, JV, QZ, Qa, JO, Qm, QT, QS, zz9, QB, QA, S_mem, yyF, QF, zz2]
     simp only [gA, uw, hqm]
     refine hK3 _ ?_; try clear hK3 K3
     refine kpA [0, 7, 10, 11, 12, 13, 17, 18, 46, 47, 48] ?_
     refine JA fun K3 hK3 => ?_
     refine Qz F_mixed [some 69, some 70, some 71, some 72, some 73, some 10] rfl ?_
     simp only [zzK, QR, QP, QQ, JC, zz27, JM, F_cv87_3, F_cvV3, F_sl25, F_zero3, F_sz3, zz3, JS, zz1, zzG, zzD, zzC, QA, yyE, Qe, QS, QN, zzH, maxLen_le, QT, JE, F_by3, zz4, zz9, QB, JB, grow, unDs_map, hq64, zz6, QO, ↓Qb]
     have hm : (qsV t.toNat (sN l) pre).length + 1 ≤ 1000000 := by first | omega | (simp; omega)
     first | refine ⟨le_maxLen hm, by omega, ?_⟩ | refine ⟨by simp, le_maxLen hm, by omega, ?_⟩
     clear hm
     refine hK3 _ ?_; try clear hK3 K3
     refine kpA [0, 7, 10, 11, 12, 13, 17, 18, 46, 47, 48] ?_
     refine JA fun K3 hK3 => ?_
     refine Qz F_mixed [some 74, some 75, some 76, some 77, some 78, some 79, some 11] rfl ?_
     simp only [zzK, QR, QP, QQ, JC, F_ok117, F_ag117, F_sz117, zz8, zz23, zzD, QS, QN, zzH, zzC, QA, yyE, Qe, F_zero124, F_bld124, zz7, splice, Option.getD_some, QG, zz1, zzG, zz10, F_fld124_0, F_fld124_1, F_sl119, F_sz124, zz3, JS, maxLen_le, QT, JE, F_by124, zz4, zz9, QB, JB, grow, unDs_map, zz6, QO, ↓Qb]
     have hm : (rsV t.toNat (sN l) pre).length + 1 ≤ 1000000 := by first | omega | (simp; omega)
     first | refine ⟨le_maxLen hm, by omega, ?_⟩ | refine ⟨by simp, le_maxLen hm, by omega, ?_⟩
     clear hm
     refine hK3 _ ?_; try clear hK3 K3
     refine kpA [0, 7, 10, 11, 12, 17, 46, 47, 48] ?_
     refine Qz F_mixed [some 80, some 81, some 82, some 83, some 12] rfl ?_
     simp only [zzK, QR, QP, QQ, JC, zz27, JM, F_cv87_3, F_cvV3, zz21, zz33, JB, hq64, hlv, zz6, QO, ↓Qb]
     refine hK2 _ ?_; try clear hK2 K2
     refine kpA [0, 7, 10, 11, 12, 46, 47, 48] ?_
     refine Qz F_mixed [some 84, some 48] rfl ?_
     simp only [zzK, QR, QP, QQ, zz21, JM, zz26, JC, hwx, zz6, QO, ↓Qb]
     refine ⟨post2.length, _, by simp, le_SK (fun r => bif r == 11 then 79 else bif r == 10 then 73 else r) [] rfl (l' := [(0, .d (iv t)), (7, .ptr 7 0 0), (10, .ref 10 (qsV t.toNat (sN l) (pre ++ [x])).length), (11, .ref 11 (rsV t.toNat (sN l) (pre ++ [x])).length), (12, .d (iv (leftV t.toNat (sN l) (pre ++ [x])))), (46, .d (ints l)), (47, .d (iv l.length)), (48, .d (iv (pre ++ [x]).length))]) (m' := [(7, (⟨True, 117, 2, true, false, 7, [[.d (.v (.int .u64 ((sN l / 18446744073709551616 : Nat) : Int))), .d (.v (.int .u64 ((sN l % 18446744073709551616 : Nat) : Int)))]]⟩ : ARow)), (10, grow 3 1 10 ((qsV t.toNat (sN l) (pre ++ [x])).map fun n => [iv n])), (11, grow 124 3 11 ((rsV t.toNat (sN l) (pre ++ [x])).map restC))]) ?_ ?_ ?_ ?_, (pre ++ [x]), post2, by simp [hsp], rfl, rfl⟩
     ·simp only [leV, JD, QQ, Qd, Qc, hwx, hlv]; exact ⟨(by first | exact Qo rfl | exact Qq (by decide) | exact Qp | exact Qn _ | exact Qs (by simp) (by rfl) | exact Qr (by simp) (by rfl) (by first | rfl | (simp; done) | (simp; omega)) | exact Qt (by first | rfl | simp)), (by first | exact Qo rfl | exact Qq (by decide) | exact Qp | exact Qn _ | exact Qs (by simp) (by rfl) | exact Qr (by simp) (by rfl) (by first | rfl | (simp; done) | (simp; omega)) | exact Qt (by first | rfl | simp)), (Qr (by simp) (by rfl) (by rw [qsV_snoc]; simp)), (Qr (by simp) (by rfl) (by rw [rsV_snoc]; simp)), (by first | exact Qo rfl | exact Qq (by decide) | exact Qp | exact Qn _ | exact Qs (by simp) (by rfl) | exact Qr (by simp) (by rfl) (by first | rfl | (simp; done) | (simp; omega)) | exact Qt (by first | rfl | simp)), (by first | exact Qo rfl | exact Qq (by decide) | exact Qp | exact Qn _ | exact Qs (by simp) (by rfl) | exact Qr (by simp) (by rfl) (by first | rfl | (simp; done) | (simp; omega)) | exact Qt (by first | rfl | simp)), (by first | exact Qo rfl | exact Qq (by decide) | exact Qp | exact Qn _ | exact Qs (by simp) (by rfl) | exact Qr (by simp) (by rfl) (by first | rfl | (simp; done) | (simp; omega)) | exact Qt (by first | rfl | simp)), (by first | exact Qo rfl | exact Qq (by decide) | exact Qp | exact Qn _ | exact Qs (by simp) (by rfl) | exact Qr (by simp) (by rfl) (by first | rfl | (simp; done) | (simp; omega)) | exact Qt (by first | rfl | simp)), trivial⟩
     ·exact ⟨fun _ => ⟨_, rfl, (by first | exact Qw (by first | rfl | simp) | exact Qx (by first | rfl | simp) (by simp) ids_data | exact Qv (by simp [QX, QY]) | exact Qu (by simp) (by simp [QX, QY]))⟩, fun h => by simp at h, fun _ => ⟨_, rfl, Qw (by rw [qsV_snoc]; simp)⟩, fun h => by simp at h, fun _ => ⟨_, rfl, Qw (by rw [rsV_snoc]; simp only [List.map_append, QD, QE, restC, uw])⟩, fun h => by simp at h, trivial⟩
     ·simp [wfV, QY, QX, lookR, grow]
     ·exact ⟨by simp [QX, QY, lookR], wf_data _ _, wf_data _ _, trivial⟩
    ·intro hb
     obtain rfl : post = [] := by
      cases post with
      | nil => rfl
      | cons x t => have := Qf hb; simp at hspl; omega
     clear hb
     simp only [QG] at hsp
     subst hsp
     have hql := qsV_len t.toNat (sN l) l
     have hrl := rsV_len t.toNat (sN l) l
     have hOl := ordR_len t.toNat (sN l) l
     have hLb := left_bnd (T := t.toNat) hS
     refine awp_le (le_SK id [] rfl (l' := [(10, .ref 10 (qsV t.toNat (sN l) l).length), (11, .ref 11 (rsV t.toNat (sN l) l).length), (12, .d (iv (leftV t.toNat (sN l) l)))]) (m' := [(10, (⟨True, 3, 1, true, true, 10, ((qsV t.toNat (sN l) l).map fun n => [iv n]).map (·.map .d)⟩ : ARow)), (11, (⟨True, 124, 3, true, true, 11, ((rsV t.toNat (sN l) l).map restC).map (·.map .d)⟩ : ARow))]) ?_ ?_ ?_ ?_) ?_
     ·simp only [leV, JD, QQ, Qd, Qc]; exact ⟨(by first | exact Qo rfl | exact Qq (by decide) | exact Qp | exact Qn _ | exact Qs (by simp) (by rfl) | exact Qr (by simp) (by rfl) (by first | rfl | (simp; done) | (simp; omega)) | exact Qt (by first | rfl | simp)), (by first | exact Qo rfl | exact Qq (by decide) | exact Qp | exact Qn _ | exact Qs (by simp) (by rfl) | exact Qr (by simp) (by rfl) (by first | rfl | (simp; done) | (simp; omega)) | exact Qt (by first | rfl | simp)), (by first | exact Qo rfl | exact Qq (by decide) | exact Qp | exact Qn _ | exact Qs (by simp) (by rfl) | exact Qr (by simp) (by rfl) (by first | rfl | (simp; done) | (simp; omega)) | exact Qt (by first | rfl | simp)), trivial⟩
     ·exact ⟨fun _ => ⟨_, rfl, (by exact RowLe.uq_ (by rfl) rfl ids_data)⟩, fun h => by simp at h, fun _ => ⟨_, rfl, (by exact RowLe.uq_ (by rfl) rfl ids_data)⟩, fun h => by simp at h, trivial⟩
     ·simp [wfV, QY, QX, lookR, grow]
     ·exact ⟨wf_data _ _, wf_data _ _, trivial⟩
     refine JK ?_
     simp only [zz6, QO, ↓Qb]
     refine hK0 _ ?_; try clear hK0 K0
     refine kpA [10, 11, 12] ?_
     refine JA fun K0 hK0 => ?_
     refine awp_mut [some 85, some 86] rfl 1 rfl ?_
     simp only [zzK, QR, QP, QQ, JC, JE, JF, grow, JN, zzB, zz6, QO, ↓Qb]
     refine mut_go [11] F_go69 (restSortC t.toNat (sN l) l hl) (by simp [QY, QX, gA]) (by decide) (by first | exact ⟨by decide, by simp⟩ | rfl) ?_
     simp only [zzK, QR, QP, QQ, JC, JE, JF, grow, JN, zzB, zz6, QO, ↓Qb, mArgs_nil, asE_cl, asF_cl, asD_ptr, asG_ptr, asD_ep, asG_ep, List.mem_singleton, forall_eq, asEc_cons, asEc_nil, mArgs_d, mArgs_m, mRows_nil, mRows_cons, mNewL, nxM, mBase, mName, oksL, List.getElem?_cons_zero, List.getElem?_cons_succ, zzF, asE_ag, asE_d, asE_ref, asEc_cons, asEc_nil, asF_d, asF_ref, asF_ag, asGs, QY, QX, QM, List.not_mem_nil, false_implies, forall_const, atsL, asD_self, asD_nil, asD_sl, asD_agg, asD_int, asD_bool, asD_func, asD_ag, asD_ref, asG_d, asG_ag, asG_ref, JV, QZ, Qa, JO, Qm, QT, QS, zz9, QB, QA, zzC, yyF, zzD, S_func, Sk_func]
     refine ⟨fun x hx => restFlat _ x hx, ?_⟩
     refine hK0 _ ?_; try clear hK0 K0
     refine kpA [10, 11, 12] ?_
     refine JA fun K0 hK0 => ?_
     refine JA fun K1 hK1 => ?_
     refine Qz F_mixed [some 87, some 88] rfl ?_
     simp only [zzK, QR, QP, QQ, JC, zz6, QO, ↓Qb]
     refine hK1 _ ?_; try clear hK1 K1
     refine kpA [10, 11, 87, 88] ?_
     refine JH ?_
     refine JL (fun m s => ∃ (A : List RestV) (B : List RestV), (ordR t.toNat (sN l) l = A ++ B) ∧ ((A.length : Int) ≤ leftV t.toNat (sN l) l) ∧ m = B.length ∧ s = S 103 [(10, .ref 10 (bumpV (qsV t.toNat (sN l) l) (A.map RestV.at_)).length), (11, .ref 11 (ordR t.toNat (sN l) l).length), (87, .d (iv (leftV t.toNat (sN l) l))), (88, .d (iv A.length))] [(10, (⟨True, 3, 1, true, true, 10, ((bumpV (qsV t.toNat (sN l) l) (A.map RestV.at_)).map fun n => [iv n]).map (·.map .d)⟩ : ARow)), (11, (⟨True, 124, 3, true, true, 11, ((ordR t.toNat (sN l) l).map restC).map (·.map .d)⟩ : ARow))]) ((ordR t.toNat (sN l) l).length) _ (le_SK id [] rfl (l' := [(10, .ref 10 (bumpV (qsV t.toNat (sN l) l) ([].map RestV.at_)).length), (11, .ref 11 (ordR t.toNat (sN l) l).length), (87, .d (iv (leftV t.toNat (sN l) l))), (88, .d (iv [].length))]) (m' := [(10, (⟨True, 3, 1, true, true, 10, ((bumpV (qsV t.toNat (sN l) l) ([].map RestV.at_)).map fun n => [iv n]).map (·.map .d)⟩ : ARow)), (11, (⟨True, 124, 3, true, true, 11, ((ordR t.toNat (sN l) l).map restC).map (·.map .d)⟩ : ARow))]) ?_ ?_ ?_ ?_) ⟨[], (ordR t.toNat (sN l) l), rfl, by simp; omega, rfl, rfl⟩ ?_
     ·simp only [leV, JD, QQ, Qd, Qc]; exact ⟨(Qr (by simp) (by rfl) (by rfl)), (Qr (by simp) (by rfl) (by rw [ordR_len, rsV_len])), (by first | exact Qo rfl | exact Qq (by decide) | exact Qp | exact Qn _ | exact Qs (by simp) (by rfl) | exact Qr (by simp) (by rfl) (by first | rfl | (simp; done) | (simp; omega)) | exact Qt (by first | rfl | simp)), (by first | exact Qo rfl | exact Qq (by decide) | exact Qp | exact Qn _ | exact Qs (by simp) (by rfl) | exact Qr (by simp) (by rfl) (by first | rfl | (simp; done) | (simp; omega)) | exact Qt (by first | rfl | simp)), trivial⟩
     ·exact ⟨fun _ => ⟨_, rfl, (by first | exact Qw (by first | rfl | simp) | exact Qx (by first | rfl | simp) (by simp) ids_data | exact Qv (by simp [QX, QY]) | exact Qu (by simp) (by simp [QX, QY]))⟩, fun h => by simp at h, fun _ => ⟨_, rfl, (by first | exact Qw (by first | rfl | simp) | exact Qx (by first | rfl | simp) (by simp) ids_data | exact Qv (by simp [QX, QY]) | exact Qu (by simp) (by simp [QX, QY]))⟩, fun h => by simp at h, trivial⟩
     ·simp [wfV, QY, QX, lookR, grow]
     ·exact ⟨wf_data _ _, wf_data _ _, trivial⟩
     rintro m s ⟨A, B, hAB, hAL, rfl, rfl⟩
     have hABl := congrArg List.length hAB
     simp only [QC] at hABl
     refine JA fun K2 hK2 => ?_
     refine Qz F_mixed [some 89] rfl ?_
     simp only [zzK, QR, QP, QQ, zz21, JM, zz22, zz6, QO, ↓Qb]
     refine hK2 _ ?_; try clear hK2 K2
     refine kpA [10, 11, 87, 88, 89] ?_
     refine JA fun K2 hK2 => ?_
     refine cnA ?_ ?_
     ·intro hb
      obtain ⟨y, B2, rfl⟩ : ∃ y t, B = y :: t := by
       cases B with
       | nil => have := Qg hb; simp at hABl; omega
       | cons y t => exact ⟨y, t, rfl⟩
      have hcL := Qg hb
      clear hb
      simp only [QF] at hABl
      obtain ⟨hy1, hy2, hy3⟩ := ord_mid (by omega) hAB
      have hwy : Ql .i64 ((A.length : Int) + 1) = ((A ++ [y]).length : Int) := by rw [wrapI (by omega) (by omega)]; simp
      have gy : (((ordR t.toNat (sN l) l).map restC).map fun x => x.map AV.d).getD A.length [] = [.d (uw (y.r / 18446744073709551616)), .d (uw (y.r % 18446744073709551616)), .d (iv (y.at_ : Int))] := by
       rw [hAB]; simp [List.getD, restC]
      have by1 := ltI (show A.length < (ordR t.toNat (sN l) l).length by omega)
      have hbl : (bumpV (qsV t.toNat (sN l) l) (A.map RestV.at_)).length = l.length := by rw [bumpV_len, qsV_len]
      have by2 := ltI (show y.at_ < (bumpV (qsV t.toNat (sN l) l) (A.map RestV.at_)).length by omega)
      have cy1 := eq_true (show A.length < (ordR t.toNat (sN l) l).length by omega)
      have cy2 := eq_true (show y.at_ < (bumpV (qsV t.toNat (sN l) l) (A.map RestV.at_)).length by omega)
      have hw1 : Ql .i64 ((bumpV (qsV t.toNat (sN l) l) (A.map RestV.at_)).getD y.at_ 0 + 1) = (bumpV (qsV t.toNat (sN l) l) (A.map RestV.at_)).getD y.at_ 0 + 1 := wrapI (by omega) (by omega)
      have gz : (((bumpV (qsV t.toNat (sN l) l) (A.map RestV.at_)).map fun n => [iv n]).map fun x => x.map AV.d).getD y.at_ [] = [.d (iv ((bumpV (qsV t.toNat (sN l) l) (A.map RestV.at_)).getD y.at_ 0))] := oneI_get (by omega)
      have hst : (((bumpV (qsV t.toNat (sN l) l) (A.map RestV.at_)).map fun n => [iv n]).map fun x => x.map AV.d).set y.at_ [.d (iv ((bumpV (qsV t.toNat (sN l) l) (A.map RestV.at_)).getD y.at_ 0 + 1))] = (((bumpV (qsV t.toNat (sN l) l) ((A ++ [y]).map RestV.at_)).map fun n => [iv n]).map fun x => x.map AV.d) := by
       rw [List.map_append, QD, QE, bumpV_snoc]; exact oneI_set _ _
      refine JI ?_
      simp only [zz6, QO, ↓Qb]
      refine hK2 _ ?_; try clear hK2 K2
      refine kpA [10, 11, 87, 88] ?_
      refine JA fun K2 hK2 => ?_
      refine JH ?_
      refine JA fun K3 hK3 => ?_
      refine Qz F_mixed [some 90, some 19] rfl ?_
      simp only [zzK, QR, QP, QQ, JC, JB, zz6, QO, ↓Qb]
      refine hK3 _ ?_; try clear hK3 K3
      refine kpA [10, 11, 19, 87, 88] ?_
      refine Qz F_mixed [some 91, some 92, some 93, some 94, some 95, some 96, some 97, some 98, some 99, some 100, none] rfl ?_
      simp only [zzK, QR, QP, QQ, JC, JW, zz23, zz24, F_sl119, F_sz124, QA, zzC, yyE, Qe, zz19, F_off124_1, zzH, QN, QS, F_ok3, F_ag3, F_sz3, zz8, zzD, F_sl25, zz21, JM, zz26, zz18, splice, QG, zz1, zzG, gy, by1, by2, cy1, cy2, gz, hw1, hst, ge0, QV, JN, QW, zz6, QO, ↓Qb]
      refine hK2 _ ?_; try clear hK2 K2
      refine kpA [10, 11, 87, 88] ?_
      refine Qz F_mixed [some 101, some 88] rfl ?_
      simp only [zzK, QR, QP, QQ, zz21, JM, zz26, JC, hwy, zz6, QO, ↓Qb]
      refine ⟨B2.length, _, by simp, le_SK id [] rfl (l' := [(10, .ref 10 (bumpV (qsV t.toNat (sN l) l) ((A ++ [y]).map RestV.at_)).length), (11, .ref 11 (ordR t.toNat (sN l) l).length), (87, .d (iv (leftV t.toNat (sN l) l))), (88, .d (iv (A ++ [y]).length))]) (m' := [(10, (⟨True, 3, 1, true, true, 10, ((bumpV (qsV t.toNat (sN l) l) ((A ++ [y]).map RestV.at_)).map fun n => [iv n]).map (·.map .d)⟩ : ARow)), (11, (⟨True, 124, 3, true, true, 11, ((ordR t.toNat (sN l) l).map restC).map (·.map .d)⟩ : ARow))]) ?_ ?_ ?_ ?_, (A ++ [y]), B2, by simp [hAB], by simp; omega, rfl, rfl⟩
      ·simp only [leV, JD, QQ, Qd, Qc, hwy]; exact ⟨(Qr (by simp) (by rfl) (by simp [bumpV_len])), (by first | exact Qo rfl | exact Qq (by decide) | exact Qp | exact Qn _ | exact Qs (by simp) (by rfl) | exact Qr (by simp) (by rfl) (by first | rfl | (simp; done) | (simp; omega)) | exact Qt (by first | rfl | simp)), (by first | exact Qo rfl | exact Qq (by decide) | exact Qp | exact Qn _ | exact Qs (by simp) (by rfl) | exact Qr (by simp) (by rfl) (by first | rfl | (simp; done) | (simp; omega)) | exact Qt (by first | rfl | simp)), (by first | exact Qo rfl | exact Qq (by decide) | exact Qp | exact Qn _ | exact Qs (by simp) (by rfl) | exact Qr (by simp) (by rfl) (by first | rfl | (simp; done) | (simp; omega)) | exact Qt (by first | rfl | simp)), trivial⟩
      ·exact ⟨fun _ => ⟨_, rfl, (by first | exact Qw (by first | rfl | simp) | exact Qx (by first | rfl | simp) (by simp) ids_data | exact Qv (by simp [QX, QY]) | exact Qu (by simp) (by simp [QX, QY]))⟩, fun h => by simp at h, fun _ => ⟨_, rfl, (by first | exact Qw (by first | rfl | simp) | exact Qx (by first | rfl | simp) (by simp) ids_data | exact Qv (by simp [QX, QY]) | exact Qu (by simp) (by simp [QX, QY]))⟩, fun h => by simp at h, trivial⟩
      ·simp [wfV, QY, QX, lookR, grow]
      ·exact ⟨wf_data _ _, wf_data _ _, trivial⟩
     ·intro hb
      have hA : A = (ordR t.toNat (sN l) l).take (leftV t.toNat (sN l) l).toNat := by
       have := Qf hb
       rw [hAB, List.take_append_of_le_length (by omega), List.take_of_length_le (by omega)]
      clear hb
      refine JK ?_
      simp only [zz6, QO, ↓Qb]
      refine hK0 _ ?_; try clear hK0 K0
      refine kpA [10] ?_
      refine JA fun K0 hK0 => ?_
      refine Qz F_mixed [some 102, some 4, some 5] rfl ?_
      simp only [zzK, QR, QP, QQ, JC, JB, zz6, QO, ↓Qb]
      refine hK0 _ ?_; try clear hK0 K0
      refine kpA [4, 5] ?_
      refine JJ ?_
      simp only [zz6, QO, ↓Qb]
      rw [show splitV t l = bumpV (qsV t.toNat (sN l) l) (A.map RestV.at_) by rw [splitV_prt hs hS, prt, atK, ← hA], splitE_prt hs hS]
      refine done1 10 (by simp only [resCs, resC]; trivial) ?_ (by simp [Ja, Jb, Jc]) (by simp [QY, QX]) (by rfl) trivial rfl rfl ?_ (by simp [flatDs, Jc])
      ·simp only [QD, QE, resA, JZ, QR, QP, JD, QQ, Qd, Qc, JP]; rfl
      ·rfl
end Go.Proofs.Ytjkfadaedgidpaa
