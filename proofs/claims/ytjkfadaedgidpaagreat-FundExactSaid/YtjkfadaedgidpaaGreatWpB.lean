import Derived.Test.YtjkfadaedgidpaaGreatSpecJK
import Derived.Test.YtjkfadaedgidpaaGreatWpA
namespace Go.Proofs.YtjkfadaedgidpaaGreat
open Go.RowKit
set_option linter.unusedVariables false
set_option linter.unusedSimpArgs false
open Option renaming map_some → QA, bind_some → QB
open List renaming length_append → QC, map_cons → QD, map_nil → QE, length_cons → QF, append_nil → QG, drop_zero → QH, getD_cons_zero → QI, getD_cons_succ → QJ, take_succ_cons → QK, drop_succ_cons → QL, length_singleton → QM
open Nat renaming zero_add → QN, reduceEqDiff → QO, reduceLeDiff → QP, reduceBEq → QQ, reduceLT → QR, reduceAdd → QS, reduceMul → QT, reduceSub → QU
open Int renaming toNat_natCast → QV
open D.agg renaming injEq → QW
open AV renaming idsL → QX, ids → QY, ren → QZ, renL → Qa
open _root_ renaming reduceIte → Qb, cond_false → Qc, cond_true → Qd, reduceCtorEq → Qe, of_decide_eq_false → Qf, of_decide_eq_true → Qg, imp_self → Qh, imp_and → Qi, and_imp → Qj, not_false_eq_true → Qk
open IntKind renaming wrap → Ql
open ORow renaming row → Qm
open VLe renaming refl → Qn, still → Qo, dE → Qt
open RowLe renaming same → Qu, still → Qv, data_ → Qw
open Go.Proofs.YtjkfadaedgidpaaGreat renaming awp_plain → Qz, awp_seq → JA, evS_assign → JB, evS_move → JC, look_cons → JD, evS_call → JE, evC_value → JF, awp_block → JH, awp_skip → JI, awp_ret → JJ, awp_exit → JK, awp_loop → JL, gr_v → JM, len_map → JN, addRows → JO, resAll → JP, pickK_l → JQ, pickK_r → JR, newRow1 → JS, aV_ids → JU, freeN → JV, evS_indexAddr → JW, S_getD → JZ, flatA → Ja, flatAs → Jb, flatD → Jc
theorem F_go119 : goFn Tryz.prog 119 := ⟨_, Tryz.func119, rfl, rfl⟩
theorem F_go110 : goFn Tryz.prog 110 := ⟨_, Tryz.func110, rfl, rfl⟩
theorem F_sl30 : sliceT Tryz.prog 30 = some 3 := by kernel_rfl
theorem F_sz3 : szT Tryz.prog 3 = 1 := by kernel_rfl
theorem F_ok3 : tyOk Tryz.prog 3 = true := by kernel_rfl
theorem F_ag3 : aggT Tryz.prog 3 = false := by kernel_rfl
theorem F_zero3 : zeroT Tryz.prog 3 = some [(.int .i64 0)] := by kernel_rfl
theorem F_go54 : goFn Tryz.prog 54 := ⟨_, Tryz.func54, rfl, rfl⟩
theorem F_go60 : goFn Tryz.prog 60 := ⟨_, Tryz.func60, rfl, rfl⟩
theorem F_off73_0 : offT Tryz.prog 73 0 = some 0 := by kernel_rfl
theorem F_off73_2 : offT Tryz.prog 73 2 = some 2 := by kernel_rfl
theorem F_go96 : goFn Tryz.prog 96 := ⟨_, Tryz.func96, rfl, rfl⟩
theorem F_off73_1 : offT Tryz.prog 73 1 = some 1 := by kernel_rfl
theorem F_off75_0 : offT Tryz.prog 75 0 = some 0 := by kernel_rfl
theorem F_ok73 : tyOk Tryz.prog 73 = true := by kernel_rfl
theorem F_ag73 : aggT Tryz.prog 73 = true := by kernel_rfl
theorem F_sz73 : szT Tryz.prog 73 = 3 := by kernel_rfl
theorem F_go56 : goFn Tryz.prog 56 := ⟨_, Tryz.func56, rfl, rfl⟩
theorem F_zero75 : zeroT Tryz.prog 75 = some [(.int .i64 0), (.int .i64 0), (.int .i64 0), (.int .i64 0)] := by kernel_rfl
theorem F_off75_1 : offT Tryz.prog 75 1 = some 3 := by kernel_rfl
theorem F_go53 : goFn Tryz.prog 53 := ⟨_, Tryz.func53, rfl, rfl⟩
theorem F_go88 : goFn Tryz.prog 88 := ⟨_, Tryz.func88, rfl, rfl⟩
theorem F_by75 : byT Tryz.prog 75 = 32 := by kernel_rfl
theorem F_go89 : goFn Tryz.prog 89 := ⟨_, Tryz.func89, rfl, rfl⟩
theorem F_zero73 : zeroT Tryz.prog 73 = some [(.int .i64 0), (.int .i64 0), (.int .i64 0)] := by kernel_rfl
theorem F_eqi73 (a0 b0 : Int) (a1 b1 : Int) (a2 b2 : Int) (w : World) : (Op.equalIn 10000 73 (.agg #[.int .i64 a0, .int .i64 a1, .int .i64 a2]) (.agg #[.int .i64 b0, .int .i64 b1, .int .i64 b2])).run Tryz.prog w = .ok (veqL [.int .i64 a0, .int .i64 a1, .int .i64 a2] [.int .i64 b0, .int .i64 b1, .int .i64 b2]) w := by
 have u3 := Tryz.underlying3
 have g3 := Tryz.isAgg3
 have z3 := Tryz.sizeOf3
 have hS : Tryz.prog.underlying 73 = some (.struct (Tryz.prog.fieldsOf 73)) := by kernel_rfl
 have hp : Tryz.prog.stoodInHeld 73 = false := by kernel_rfl
 rw [show (10000 : Nat) = 9999 + 1 from rfl, run_equalIn_agg w 9999 73 _ _ hS hp]
 simp only [Program.fieldsOf, Tryz.underlying73]
 go_simp
 by_cases h0 : a0 = b0 <;> by_cases h1 : a1 = b1 <;> by_cases h2 : a2 = b2 <;> simp [veqL, veq, h0, h1, h2]
theorem F_eql73 (a0 b0 : Int) (a1 b1 : Int) (a2 b2 : Int) (x y : Operand) : pureBin Tryz.prog .eql 73 x y (.agg #[.int .i64 a0, .int .i64 a1, .int .i64 a2]) (.agg #[.int .i64 b0, .int .i64 b1, .int .i64 b2]) = True := by
 have hm : Tryz.prog.eqGuardType Tryz.prog.depth 73 = false := by kernel_rfl
 simp only [pureBin, Pure, eq_iff_iff, iff_true]
 intro w
 simp only [Sem.run_bind, run_eqGuard_agg w .eql 73 x y _ _ hm, Result.andThen_ok, run_eql_struct, F_eqi73, binV]
theorem F_go29 : goFn Tryz.prog 29 := ⟨_, Tryz.func29, rfl, rfl⟩
theorem F_bld75 : bldT Tryz.prog 75 = true := by kernel_rfl
theorem F_fld75_0 : fldT Tryz.prog 75 0 = some (0, 3) := by kernel_rfl
theorem F_fld75_1 : fldT Tryz.prog 75 1 = some (3, 1) := by kernel_rfl
theorem F_by3 : byT Tryz.prog 3 = 8 := by kernel_rfl
theorem F_go124 : goFn Tryz.prog 124 := ⟨_, Tryz.func124, rfl, rfl⟩
theorem F_off138_0 : offT Tryz.prog 138 0 = some 0 := by kernel_rfl
theorem F_ok94 : tyOk Tryz.prog 94 = true := by kernel_rfl
theorem F_ag94 : aggT Tryz.prog 94 = false := by kernel_rfl
theorem F_sz94 : szT Tryz.prog 94 = 1 := by kernel_rfl
theorem F_off138_1 : offT Tryz.prog 138 1 = some 1 := by kernel_rfl
theorem F_go114 : goFn Tryz.prog 114 := ⟨_, Tryz.func114, rfl, rfl⟩
theorem F_go113 : goFn Tryz.prog 113 := ⟨_, Tryz.func113, rfl, rfl⟩
theorem F_ag138 : aggT Tryz.prog 138 = true := by kernel_rfl
theorem F_sz138 : szT Tryz.prog 138 = 2 := by kernel_rfl
theorem F_ok138 : tyOk Tryz.prog 138 = true := by kernel_rfl
theorem F_zero138 : zeroT Tryz.prog 138 = some [(.int .u64 0), (.int .u64 0)] := by kernel_rfl
theorem F_bld138 : bldT Tryz.prog 138 = true := by kernel_rfl
theorem F_fld138_0 : fldT Tryz.prog 138 0 = some (0, 1) := by kernel_rfl
theorem F_fld138_1 : fldT Tryz.prog 138 1 = some (1, 1) := by kernel_rfl
theorem F_go105 : goFn Tryz.prog 105 := ⟨_, Tryz.func105, rfl, rfl⟩
theorem F_go111 : goFn Tryz.prog 111 := ⟨_, Tryz.func111, rfl, rfl⟩
set_option maxRecDepth 100000 in
set_option maxHeartbeats 4000000 in
theorem sLeg_stable {cf : FuncId} {cs : List D} {c : List D → List D → Int} {Pd : List D → Prop} (h : SC Tryz.prog cf cs c Pd 4) (M : List (List D)) (hM : okM Pd M) (hN : M.length ≤ 1000000) (n : Nat) (hn : n = M.length) : MCalls Tryz.prog 110 [.m 0, .d (iv n), .d (.fn cf cs)] [⟨75, 4, M⟩] [⟨75, 4, isort (ltc c) M⟩] [] (.tp []) := by
 refine mcalls_S (rs := []) Tryz.func110 rfl rfl 63 [(0, .ref 1000000000 (M).length), (1, .d (iv n)), (2, .d (.fn cf cs))] [(1000000000, (⟨True, 75, 4, true, false, 1000000000, (M).map (·.map .d)⟩ : ARow))] rfl (by simp) (by rfl) (by rfl) (by rfl) (by rfl) (by rfl) ?_
 subst hn
 change AWp _ _ _ (S _ _ [(1000000000, (⟨True, 75, 4, true, false, 1000000000, aV (M)⟩ : ARow))])
 refine pq fun K0 hK0 => ?_
 simp only [zzK, QR, QP, QQ, JB, zz6, QO, ↓Qb]
 refine kK hK0 [0, 1, 2, 6] ?_
 refine pq fun K0 hK0 => ?_
 simp only [zzK, QR, QP, QQ, JC, JB, zz6, QO, ↓Qb]
 refine kK hK0 [0, 1, 2, 6, 7, 8] ?_
 refine JA fun K0 hK0 => ?_
 refine JH ?_
 refine JL (fun mm s => ∃ A B A2 : List (List D), M = A ++ B ∧ A2.length = A.length ∧ okM Pd (A2 ++ B) ∧ (∀ Y, Chk (ltc c) 20 B Y → Chk (ltc c) 20 M (A2 ++ Y)) ∧ mm = B.length ∧ s = S 63 [(0, .ref 1000000000 M.length), (1, .d (iv M.length)), (2, .d (.fn cf cs)), (6, .d (iv 20)), (7, .d (iv (A2).length)), (8, .d (iv ((A2).length + 20 : Nat)))] [(1000000000, (⟨True, 75, 4, true, false, 1000000000, aV ((A2 ++ B))⟩ : ARow))]) M.length _ (leK id [] (hr := by exact ⟨fun _ => ⟨_, rfl, Qu rfl (JU _)⟩, (by simp), trivial⟩) (hwr := by exact ⟨fun e he r' hr' => by rw [JU _ e he] at hr'; simp at hr', trivial⟩)) ⟨[], M, [], rfl, rfl, hM, fun Y h => h, rfl, rfl⟩ ?_
 rintro mm s ⟨A, B, A2, hAB, hA2, hok, hK, rfl, rfl⟩
 have hlM := congrArg List.length hAB
 simp only [QC] at hlM
 refine JA fun K2 hK2 => ?_
 refine pq fun K3 hK3 => ?_
 simp only [zzK, QR, QP, QQ, JC, zz21, JM, b_leq, pure_leq, zz6, QO, ↓Qb]
 refine kK hK3 [0, 1, 2, 6, 7, 8, 13] ?_
 refine cnA ?_ ?_
 ·intro hb
  have hge : 20 ≤ B.length := by have := Qg hb; omega
  clear hb
  obtain ⟨C, B2, rfl, hC⟩ := split_at B 20 hge
  simp only [QC] at hlM
  have hlC : (A2 ++ isort (ltc c) C).length = A2.length + 20 := by simp only [QC, isort_len]; omega
  have hw8 : Ql .i64 (((A2.length + 20 : Nat) : Int) + 20) = ((A2.length + 20 + 20 : Nat) : Int) := by rw [wrapI (by omega) (by omega)]; omega
  have hN2 : (A2 ++ (C ++ B2)).length ≤ 1000000 := by simp only [QC]; omega
  have hl2 : (A2 ++ (C ++ B2)).length = M.length := by simp only [QC]; omega
  have hof : okM Pd (A2 ++ (isort (ltc c) C ++ B2)) := by
   simp only [okM_app] at hok ⊢
   exact ⟨hok.1, okM_isort hok.2.1, hok.2.2⟩
  refine JI ?_
  simp only [zz6, QO, ↓Qb]
  refine kK hK2 [0, 1, 2, 6, 7, 8] ?_
  refine JH ?_
  refine JA fun K2 hK2 => ?_
  refine awp_mut [some 14, some 15, some 16, some 17, some 18] rfl 4 rfl ?_
  simp only [zzK, QR, QP, QQ, JC, JE, JF, aV, hl2, zzB, zz6, QO, ↓Qb]
  refine mut_go [1000000000] F_go119 (sLeg_ins h A2 C B2 hok hN2 A2.length (A2.length + 20) rfl (by omega)) (by simp [QY, QX]) (by decide) (by first | exact ⟨by decide, by simp⟩ | rfl) ?_
  simp only [zzK, QR, QP, QQ, JC, JE, JF, aV, hl2, zzB, zz6, QO, ↓Qb, mArgs_nil, asE_cl, asF_cl, asD_ptr, asG_ptr, asD_ep, asG_ep, List.mem_singleton, forall_eq, asEc_cons, asEc_nil, mArgs_d, mArgs_m, mRows_nil, mRows_cons, mNewL, nxM, mBase, mName, oksL, List.getElem?_cons_zero, List.getElem?_cons_succ, zzF, asE_ag, asE_d, asE_ref, asEc_cons, asEc_nil, asF_d, asF_ref, asF_ag, asGs, QY, QX, QM, List.not_mem_nil, false_implies, forall_const, atsL, asD_self, asD_nil, asD_sl, asD_agg, asD_int, asD_bool, asD_func, asD_ag, asD_ref, asG_d, asG_ag, asG_ref, JV, QZ, Qa, JO, Qm, QT, QS, zz9, QB, QA, zzC, yyF, zzD, S_func, Sk_func]
  refine ⟨fun l hl2 => h.flat l (hof l hl2), ?_⟩
  refine kK hK2 [0, 1, 2, 6, 8] ?_
  refine pq fun K2 hK2 => ?_
  simp only [zzK, QR, QP, QQ, JC, JB, zz6, QO, ↓Qb]
  refine kK hK2 [0, 1, 2, 6, 7, 8] ?_
  refine pz ?_
  simp only [zzK, QR, QP, QQ, JC, zz21, JM, zz26, JB, hw8, zz6, QO, ↓Qb]
  refine ⟨B2.length, _, by simp only [QC]; omega, leK id [] (hl := by simp only [leV, JD, QQ, Qd, Qc, hw8, hlC]; exact ⟨Qn _, Qn _, Qn _, Qn _, Qn _, Qn _, trivial⟩) (hr := by exact ⟨fun _ => ⟨_, rfl, Qu (by rw [List.append_assoc]; rfl) (JU _)⟩, (by simp), trivial⟩) (hwr := by exact ⟨fun e he r' hr' => by rw [ids_data e he] at hr'; simp at hr', trivial⟩), A ++ C, B2, A2 ++ isort (ltc c) C, by rw [hAB]; simp, by simp only [QC, isort_len]; omega, by simpa only [List.append_assoc] using hof, fun Y hY => by rw [List.append_assoc]; exact hK _ (.cons C B2 Y hC hY), rfl, rfl⟩
 ·intro hb
  have hlt : B.length < 20 := by have := Qf hb; omega
  clear hb
  have hN2 : (A2 ++ (B ++ [])).length ≤ 1000000 := by simp only [QC, QG]; omega
  have hl2 : (A2 ++ (B ++ [])).length = M.length := by simp only [QC, QG]; omega
  have hok2 : okM Pd (A2 ++ (B ++ [])) := by simpa only [QG] using hok
  have hof : okM Pd (A2 ++ (isort (ltc c) B ++ [])) := by
   simp only [okM_app] at hok2 ⊢
   exact ⟨hok2.1, okM_isort hok2.2.1, hok2.2.2⟩
  have hck := hK _ (.last B (by omega))
  refine JK ?_
  simp only [zz6, QO, ↓Qb]
  refine kK hK0 [0, 1, 2, 6, 7] ?_
  refine JA fun K0 hK0 => ?_
  rw [show aV (A2 ++ B) = List.map (fun e : List D => e.map AV.d) (A2 ++ (B ++ [])) by rw [QG]; rfl]
  refine awp_mut [some 23, some 24, some 25, some 26, some 27] rfl 4 rfl ?_
  simp only [zzK, QR, QP, QQ, JC, JE, JF, hl2, zzB, zz6, QO, ↓Qb]
  refine mut_go [1000000000] F_go119 (sLeg_ins h A2 B [] hok2 hN2 A2.length M.length rfl (by omega)) (by simp [QY, QX]) (by decide) (by first | exact ⟨by decide, by simp⟩ | rfl) ?_
  simp only [zzK, QR, QP, QQ, JC, JE, JF, hl2, zzB, zz6, QO, ↓Qb, mArgs_nil, asE_cl, asF_cl, asD_ptr, asG_ptr, asD_ep, asG_ep, List.mem_singleton, forall_eq, asEc_cons, asEc_nil, mArgs_d, mArgs_m, mRows_nil, mRows_cons, mNewL, nxM, mBase, mName, oksL, List.getElem?_cons_zero, List.getElem?_cons_succ, zzF, asE_ag, asE_d, asE_ref, asEc_cons, asEc_nil, asF_d, asF_ref, asF_ag, asGs, QY, QX, QM, List.not_mem_nil, false_implies, forall_const, atsL, asD_self, asD_nil, asD_sl, asD_agg, asD_int, asD_bool, asD_func, asD_ag, asD_ref, asG_d, asG_ag, asG_ref, JV, QZ, Qa, JO, Qm, QT, QS, zz9, QB, QA, zzC, yyF, zzD, S_func, Sk_func]
  refine ⟨fun l hl2 => h.flat l (hof l hl2), ?_⟩
  refine kK hK0 [0, 1, 2, 6] ?_
  refine JH ?_
  refine JL (fun mm s => ∃ (bs : Nat) (R : List (List D)), 0 < bs ∧ Chk (ltc c) bs M R ∧ mm = M.length - bs ∧ s = S 63 [(0, .ref 1000000000 M.length), (1, .d (iv M.length)), (2, .d (.fn cf cs)), (6, .d (iv bs))] [(1000000000, (⟨True, 75, 4, true, false, 1000000000, aV (R)⟩ : ARow))]) (M.length - 20) _ (leK id [] (hr := by exact ⟨fun _ => ⟨_, rfl, Qu (by rw [QG]; rfl) (JU _)⟩, (by simp), trivial⟩) (hwr := by exact ⟨fun e he r' hr' => by rw [ids_data e he] at hr'; simp at hr', trivial⟩)) ⟨20, _, by omega, hck, rfl, rfl⟩ ?_
  rintro mm s ⟨bs, R, hbs, hck, rfl, rfl⟩
  refine JA fun K1 hK1 => ?_
  refine pq fun K2 hK2 => ?_
  simp only [zzK, QR, QP, QQ, JC, zz21, JM, zz22, zz6, QO, ↓Qb]
  refine kK hK2 [0, 1, 2, 6, 30] ?_
  refine cnA ?_ ?_
  ·intro hb
   have hlt : bs < M.length := by have := Qg hb; omega
   clear hb
   have hw2b : Ql .i64 (2 * (bs : Int)) = ((bs + bs : Nat) : Int) := by rw [wrapI (by omega) (by omega)]; omega
   have hw16 : Ql .i64 ((bs : Int) * 2) = ((bs + bs : Nat) : Int) := by rw [wrapI (by omega) (by omega)]; omega
   refine JI ?_
   simp only [zz6, QO, ↓Qb]
   refine kK hK1 [0, 1, 2, 6] ?_
   refine JH ?_
   refine pq fun K1 hK1 => ?_
   simp only [zzK, QR, QP, QQ, JC, zz21, JM, zz36, JB, hw2b, zz6, QO, ↓Qb]
   refine kK hK1 [0, 1, 2, 6, 7, 8] ?_
   refine JA fun K1 hK1 => ?_
   refine JH ?_
   refine JL (fun mm s => ∃ A B A2 C : List (List D), M = A ++ B ∧ A2.length = A.length ∧ okM Pd (A2 ++ C) ∧ Chk (ltc c) bs B C ∧ (∀ Y, Chk (ltc c) (bs + bs) B Y → Chk (ltc c) (bs + bs) M (A2 ++ Y)) ∧ mm = B.length ∧ s = S 63 [(0, .ref 1000000000 M.length), (1, .d (iv M.length)), (2, .d (.fn cf cs)), (6, .d (iv bs)), (7, .d (iv (A2).length)), (8, .d (iv ((A2).length + (bs + bs) : Nat)))] [(1000000000, (⟨True, 75, 4, true, false, 1000000000, aV ((A2 ++ C))⟩ : ARow))]) M.length _ (leK id [] (hl := by simp only [leV, JD, QQ, Qd, Qc, List.length_nil, QN]; exact ⟨Qn _, Qn _, Qn _, Qn _, Qn _, Qn _, trivial⟩) (hr := by exact ⟨fun _ => ⟨_, rfl, Qu rfl (JU _)⟩, (by simp), trivial⟩) (hwr := by exact ⟨fun e he r' hr' => by rw [JU _ e he] at hr'; simp at hr', trivial⟩)) ⟨[], M, [], R, rfl, rfl, hck.ok hM, hck, fun Y h => h, rfl, rfl⟩ ?_
   rintro mm s ⟨A, B, A2, C, hAB, hA2, hok, hBC, hK, rfl, rfl⟩
   have hlM := congrArg List.length hAB
   simp only [QC] at hlM
   have hlC := hBC.len
   refine JA fun K3 hK3 => ?_
   refine pq fun K4 hK4 => ?_
   simp only [zzK, QR, QP, QQ, JC, zz21, JM, b_leq, pure_leq, zz6, QO, ↓Qb]
   refine kK hK4 [0, 1, 2, 6, 7, 8, 35] ?_
   refine cnA ?_ ?_
   ·intro hb
    have hge : bs + bs ≤ B.length := by have := Qg hb; omega
    clear hb
    obtain ⟨c1, c2, r, Rr, rfl, rfl, hc1, hc2, hrR⟩ := hBC.two hbs hge
    simp only [QC] at hlM
    have hl12 : (A2 ++ isort (ltc c) (c1 ++ c2)).length = A2.length + (bs + bs) := by simp only [QC, isort_len]; omega
    have hlR := hrR.len
    have hw10 : Ql .i64 ((A2.length : Int) + (bs : Int)) = ((A2.length + bs : Nat) : Int) := by rw [wrapI (by omega) (by omega)]; omega
    have hw12 : Ql .i64 (((A2.length + (bs + bs) : Nat) : Int) + ((bs + bs : Nat) : Int)) = ((A2.length + (bs + bs) + (bs + bs) : Nat) : Int) := by rw [wrapI (by omega) (by omega)]; omega
    have hN2 : (A2 ++ (isort (ltc c) c1 ++ (isort (ltc c) c2 ++ Rr))).length ≤ 1000000 := by simp only [QC, isort_len]; omega
    have hl2 : (A2 ++ (isort (ltc c) c1 ++ (isort (ltc c) c2 ++ Rr))).length = M.length := by simp only [QC, isort_len]; omega
    have hom : okM Pd (A2 ++ (mergeS (ltc c) (isort (ltc c) c1) (isort (ltc c) c2) ++ Rr)) := okM_merge hok
    have hof : okM Pd (A2 ++ (isort (ltc c) (c1 ++ c2) ++ Rr)) := by rw [merge_isort h.swo] at hom; exact hom
    refine JI ?_
    simp only [zz6, QO, ↓Qb]
    refine kK hK3 [0, 1, 2, 6, 7, 8] ?_
    refine JH ?_
    refine JA fun K3 hK3 => ?_
    refine awp_mut [some 36, some 37, some 38, some 39, some 40, some 41, some 42, some 43] rfl 7 rfl ?_
    simp only [zzK, QR, QP, QQ, JC, zz21, JM, zz26, JE, JF, aV, hl2, hw10, zzB, zz6, QO, ↓Qb]
    refine mut_go [1000000000] F_go120 (sLeg_sym h (bs + bs + 1) A2 (isort (ltc c) c1) (isort (ltc c) c2) Rr hok hN2 (List.length_pos_iff.1 (by rw [isort_len]; omega)) (List.length_pos_iff.1 (by rw [isort_len]; omega)) (Srt_isort h.swo _) (Srt_isort h.swo _) A2.length (A2.length + bs) (A2.length + (bs + bs)) rfl (by rw [isort_len]; omega) (by rw [isort_len, isort_len]; omega) (by rw [isort_len, isort_len]; omega)) (by simp [QY, QX]) (by decide) (by first | exact ⟨by decide, by simp⟩ | rfl) ?_
    simp only [zzK, QR, QP, QQ, JC, zz21, JM, zz26, JE, JF, aV, hl2, hw10, zzB, zz6, QO, ↓Qb, mArgs_nil, asE_cl, asF_cl, asD_ptr, asG_ptr, asD_ep, asG_ep, List.mem_singleton, forall_eq, asEc_cons, asEc_nil, mArgs_d, mArgs_m, mRows_nil, mRows_cons, mNewL, nxM, mBase, mName, oksL, List.getElem?_cons_zero, List.getElem?_cons_succ, zzF, asE_ag, asE_d, asE_ref, asEc_cons, asEc_nil, asF_d, asF_ref, asF_ag, asGs, QY, QX, QM, List.not_mem_nil, false_implies, forall_const, atsL, asD_self, asD_nil, asD_sl, asD_agg, asD_int, asD_bool, asD_func, asD_ag, asD_ref, asG_d, asG_ag, asG_ref, JV, QZ, Qa, JO, Qm, QT, QS, zz9, QB, QA, zzC, yyF, zzD, S_func, Sk_func]
    refine ⟨fun l hl2 => h.flat l (hom l hl2), ?_⟩
    refine kK hK3 [0, 1, 2, 6, 8] ?_
    refine pq fun K3 hK3 => ?_
    simp only [zzK, QR, QP, QQ, JC, JB, zz6, QO, ↓Qb]
    refine kK hK3 [0, 1, 2, 6, 7, 8] ?_
    refine pz ?_
    simp only [zzK, QR, QP, QQ, JC, zz21, JM, zz36, zz26, JB, hw2b, hw12, zz6, QO, ↓Qb]
    refine ⟨r.length, _, by simp only [QC]; omega, leK id [] (hl := by simp only [leV, JD, QQ, Qd, Qc, hw12, hl12]; exact ⟨Qn _, Qn _, Qn _, Qn _, Qn _, Qn _, trivial⟩) (hr := by exact ⟨fun _ => ⟨_, rfl, Qu (by rw [merge_isort h.swo, List.append_assoc]; rfl) (JU _)⟩, (by simp), trivial⟩) (hwr := by exact ⟨fun e he r' hr' => by rw [ids_data e he] at hr'; simp at hr', trivial⟩), A ++ (c1 ++ c2), r, A2 ++ isort (ltc c) (c1 ++ c2), Rr, by rw [hAB]; simp, by simp only [QC, isort_len]; omega, by simpa only [List.append_assoc] using hof, hrR, fun Y hY => by rw [List.append_assoc, show c1 ++ (c2 ++ r) = (c1 ++ c2) ++ r by simp] at *; exact hK _ (.cons (c1 ++ c2) r Y (by simp only [QC]; omega) hY), rfl, rfl⟩
   ·intro hb
    have hlt2 : B.length < bs + bs := by have := Qf hb; omega
    clear hb
    have hw13 : Ql .i64 ((A2.length : Int) + (bs : Int)) = ((A2.length + bs : Nat) : Int) := by rw [wrapI (by omega) (by omega)]; omega
    refine JK ?_
    simp only [zz6, QO, ↓Qb]
    refine kK hK1 [0, 1, 2, 6, 7] ?_
    refine JA fun K1 hK1 => ?_
    refine pq fun K2 hK2 => ?_
    simp only [zzK, QR, QP, QQ, JC, zz21, JM, zz26, JB, hw13, zz6, QO, ↓Qb]
    refine kK hK2 [0, 1, 2, 6, 7, 9] ?_
    refine pq fun K2 hK2 => ?_
    simp only [zzK, QR, QP, QQ, JC, zz21, JM, zz22, zz6, QO, ↓Qb]
    refine kK hK2 [0, 1, 2, 6, 7, 9, 54] ?_
    refine cnA ?_ ?_
    ·intro hb
     have hgt : bs < B.length := by have := Qg hb; omega
     clear hb
     obtain ⟨c1, c2, rfl, rfl, hc1⟩ := hBC.half hgt hlt2
     simp only [QC] at hlM hgt hlt2
     have hN2 : (A2 ++ (isort (ltc c) c1 ++ (isort (ltc c) c2 ++ []))).length ≤ 1000000 := by simp only [QC, isort_len, List.length_nil]; omega
     have hl2 : (A2 ++ (isort (ltc c) c1 ++ (isort (ltc c) c2 ++ []))).length = M.length := by simp only [QC, isort_len, List.length_nil]; omega
     have hok2 : okM Pd (A2 ++ (isort (ltc c) c1 ++ (isort (ltc c) c2 ++ []))) := by simpa only [QG] using hok
     have hom : okM Pd (A2 ++ (mergeS (ltc c) (isort (ltc c) c1) (isort (ltc c) c2) ++ [])) := okM_merge hok2
     have hfin := hK _ (.last (c1 ++ c2) (by simp only [QC]; omega))
     rw [show aV (A2 ++ (isort (ltc c) c1 ++ isort (ltc c) c2)) = List.map (fun e : List D => e.map AV.d) (A2 ++ (isort (ltc c) c1 ++ (isort (ltc c) c2 ++ []))) by rw [QG]; rfl]
     refine awp_mut [some 55, some 56, some 57, some 58, some 59, some 60] rfl 5 rfl ?_
     simp only [zzK, QR, QP, QQ, JC, JE, JF, hl2, zzB, zz6, QO, ↓Qb]
     refine mut_go [1000000000] F_go120 (sLeg_sym h (bs + bs + 1) A2 (isort (ltc c) c1) (isort (ltc c) c2) [] hok2 hN2 (List.length_pos_iff.1 (by rw [isort_len]; omega)) (List.length_pos_iff.1 (by rw [isort_len]; omega)) (Srt_isort h.swo _) (Srt_isort h.swo _) A2.length (A2.length + bs) M.length rfl (by rw [isort_len]; omega) (by rw [isort_len, isort_len]; omega) (by rw [isort_len, isort_len]; omega)) (by simp [QY, QX]) (by decide) (by first | exact ⟨by decide, by simp⟩ | rfl) ?_
     simp only [zzK, QR, QP, QQ, JC, JE, JF, hl2, zzB, zz6, QO, ↓Qb, mArgs_nil, asE_cl, asF_cl, asD_ptr, asG_ptr, asD_ep, asG_ep, List.mem_singleton, forall_eq, asEc_cons, asEc_nil, mArgs_d, mArgs_m, mRows_nil, mRows_cons, mNewL, nxM, mBase, mName, oksL, List.getElem?_cons_zero, List.getElem?_cons_succ, zzF, asE_ag, asE_d, asE_ref, asEc_cons, asEc_nil, asF_d, asF_ref, asF_ag, asGs, QY, QX, QM, List.not_mem_nil, false_implies, forall_const, atsL, asD_self, asD_nil, asD_sl, asD_agg, asD_int, asD_bool, asD_func, asD_ag, asD_ref, asG_d, asG_ag, asG_ref, JV, QZ, Qa, JO, Qm, QT, QS, zz9, QB, QA, zzC, yyF, zzD, S_func, Sk_func]
     refine ⟨fun l hl2 => h.flat l (hom l hl2), ?_⟩
     refine kK hK1 [0, 1, 2, 6] ?_
     refine pz ?_
     simp only [zzK, QR, QP, QQ, JC, zz21, JM, zz36, JB, hw16, zz6, QO, ↓Qb]
     refine ⟨M.length - (bs + bs), _, by omega, leK id [] (hr := by exact ⟨fun _ => ⟨_, rfl, Qu (by rw [merge_isort h.swo, QG]; rfl) (JU _)⟩, (by simp), trivial⟩) (hwr := by exact ⟨fun e he r' hr' => by rw [ids_data e he] at hr'; simp at hr', trivial⟩), bs + bs, _, by omega, hfin, rfl, rfl⟩
    ·intro hb
     have hle : B.length ≤ bs := by have := Qf hb; omega
     clear hb
     obtain rfl := hBC.fin hle
     have hfin := hK _ (.last B (by omega))
     refine JI ?_
     simp only [zz6, QO, ↓Qb]
     refine kK hK1 [0, 1, 2, 6] ?_
     refine pz ?_
     simp only [zzK, QR, QP, QQ, JC, zz21, JM, zz36, JB, hw16, zz6, QO, ↓Qb]
     refine ⟨M.length - (bs + bs), _, by omega, leK id [] (hr := by exact ⟨fun _ => ⟨_, rfl, Qu rfl (JU _)⟩, (by simp), trivial⟩) (hwr := by exact ⟨fun e he r' hr' => by rw [JU _ e he] at hr'; simp at hr', trivial⟩), bs + bs, _, by omega, hfin, rfl, rfl⟩
  ·intro hb
   have hge : M.length ≤ bs := by have := Qf hb; omega
   clear hb
   obtain rfl := hck.fin hge
   have hfl : ∀ l, l ∈ isort (ltc c) M → flatDs l := fun l hl2 => h.flat l (okM_isort hM l hl2)
   refine JK ?_
   simp only [zz6, QO, ↓Qb]
   refine doneM [] (by simp [resCs, resC, S, List.getD, JD, lookR, ]) ?_ (by simp [Ja, Jb, Jc, ]) (by simp [QY, QX, ]) (by decide) (by simp) ?_ ?_
   ·simp only [QD, QE, resA, JZ, S_mem, lookR_cons, lookR_nil, QR, QP, JD, QQ, Qd, Qc, JP, QI, QJ, QH, QL, QK, List.take_zero, ]; rfl
   ·exact trivial
   ·exact ⟨⟨_, rfl, trivial, rfl, rfl, rfl⟩, hfl, trivial⟩
theorem sLeg_sort {cf : FuncId} {cs : List D} {c : List D → List D → Int} {Pd : List D → Prop} (h : SC Tryz.prog cf cs c Pd 4) (M : List (List D)) (hM : okM Pd M) (hN : M.length ≤ 1000000) : MCalls Tryz.prog 89 [.m 0, .d (.fn cf cs)] [⟨75, 4, M⟩] [⟨75, 4, isort (ltc c) M⟩] [] (.tp []) := by
 refine mcalls_S (rs := []) Tryz.func89 rfl rfl 9 [(0, .ref 1000000000 (M).length), (1, .d (.fn cf cs))] [(1000000000, (⟨True, 75, 4, true, false, 1000000000, (M).map (·.map .d)⟩ : ARow))] rfl (by simp) (by rfl) (by rfl) (by rfl) (by rfl) (by rfl) ?_
 refine awp_mut [some 4, some 5, some 6, some 7, some 8] rfl 4 rfl ?_
 simp only [zzK, QR, QP, QQ, JC, JE, zz12, F_sl41, Option.isSome_some, JF, JN, zzB, zz6, QO, ↓Qb]
 refine mut_go [1000000000] F_go110 (sLeg_stable h M hM hN M.length rfl) (by simp [QY, QX]) (by decide) (by first | exact ⟨by decide, by simp⟩ | rfl) ?_
 simp only [zzK, QR, QP, QQ, JC, JE, zz12, F_sl41, Option.isSome_some, JF, JN, zzB, zz6, QO, ↓Qb, mArgs_nil, asE_cl, asF_cl, asD_ptr, asG_ptr, asD_ep, asG_ep, List.mem_singleton, forall_eq, asEc_cons, asEc_nil, mArgs_d, mArgs_m, mRows_nil, mRows_cons, mNewL, nxM, mBase, mName, oksL, List.getElem?_cons_zero, List.getElem?_cons_succ, zzF, asE_ag, asE_d, asE_ref, asEc_cons, asEc_nil, asF_d, asF_ref, asF_ag, asGs, QY, QX, QM, List.not_mem_nil, false_implies, forall_const, atsL, asD_self, asD_nil, asD_sl, asD_agg, asD_int, asD_bool, asD_func, asD_ag, asD_ref, asG_d, asG_ag, asG_ref, JV, QZ, Qa, JO, Qm, QT, QS, zz9, QB, QA, zzC, yyF, zzD, S_func, Sk_func]
 refine ⟨fun l hl2 => h.flat l (okM_isort hM l hl2), ?_⟩
 have hfl : ∀ l, l ∈ isort (ltc c) M → flatDs l := fun l hl2 => h.flat l (okM_isort hM l hl2)
 refine doneM [] (by simp [resCs, resC, S, List.getD, JD, lookR, ]) ?_ (by simp [Ja, Jb, Jc, ]) (by simp [QY, QX, ]) (by decide) (by simp) ?_ ?_
 ·simp only [QD, QE, resA, JZ, S_mem, lookR_cons, lookR_nil, QR, QP, JD, QQ, Qd, Qc, JP, QI, QJ, QH, QL, QK, List.take_zero, ]; rfl
 ·exact trivial
 ·exact ⟨⟨_, rfl, trivial, rfl, rfl, rfl⟩, hfl, trivial⟩
theorem add64 (x y c : Int) (hx : 0 ≤ x) (hy : 0 ≤ y) (hc0 : 0 ≤ c) (hc : c ≤ 1) : extOk Tryz.prog 59 [.int .u64 x, .int .u64 y, .int .u64 c] (.tuple #[.int .u64 ((x + y + c) % 18446744073709551616), .int .u64 ((x + y + c) / 18446744073709551616)]) := fun w => by
 rw [run_callFunc_extern Tryz.func59 (by kernel_rfl) (by kernel_rfl) (by kernel_rfl) (e := add64Entry) (by kernel_rfl), run_add64 x y c hx hy hc0 hc]
 rfl
theorem Right_ (l : List Int) (hl : l.length < 4611686018427387904) : ACalls Tryz.prog 54 [ints l] [] (bv (l.all rightN)) := by
 refine acalls_S (rs := [.tmp 2]) Tryz.func54 rfl rfl 18 [(0, .d (ints l))] rfl (by simp) rfl ?_
 refine pq fun K0 hK0 => ?_
 simp only [zzK, QR, QP, QQ, JB, zz6, QO, ↓Qb]
 refine kK hK0 [0] ?_
 refine JA fun K0 hK0 => ?_
 refine pq fun K1 hK1 => ?_
 simp only [zzK, QR, QP, QQ, JC, JE, zz12, F_sl30, Option.isSome_some, ints, JN, zz6, QO, ↓Qb]
 refine kK hK1 [5, 6, 7] ?_
 refine JH ?_
 refine JL (fun m s => ∃ pre post : List Int, l = pre ++ post ∧ pre.all rightN = true ∧ m = post.length ∧ s = S 18 [(5, .d (ints l)), (6, .d (iv l.length)), (7, .d (iv pre.length))] []) l.length _ (le_S0 (l' := [(5, .d (ints l)), (6, .d (iv l.length)), (7, .d (iv 0))]) ?_ ?_) ⟨[], l, rfl, rfl, rfl, rfl⟩ ?_
 ·simp only [leL, JD, QQ, Qd, Qc, ints, JN]; trivial
 ·simp [wfV, QY]
 rintro m s ⟨pre, post, rfl, hp, rfl, rfl⟩
 refine pq fun K2 hK2 => ?_
 simp only [zzK, QR, QP, QQ, zz21, JM, zz22, zz6, QO, ↓Qb]
 refine kK hK2 [5, 6, 7, 8] ?_
 refine JA fun K2 hK2 => ?_
 refine cnA ?_ ?_
 ·intro hb
  obtain ⟨x, post, rfl⟩ := more_of hb; clear hb
  refine JI ?_
  simp only [zz6, QO, ↓Qb]
  refine kK hK2 [5, 6, 7] ?_
  refine JA fun K2 hK2 => ?_
  refine JH ?_
  refine pq fun K3 hK3 => ?_
  simp only [zzK, QR, QP, QQ, JW, zz23, zz24, F_sl30, F_sz3, QA, zzC, yyE, Qe, F_ok3, F_ag3, zz8, zzD, QS, QN, zzH, JB, ints, getD_mid, JN, lt_mid, ge_mid, zz6, QO, ↓Qb]
  refine kK hK3 [4, 5, 6, 7] ?_
  refine JA fun K3 hK3 => ?_
  refine Qz F_mixed [some 11, some 12, some 13, some 14, some 15, some 16] rfl ?_
  simp only [zzK, QR, QP, QQ, QU, JZ, zz5, Qj, Qi, Qh, and_self, JC, zz21, JM, zz22, zz25, zz13, JQ, JR, zz6, QO, ↓Qb]
  refine kK hK3 [5, 6, 7, 16] ?_
  refine cnA ?_ ?_
  ·intro hb
   refine pq fun K4 hK4 => ?_
   simp only [zzK, QR, QP, QQ, JB, zz6, QO, ↓Qb]
   refine kK hK4 [2] ?_
   refine JJ ?_
   simp only [zz6, QO, ↓Qb]
   refine dnA ?_
   simp only [QD, QE, resA, JZ, QR, QP, JD, QQ, Qd, Qc, JP]
   simp only [List.all_append, List.all_cons, rightN, hb]; simp
  ·intro hb
   refine JI ?_
   simp only [zz6, QO, ↓Qb]
   refine kK hK2 [5, 6, 7] ?_
   refine pz ?_
   simp only [zzK, QR, QP, QQ, zz21, JM, zz26, JC, zz6, QO, ↓Qb]
   refine ⟨post.length, _, by simp, le_S0 (l' := [(5, .d (ints (pre ++ x :: post))), (6, .d (iv (pre ++ x :: post).length)), (7, .d (iv (pre ++ [x]).length))]) ?_ ?_, pre ++ [x], post, by simp, by simp [hp, rightN, hb], rfl, rfl⟩
   ·simp only [leL, JD, QQ, Qd, Qc, wrap_len pre x (by simp at hl; omega), ints]; trivial
   ·simp [wfV, QY]
 ·intro hb
  obtain rfl := none_of hb; clear hb
  refine JK ?_
  simp only [zz6, QO, ↓Qb]
  refine kK hK0 [] ?_
  refine pq fun K0 hK0 => ?_
  simp only [zzK, QR, QP, QQ, JB, zz6, QO, ↓Qb]
  refine kK hK0 [2] ?_
  refine JJ ?_
  simp only [zz6, QO, ↓Qb]
  refine dnA ?_
  simp only [QD, QE, resA, JZ, QR, QP, JD, QQ, Qd, Qc, JP]
  simp only [QG, hp]
theorem within_ (t : Int) (h0 : -85070591730234615865843651857942052864 ≤ t) (h1 : t < 85070591730234615865843651857942052864) : ACalls Tryz.prog 60 [.v (.int .u64 (hiN t)), .v (.int .u64 (loN t))] [] (.tp [.d (iv (bif rightN t then t else 0)), .d (iv (bif rightN t then 0 else 1))]) := by
 refine acalls_S (rs := [.tmp 4, .tmp 5]) Tryz.func60 rfl rfl 21 [(0, .d (.v (.int .u64 (hiN t)))), (1, .d (.v (.int .u64 (loN t))))] rfl (by simp) rfl ?_
 refine pq fun K0 hK0 => ?_
 simp only [zzK, QR, QP, QQ, JB, zz6, QO, ↓Qb]
 refine kK hK0 [0, 1] ?_
 refine pq fun K0 hK0 => ?_
 simp only [zzK, QR, QP, QQ, JC, zz27, JM, F_cv94_3, F_cvV3, JB, zz6, QO, ↓Qb]
 refine kK hK0 [0, 6] ?_
 refine JA fun K0 hK0 => ?_
 refine JA fun K1 hK1 => ?_
 refine Qz F_mixed [some 9, some 10, some 11, some 12, some 13, some 14, some 15, some 16, some 17, some 18, some 19] rfl ?_
 simp only [zzK, QR, QP, QQ, QU, JZ, zz5, Qj, Qi, Qh, JC, zz21, JM, b_shr, pure_shr, Int.reduceLT, Qk, zz27, F_cv3_94, F_cvV94, zz28, F_sl30, F_zero3, F_sz3, zz3, JS, zz1, zzG, zzD, zzC, QA, yyE, Qe, QS, QN, zzH, maxLen_le, QT, JE, JF, zz29, zz30, zz13, JQ, JR, ints, QD, zz6, QO, ↓Qb]
 refine cgA F_go54 (fun hG => Right_ [Ql .i64 (loN t)] (by simp)) ?_
 simp only [zzK, QR, QP, QQ, QU, JZ, zz5, Qj, Qi, Qh, JC, zz21, JM, b_shr, pure_shr, Int.reduceLT, Qk, zz27, F_cv3_94, F_cvV94, zz28, F_sl30, F_zero3, F_sz3, zz3, JS, zz1, zzG, zzD, zzC, QA, yyE, Qe, QS, QN, zzH, maxLen_le, QT, JE, JF, zz29, zz30, zz13, JQ, JR, ints, QD, zz6, QO, ↓Qb, atsL, oksG, JV, QZ, Qa, JO, Qm, QT, QS, zz9, QB, QA, S_mem, yyF, QF, zz2]
 refine kK hK1 [6, 19] ?_
 refine cnA ?_ ?_
 ·intro hb
  rw [within_law h0 h1] at hb
  refine pq fun K2 hK2 => ?_
  simp only [zzK, QR, QP, QQ, JB, zz6, QO, ↓Qb]
  refine kK hK2 [4, 5] ?_
  refine JJ ?_
  simp only [zz6, QO, ↓Qb]
  refine dnA ?_
  simp only [QD, QE, resA, JZ, QR, QP, JD, QQ, Qd, Qc, JP]
  simp only [Bool.not_eq_true'] at hb; simp only [hb]; rfl
 ·intro hb
  rw [within_law h0 h1] at hb
  refine JI ?_
  simp only [zz6, QO, ↓Qb]
  refine kK hK0 [6] ?_
  refine pq fun K0 hK0 => ?_
  simp only [zzK, QR, QP, QQ, JC, JB, zz6, QO, ↓Qb]
  refine kK hK0 [4, 5] ?_
  refine JJ ?_
  simp only [zz6, QO, ↓Qb]
  refine dnA ?_
  simp only [QD, QE, resA, JZ, QR, QP, JD, QQ, Qd, Qc, JP]
  simp only [Bool.not_eq_false'] at hb; simp only [hb, within_val h0 h1 hb]; rfl
theorem Sum_ (l : List Int) (hl : l.length < 4611686018427387904) : ACalls Tryz.prog 29 [ints l] [] (.tp [.d (iv (sumV l)), .d (iv (sumE l))]) := by
 refine acalls_S (rs := [.tmp 2, .tmp 3]) Tryz.func29 rfl rfl 40 [(0, .d (ints l))] rfl (by simp) rfl ?_
 refine pq fun K0 hK0 => ?_
 simp only [zzK, QR, QP, QQ, JB, zz6, QO, ↓Qb]
 refine kK hK0 [0] ?_
 refine JA fun K0 hK0 => ?_
 refine pq fun K1 hK1 => ?_
 simp only [zzK, QR, QP, QQ, JC, JE, JF, zz29, JM, zz30, zz6, QO, ↓Qb]
 refine cgA F_go54 (fun hG => Right_ l hl) ?_
 simp only [zzK, QR, QP, QQ, JC, JE, JF, zz29, JM, zz30, zz6, QO, ↓Qb, atsL, oksG, JV, QZ, Qa, JO, Qm, QT, QS, zz9, QB, QA, zzC, yyF, zzD, zz2]
 refine kK hK1 [0, 11] ?_
 refine cnA ?_ ?_
 ·intro hb
  simp only [Bool.not_eq_true'] at hb
  refine pq fun K2 hK2 => ?_
  simp only [zzK, QR, QP, QQ, JB, zz6, QO, ↓Qb]
  refine kK hK2 [2, 3] ?_
  refine JJ ?_
  simp only [zz6, QO, ↓Qb]
  refine dnA ?_
  simp only [QD, QE, resA, JZ, QR, QP, JD, QQ, Qd, Qc, JP]
  simp only [sumV, sumE, hb]; rfl
 ·intro hb
  simp only [Bool.not_eq_false'] at hb
  have hall := hb; clear hb
  refine JI ?_
  simp only [zz6, QO, ↓Qb]
  refine kK hK0 [0] ?_
  refine pq fun K0 hK0 => ?_
  simp only [zzK, QR, QP, QQ, JB, zz6, QO, ↓Qb]
  refine kK hK0 [0, 4, 5] ?_
  refine JA fun K0 hK0 => ?_
  refine pq fun K1 hK1 => ?_
  simp only [zzK, QR, QP, QQ, JC, JE, zz12, F_sl30, Option.isSome_some, ints, JN, zz6, QO, ↓Qb]
  refine kK hK1 [4, 5, 12, 13, 14] ?_
  refine JH ?_
  refine JL (fun m s => ∃ pre post : List Int, l = pre ++ post ∧ m = post.length ∧ s = S 40 [(4, .d (.v (.int .u64 (hiN pre.sum)))), (5, .d (.v (.int .u64 (loN pre.sum)))), (12, .d (ints l)), (13, .d (iv l.length)), (14, .d (iv pre.length))] []) l.length _ (le_S0 (l' := [(4, .d (.v (.int .u64 (hiN ([] : List Int).sum)))), (5, .d (.v (.int .u64 (loN ([] : List Int).sum)))), (12, .d (ints l)), (13, .d (iv l.length)), (14, .d (iv 0))]) ?_ ?_) ⟨[], l, rfl, rfl, rfl⟩ ?_
  ·simp only [leL, JD, QQ, Qd, Qc, ints, JN, List.sum_nil]; simp [loN, hiN]
  ·simp [wfV, QY]
  rintro m s ⟨pre, post, rfl, rfl, rfl⟩
  refine pq fun K2 hK2 => ?_
  simp only [zzK, QR, QP, QQ, zz21, JM, zz22, zz6, QO, ↓Qb]
  refine kK hK2 [4, 5, 12, 13, 14, 15] ?_
  refine JA fun K2 hK2 => ?_
  refine cnA ?_ ?_
  ·intro hb
   obtain ⟨x, post, rfl⟩ := more_of hb; clear hb
   have hr : rightN x = true := by simp at hall; exact hall.2.1
   refine JI ?_
   simp only [zz6, QO, ↓Qb]
   refine kK hK2 [4, 5, 12, 13, 14] ?_
   refine JA fun K2 hK2 => ?_
   refine JH ?_
   refine pq fun K3 hK3 => ?_
   simp only [zzK, QR, QP, QQ, JW, zz23, zz24, F_sl30, F_sz3, QA, zzC, yyE, Qe, F_ok3, F_ag3, zz8, zzD, QS, QN, zzH, JB, ints, getD_mid, JN, lt_mid, ge_mid, zz6, QO, ↓Qb]
   refine kK hK3 [4, 5, 7, 12, 13, 14] ?_
   refine pq fun K3 hK3 => ?_
   simp only [zzK, QR, QP, QQ, JB, zz6, QO, ↓Qb]
   refine kK hK3 [4, 5, 7, 12, 13, 14] ?_
   refine pq fun K3 hK3 => ?_
   simp only [zzK, QR, QP, QQ, JC, zz27, JM, F_cv3_94, F_cvV94, JE, JF, zz14, zzD, QS, QN, zzF, JB, zz6, QO, ↓Qb]
   refine call_ext _ _ (add64 (loN pre.sum) (Ql .u64 x) 0 (lo_nn _) (wu_nn _) (by decide) (by decide)) ?_
   simp only [zzK, QR, QP, QQ, JC, zz27, JM, F_cv3_94, F_cvV94, JE, JF, zz14, zzD, QS, QN, zzF, JB, zz6, QO, ↓Qb, grsL, JM, QB, QA, Option.some.injEq, oksL, ofV_pair, ofV_int, ofV_bool]
   refine kK hK3 [4, 5, 7, 8, 12, 13, 14] ?_
   refine pz ?_
   simp only [zzK, QR, QP, QQ, JC, zz21, JM, b_shr, pure_shr, Int.reduceLT, Qk, zz27, F_cv3_94, F_cvV94, JE, JF, zz14, zzD, QS, QN, zzF, JB, zz6, QO, ↓Qb]
   refine call_ext _ _ (add64 (hiN pre.sum) (Ql .u64 (x.fdiv (2 ^ (min (Int.toNat 63) (IntKind.bits .i64))))) ((loN pre.sum + Ql .u64 x + 0) / 18446744073709551616) (hi_nn _) (wu_nn _) (carry0 _ _) (carry1 _ _)) ?_
   simp only [zzK, QR, QP, QQ, JC, zz21, JM, b_shr, pure_shr, Int.reduceLT, Qk, zz27, F_cv3_94, F_cvV94, JE, JF, zz14, zzD, QS, QN, zzF, JB, zz6, QO, ↓Qb, grsL, JM, QB, QA, Option.some.injEq, oksL, ofV_pair, ofV_int, ofV_bool]
   refine kK hK2 [4, 5, 12, 13, 14] ?_
   refine pz ?_
   simp only [zzK, QR, QP, QQ, zz21, JM, zz26, JC, zz6, QO, ↓Qb]
   have hx : -9223372036854775808 ≤ x ∧ x < 9223372036854775808 := by
    simp [rightN] at hr; omega
   refine ⟨post.length, _, by simp, le_S0 (l' := [(4, .d (.v (.int .u64 (hiN (pre ++ [x]).sum)))), (5, .d (.v (.int .u64 (loN (pre ++ [x]).sum)))), (12, .d (ints (pre ++ x :: post))), (13, .d (iv (pre ++ x :: post).length)), (14, .d (iv (pre ++ [x]).length))]) ?_ ?_, pre ++ [x], post, by simp, rfl, rfl⟩
   ·simp only [leL, JD, QQ, Qd, Qc, wrap_len pre x (by simp at hl; omega), ints, List.sum_append, List.sum_cons, List.sum_nil, Int.add_zero]
    rw [← add_lo, ← add_hi _ hx.1 hx.2]
    simp only [Int.add_zero]; trivial
   ·simp [wfV, QY]
  ·intro hb
   obtain rfl := none_of hb; clear hb
   simp only [QG] at hl hall ⊢
   refine JK ?_
   simp only [zz6, QO, ↓Qb]
   refine kK hK0 [4, 5] ?_
   refine pq fun K0 hK0 => ?_
   simp only [zzK, QR, QP, QQ, JC, JE, JF, zz14, zzD, QS, QN, zzF, JB, zz6, QO, ↓Qb]
   refine cgA F_go60 (fun hG => within_ pre.sum (sum_bound hall hl).1 (sum_bound hall hl).2) ?_
   simp only [zzK, QR, QP, QQ, JC, JE, JF, zz14, zzD, QS, QN, zzF, JB, zz6, QO, ↓Qb, atsL, oksG, JV, QZ, Qa, JO, Qm, QT, QS, zz9, QB, QA, zzC, yyF, QF, zz2]
   refine kK hK0 [2, 3] ?_
   refine JJ ?_
   simp only [zz6, QO, ↓Qb]
   refine dnA ?_
   simp only [QD, QE, resA, JZ, QR, QP, JD, QQ, Qd, Qc, JP]
   simp only [QG, sumV, sumE, hall, Bool.true_and, Qd]
theorem owned_ (n : Int) : ACalls Tryz.prog 96 [iv n] [] (bv (acOwn n)) := by
 refine acalls_S (rs := [.tmp 2]) Tryz.func96 rfl rfl 9 [(0, .d (iv n))] rfl (by simp) rfl ?_
 refine pq fun K0 hK0 => ?_
 simp only [zzK, QR, QP, QQ, JB, zz6, QO, ↓Qb]
 refine kK hK0 [0] ?_
 refine JA fun K0 hK0 => ?_
 refine Qz F_mixed [some 3, some 4, some 5, some 6, some 7, some 8, some 2] rfl ?_
 simp only [zzK, QR, QP, QQ, QU, JZ, zz5, Qj, Qi, Qh, and_self, JC, zz21, JM, zz34, zz13, JQ, JR, JB, zz6, QO, ↓Qb]
 refine kK hK0 [2] ?_
 refine JJ ?_
 simp only [zz6, QO, ↓Qb]
 refine dnA ?_
 simp only [QD, QE, resA, JZ, QR, QP, JD, QQ, Qd, Qc, JP]
 rfl
theorem acRight_ (a : AcV) : ACalls Tryz.prog 53 [.agg (acC a)] [] (bv (acOk a)) := by
 refine acalls_S (rs := [.tmp 2]) Tryz.func53 rfl rfl 37 [(0, .d (.agg (acC a)))] rfl (by simp) rfl ?_
 refine pq fun K0 hK0 => ?_
 simp only [zzK, QR, QP, QQ, zz35, JS, zz1, zzG, zzD, zzC, QA, yyE, Qe, QS, QN, zzH, JB, acC, zz6, QO, ↓Qb]
 refine kK hK0 [1] ?_
 refine JA fun K0 hK0 => ?_
 refine JH ?_
 refine JA fun K1 hK1 => ?_
 refine Qz F_mixed [some 4, some 5, some 6, some 7, some 8, some 9, some 10, some 11, some 12, some 13, some 14, some 15, some 16, some 17, some 18, some 19, some 20, some 21, some 3] rfl ?_
 simp only [zzK, QR, QP, QQ, QU, JZ, zz5, Qj, Qi, Qh, zz19, zz23, F_off73_0, zzH, QN, QS, F_ok3, F_ag3, F_sz3, zz8, zzD, zzC, QA, yyE, Qe, zz21, JM, zz22, JC, zz25, zz13, JQ, JR, F_off73_2, zz31, JB, zz6, QO, ↓Qb]
 refine kK hK1 [1, 3] ?_
 refine cnA ?_ ?_
 ·intro hb
  have e : acBad a = true := hb
  clear hb
  refine pq fun K2 hK2 => ?_
  simp only [zzK, QR, QP, QQ, JB, zz6, QO, ↓Qb]
  refine kK hK2 [2] ?_
  refine JJ ?_
  simp only [zz6, QO, ↓Qb]
  refine dnA ?_
  simp only [QD, QE, resA, JZ, QR, QP, JD, QQ, Qd, Qc, JP]
  rw [acOk, e]; rfl
 ·intro hb
  have e : acBad a = false := hb
  clear hb
  refine pq fun K2 hK2 => ?_
  simp only [zzK, QR, QP, QQ, zz19, zz23, F_off73_0, zzH, QN, QS, F_ok3, F_ag3, F_sz3, zz8, zzD, zzC, QA, yyE, Qe, JE, JF, JB, zz6, QO, ↓Qb]
  refine cgA F_go96 (fun hG => owned_ a.kind) ?_
  simp only [zzK, QR, QP, QQ, zz19, zz23, F_off73_0, zzH, QN, QS, F_ok3, F_ag3, F_sz3, zz8, zzD, zzC, QA, yyE, Qe, JE, JF, JB, zz6, QO, ↓Qb, atsL, oksG, JV, QZ, Qa, JO, Qm, QT, QS, zz9, QB, QA, S_mem, yyF, QF, zz2]
  refine kK hK2 [1, 22] ?_
  refine cnA ?_ ?_
  ·intro hb
   have e2 : acOwn a.kind = true := hb
   clear hb
   refine JA fun K3 hK3 => ?_
   refine Qz F_mixed [some 26, some 27, some 28, some 29, some 30, some 31, some 32, some 33, some 2] rfl ?_
   simp only [zzK, QR, QP, QQ, QU, JZ, zz5, Qj, Qi, Qh, zz19, zz23, F_off73_1, zzH, QN, QS, F_ok3, F_ag3, F_sz3, zz8, zzD, zzC, QA, yyE, Qe, zz21, JM, zz31, JC, b_leq, pure_leq, zz13, JQ, JR, JB, zz6, QO, ↓Qb]
   refine kK hK3 [2] ?_
   refine JJ ?_
   simp only [zz6, QO, ↓Qb]
   refine dnA ?_
   simp only [QD, QE, resA, JZ, QR, QP, JD, QQ, Qd, Qc, JP]
   rw [acOk, e, e2]; cases decide (a.who ≥ 1) <;> rfl
  ·intro hb
   have e2 : acOwn a.kind = false := hb
   clear hb
   refine JI ?_
   simp only [zz6, QO, ↓Qb]
   refine kK hK0 [1] ?_
   refine pq fun K0 hK0 => ?_
   simp only [zzK, QR, QP, QQ, zz19, zz23, F_off73_1, zzH, QN, QS, F_ok3, F_ag3, F_sz3, zz8, zzD, zzC, QA, yyE, Qe, zz21, JM, zz34, JB, zz6, QO, ↓Qb]
   refine kK hK0 [2] ?_
   refine JJ ?_
   simp only [zz6, QO, ↓Qb]
   refine dnA ?_
   simp only [QD, QE, resA, JZ, QR, QP, JD, QQ, Qd, Qc, JP]
   rw [acOk, e, e2]; rfl
theorem acLess_ (a b : AcV) : ACalls Tryz.prog 56 [.agg (acC a), .agg (acC b)] [] (bv (acLt a b)) := by
 refine acalls_S (rs := [.tmp 4]) Tryz.func56 rfl rfl 32 [(0, .d (.agg (acC a))), (1, .d (.agg (acC b)))] rfl (by simp) rfl ?_
 refine pq fun K0 hK0 => ?_
 simp only [zzK, QR, QP, QQ, zz35, JS, zz1, zzG, zzD, zzC, QA, yyE, Qe, QS, QN, zzH, JB, acC, zz6, QO, ↓Qb]
 refine kK hK0 [2, 3] ?_
 refine JA fun K0 hK0 => ?_
 refine JH ?_
 refine pq fun K1 hK1 => ?_
 simp only [zzK, QR, QP, QQ, zz19, zz23, F_off73_0, zzH, QN, QS, F_ok3, F_ag3, F_sz3, zz8, zzD, zzC, QA, yyE, Qe, zz21, JM, zz28, JB, zz6, QO, ↓Qb]
 refine kK hK1 [2, 3, 5] ?_
 refine cnA ?_ ?_
 ·intro hb
  have e : acLt a b = decide (a.kind < b.kind) := by simp only [acLt, hb, Qd]
  refine pq fun K2 hK2 => ?_
  simp only [zzK, QR, QP, QQ, zz19, zz23, F_off73_0, zzH, QN, QS, F_ok3, F_ag3, F_sz3, zz8, zzD, zzC, QA, yyE, Qe, zz21, JM, zz22, JB, zz6, QO, ↓Qb]
  refine kK hK2 [4] ?_
  refine JJ ?_
  simp only [zz6, QO, ↓Qb]
  refine dnA ?_
  simp only [QD, QE, resA, JZ, QR, QP, JD, QQ, Qd, Qc, JP]
  rw [e]
 ·intro hb
  skip
  refine pq fun K2 hK2 => ?_
  simp only [zzK, QR, QP, QQ, zz19, zz23, F_off73_1, zzH, QN, QS, F_ok3, F_ag3, F_sz3, zz8, zzD, zzC, QA, yyE, Qe, zz21, JM, zz28, JB, zz6, QO, ↓Qb]
  refine kK hK2 [2, 3, 16] ?_
  refine cnA ?_ ?_
  ·intro hb
   rename_i hb0
   have e : acLt a b = decide (a.who < b.who) := by simp only [acLt, hb0, hb, Qd, Qc]
   refine pq fun K3 hK3 => ?_
   simp only [zzK, QR, QP, QQ, zz19, zz23, F_off73_1, zzH, QN, QS, F_ok3, F_ag3, F_sz3, zz8, zzD, zzC, QA, yyE, Qe, zz21, JM, zz22, JB, zz6, QO, ↓Qb]
   refine kK hK3 [4] ?_
   refine JJ ?_
   simp only [zz6, QO, ↓Qb]
   refine dnA ?_
   simp only [QD, QE, resA, JZ, QR, QP, JD, QQ, Qd, Qc, JP]
   rw [e]
  ·intro hb
   rename_i hb0
   have e : acLt a b = decide (a.cur < b.cur) := by simp only [acLt, hb0, hb, Qc]
   refine JI ?_
   simp only [zz6, QO, ↓Qb]
   refine kK hK0 [2, 3] ?_
   refine pq fun K0 hK0 => ?_
   simp only [zzK, QR, QP, QQ, zz19, zz23, F_off73_2, zzH, QN, QS, F_ok3, F_ag3, F_sz3, zz8, zzD, zzC, QA, yyE, Qe, zz21, JM, zz22, JB, zz6, QO, ↓Qb]
   refine kK hK0 [4] ?_
   refine JJ ?_
   simp only [zz6, QO, ↓Qb]
   refine dnA ?_
   simp only [QD, QE, resA, JZ, QR, QP, JD, QQ, Qd, Qc, JP]
   rw [e]
theorem legCmp_ (a b : LegV) : ACalls Tryz.prog 90 [.agg (legC a), .agg (legC b)] [] (.d (iv (legCmp a b))) := by
 refine acalls_S (rs := [.tmp 4]) Tryz.func90 rfl rfl 17 [(0, .d (.agg (legC a))), (1, .d (.agg (legC b)))] rfl (by simp) rfl ?_
 refine pq fun K0 hK0 => ?_
 simp only [zzK, QR, QP, QQ, zz35, JS, zz1, zzG, zzD, zzC, QA, yyE, Qe, QS, QN, zzH, JB, legC, zz6, QO, ↓Qb]
 refine kK hK0 [2, 3] ?_
 refine JA fun K0 hK0 => ?_
 refine JH ?_
 refine pq fun K1 hK1 => ?_
 simp only [zzK, QR, QP, QQ, zz19, zz23, F_off75_0, zzH, QN, QS, F_ok73, F_ag73, F_sz73, zz8, zzD, zzC, QA, yyE, Qe, JE, JF, JB, acC, QW, zz6, QO, ↓Qb]
 refine cgA F_go56 (fun hG => acLess_ a.ac b.ac) ?_
 simp only [zzK, QR, QP, QQ, zz19, zz23, F_off75_0, zzH, QN, QS, F_ok73, F_ag73, F_sz73, zz8, zzD, zzC, QA, yyE, Qe, JE, JF, JB, acC, QW, zz6, QO, ↓Qb, atsL, oksG, JV, QZ, Qa, JO, Qm, QT, QS, zz9, QB, QA, S_mem, yyF, QF, zz2]
 refine kK hK1 [2, 3, 5] ?_
 refine cnA ?_ ?_
 ·intro hb
  have e : legCmp a b = -1 := by simp only [legCmp, hb, Qd]
  refine pq fun K2 hK2 => ?_
  simp only [zzK, QR, QP, QQ, JB, zz6, QO, ↓Qb]
  refine kK hK2 [4] ?_
  refine JJ ?_
  simp only [zz6, QO, ↓Qb]
  refine dnA ?_
  simp only [QD, QE, resA, JZ, QR, QP, JD, QQ, Qd, Qc, JP]
  rw [e]
 ·intro hb
  skip
  refine pq fun K2 hK2 => ?_
  simp only [zzK, QR, QP, QQ, zz19, zz23, F_off75_0, zzH, QN, QS, F_ok73, F_ag73, F_sz73, zz8, zzD, zzC, QA, yyE, Qe, JE, JF, JB, acC, QW, zz6, QO, ↓Qb]
  refine cgA F_go56 (fun hG => acLess_ b.ac a.ac) ?_
  simp only [zzK, QR, QP, QQ, zz19, zz23, F_off75_0, zzH, QN, QS, F_ok73, F_ag73, F_sz73, zz8, zzD, zzC, QA, yyE, Qe, JE, JF, JB, acC, QW, zz6, QO, ↓Qb, atsL, oksG, JV, QZ, Qa, JO, Qm, QT, QS, zz9, QB, QA, S_mem, yyF, QF, zz2]
  refine kK hK2 [11] ?_
  refine cnA ?_ ?_
  ·intro hb
   rename_i hb0
   have e : legCmp a b = 1 := by simp only [legCmp, hb0, hb, Qd, Qc]
   refine pq fun K3 hK3 => ?_
   simp only [zzK, QR, QP, QQ, JB, zz6, QO, ↓Qb]
   refine kK hK3 [4] ?_
   refine JJ ?_
   simp only [zz6, QO, ↓Qb]
   refine dnA ?_
   simp only [QD, QE, resA, JZ, QR, QP, JD, QQ, Qd, Qc, JP]
   rw [e]
  ·intro hb
   rename_i hb0
   have e : legCmp a b = 0 := by simp only [legCmp, hb0, hb, Qc]
   refine JI ?_
   simp only [zz6, QO, ↓Qb]
   refine kK hK0 [] ?_
   refine pq fun K0 hK0 => ?_
   simp only [zzK, QR, QP, QQ, JB, zz6, QO, ↓Qb]
   refine kK hK0 [4] ?_
   refine JJ ?_
   simp only [zz6, QO, ↓Qb]
   refine dnA ?_
   simp only [QD, QE, resA, JZ, QR, QP, JD, QQ, Qd, Qc, JP]
   rw [e]
theorem eRight_ (l : List LegV) (hl : l.length ≤ 1000000) : ACalls Tryz.prog 88 [legs l] [] (bv (l.all legOk)) := by
 refine acalls_S (rs := [.tmp 2]) Tryz.func88 rfl rfl 23 [(0, .d (legs l))] rfl (by simp) rfl ?_
 refine pq fun K0 hK0 => ?_
 simp only [zzK, QR, QP, QQ, JB, zz6, QO, ↓Qb]
 refine kK hK0 [0] ?_
 refine JA fun K0 hK0 => ?_
 refine pq fun K1 hK1 => ?_
 simp only [zzK, QR, QP, QQ, JC, JE, zz12, F_sl41, Option.isSome_some, legs, JN, zz6, QO, ↓Qb]
 refine kK hK1 [5, 6, 7] ?_
 refine JH ?_
 refine JL (fun m s => ∃ pre post : List LegV, l = pre ++ post ∧ pre.all legOk = true ∧ m = post.length ∧ s = S 23 [(5, .d (legs l)), (6, .d (iv l.length)), (7, .d (iv pre.length))] []) l.length _ (leK id [] (hl := by simp only [leV, JD, QQ, Qd, Qc, legs, JN]; exact ⟨Qn _, Qn _, Qn _, trivial⟩)) ⟨[], l, rfl, rfl, rfl, rfl⟩ ?_
 rintro m s ⟨pre, post, rfl, hp, rfl, rfl⟩
 refine pq fun K2 hK2 => ?_
 simp only [zzK, QR, QP, QQ, zz21, JM, zz22, zz6, QO, ↓Qb]
 refine kK hK2 [5, 6, 7, 8] ?_
 refine JA fun K2 hK2 => ?_
 refine cnA ?_ ?_
 ·intro hb
  obtain ⟨x, post, rfl⟩ := more_of hb; clear hb
  refine JI ?_
  simp only [zz6, QO, ↓Qb]
  refine kK hK2 [5, 6, 7] ?_
  refine JA fun K2 hK2 => ?_
  refine JH ?_
  refine pq fun K3 hK3 => ?_
  simp only [zzK, QR, QP, QQ, JW, zz23, zz24, F_sl41, F_sz75, QA, zzC, yyE, Qe, F_ok75, F_ag75, zz8, zzD, QS, QN, zzH, zz32, JS, F_zero75, zz10, zz18, splice, QG, zz1, zzG, legs, legC, getD_mid, JN, lt_mid, ge_mid, QW, zz6, QO, ↓Qb]
  refine kK hK3 [4, 5, 6, 7] ?_
  refine JA fun K3 hK3 => ?_
  refine Qz F_mixed [some 11, some 12, some 13, some 14, some 15, some 16, some 17, some 18, some 19, some 20, some 21] rfl ?_
  simp only [zzK, QR, QP, QQ, QU, JZ, zz5, Qj, Qi, Qh, zz19, zz23, F_off75_0, zzH, QN, QS, F_ok73, F_ag73, F_sz73, zz8, zzD, zzC, QA, yyE, Qe, JE, JF, zz29, JM, zz30, JC, F_off75_1, F_ok3, F_ag3, F_sz3, F_sl30, F_zero3, zz3, JS, zz1, zzG, maxLen_le, QT, zz13, JQ, JR, acC, QW, ints, QD, D.sl.injEq, zz6, QO, ↓Qb]
  refine cgA F_go53 (fun hG => acRight_ x.ac) ?_
  simp only [zzK, QR, QP, QQ, QU, JZ, zz5, Qj, Qi, Qh, zz19, zz23, F_off75_0, zzH, QN, QS, F_ok73, F_ag73, F_sz73, zz8, zzD, zzC, QA, yyE, Qe, JE, JF, zz29, JM, zz30, JC, F_off75_1, F_ok3, F_ag3, F_sz3, F_sl30, F_zero3, zz3, JS, zz1, zzG, maxLen_le, QT, zz13, JQ, JR, acC, QW, ints, QD, zz6, QO, ↓Qb, atsL, oksG, JV, QZ, Qa, JO, Qm, QT, QS, zz9, QB, QA, S_mem, yyF, QF, zz2]
  refine cgA F_go54 (fun hG => Right_ [x.amt] (by simp)) ?_
  simp only [zzK, QR, QP, QQ, QU, JZ, zz5, Qj, Qi, Qh, zz19, zz23, F_off75_0, zzH, QN, QS, F_ok73, F_ag73, F_sz73, zz8, zzD, zzC, QA, yyE, Qe, JE, JF, zz29, JM, zz30, JC, F_off75_1, F_ok3, F_ag3, F_sz3, F_sl30, F_zero3, zz3, JS, zz1, zzG, maxLen_le, QT, zz13, JQ, JR, acC, QW, ints, QD, zz6, QO, ↓Qb, atsL, oksG, JV, QZ, Qa, JO, Qm, QT, QS, zz9, QB, QA, S_mem, yyF, QF, zz2]
  refine kK hK3 [5, 6, 7, 21] ?_
  refine cnA ?_ ?_
  ·intro hb
   have hq : legOk x = false := by
    simp only [legOk]
    cases h1 : acOk x.ac <;> cases h2 : rightN x.amt <;> simp [h1, h2] at hb ⊢
   try clear hb
   refine pq fun K4 hK4 => ?_
   simp only [zzK, QR, QP, QQ, JB, zz6, QO, ↓Qb]
   refine kK hK4 [2] ?_
   refine JJ ?_
   simp only [zz6, QO, ↓Qb]
   refine dnA ?_
   simp only [QD, QE, resA, JZ, QR, QP, JD, QQ, Qd, Qc, JP]
   simp [hq]
  ·intro hb
   have hq : legOk x = true := by
    simp only [legOk]
    cases h1 : acOk x.ac <;> cases h2 : rightN x.amt <;> simp [h1, h2] at hb ⊢
   clear hb
   refine JI ?_
   simp only [zz6, QO, ↓Qb]
   refine kK hK2 [5, 6, 7] ?_
   refine pz ?_
   simp only [zzK, QR, QP, QQ, zz21, JM, zz26, JC, zz6, QO, ↓Qb]
   refine ⟨post.length, _, by simp, leK id [] (hl := by simp only [leV, JD, QQ, Qd, Qc, legs, JN, wrap_len pre x (by simp at hl; omega)]; exact ⟨Qn _, Qn _, Qn _, trivial⟩), pre ++ [x], post, by simp, by simp [hp, hq], rfl, rfl⟩
 ·intro hb
  obtain rfl := none_of hb; clear hb
  refine JK ?_
  simp only [zz6, QO, ↓Qb]
  refine kK hK0 [] ?_
  refine pq fun K0 hK0 => ?_
  simp only [zzK, QR, QP, QQ, JB, zz6, QO, ↓Qb]
  refine kK hK0 [2] ?_
  refine JJ ?_
  simp only [zz6, QO, ↓Qb]
  refine dnA ?_
  simp only [QD, QE, resA, JZ, QR, QP, JD, QQ, Qd, Qc, JP]
  simp [hp]
theorem legSC : SC Tryz.prog 90 [] legCmpD isLeg 4 where
 go := ⟨_, Tryz.func90, rfl, rfl⟩
 call x y hx hy := by
  obtain ⟨a, rfl⟩ := hx
  obtain ⟨b, rfl⟩ := hy
  exact legCmp_ a b
 len x hx := by obtain ⟨b, rfl⟩ := hx; rfl
 flat x hx := by obtain ⟨b, rfl⟩ := hx; simp [legC, flatDs, Jc]
 cell x hx := by obtain ⟨b, rfl⟩ := hx; simp [legC, cell1s, AV.cell1, Value.oneCell']
 swo := legCmp_swo
theorem legSortC (l : List LegV) (hl : l.length ≤ 1000000) : MCalls Tryz.prog 89 [.m 0, .d (.v (.func (.func 90) #[] #[]))] [⟨75, 4, l.map legC⟩] [⟨75, 4, (legSort l).map legC⟩] [] (.tp []) := by
 have e := mcalls_fn0 (sLeg_sort legSC (l.map legC) (okM_legs l) (by simpa using hl))
 rw [sort_legs] at e
 exact e

set_option maxRecDepth 100000 in
set_option maxHeartbeats 4000000 in
theorem Join_ (l : List LegV) (hl : l.length ≤ 1000000) : ACalls Tryz.prog 45 [legs l] [⟨75, 4, (joinV l).map legC⟩] (.tp [.ref 0 (joinV l).length, .d (iv (joinR l))]) := by
 refine acalls_S (rs := [.tmp 2, .tmp 3]) Tryz.func45 rfl rfl 68 [(0, .d (legs l))] rfl (by simp) rfl ?_
 refine pq fun K0 hK0 => ?_
 simp only [zzK, QR, QP, QQ, JB, zz6, QO, ↓Qb]
 refine kK hK0 [0] ?_
 refine JA fun K0 hK0 => ?_
 refine pq fun K1 hK1 => ?_
 simp only [zzK, QR, QP, QQ, JC, JE, JF, zz29, JM, zz30, legs, zz6, QO, ↓Qb]
 refine cgA F_go88 (fun hG => eRight_ l hl) ?_
 simp only [zzK, QR, QP, QQ, JC, JE, JF, zz29, JM, zz30, legs, zz6, QO, ↓Qb, atsL, oksG, JV, QZ, Qa, JO, Qm, QT, QS, zz9, QB, QA, zzC, yyF, zzD, zz2]
 refine kK hK1 [0, 13] ?_
 refine cnA ?_ ?_
 ·intro hb
  have hok : l.all legOk = false := by simpa using hb
  clear hb
  have hjr : joinR l = 3 := by simp only [joinR, hok, Qc]
  have hjv : joinV l = [] := by simp only [joinV, hjr]; rfl
  refine pq fun K2 hK2 => ?_
  simp only [zzK, QR, QP, QQ, JB, zz6, QO, ↓Qb]
  refine kK hK2 [2, 3] ?_
  refine awp_le (leK id [0] (l' := [(2, .ref 0 0), (3, .d (iv 3))]) (m' := [(0, (⟨True, 75, 4, true, true, 0, []⟩ : ARow))])) ?_
  refine JJ ?_
  simp only [zz6, QO, ↓Qb]
  rw [hjv, hjr]
  refine done1 0 (by simp only [resCs, resC]; trivial) ?_ (by simp [Ja, Jb, Jc]) (by simp [QY, QX]) (by rfl) trivial rfl rfl ?_ (by simp [flatDs, Jc])
  ·simp only [QD, QE, resA, JZ, QR, QP, JD, QQ, Qd, Qc, JP]; rfl
  ·rfl
 ·intro hb
  have hok : l.all legOk = true := by simpa using hb
  clear hb
  refine JI ?_
  simp only [zz6, QO, ↓Qb]
  refine kK hK0 [0] ?_
  refine pq fun K0 hK0 => ?_
  simp only [zzK, QR, QP, QQ, F_sl41, F_zero75, F_sz75, zz3, JS, zz1, zzG, zzD, zzC, QA, yyE, Qe, QS, QN, zzH, maxLen_le, QT, JC, JE, F_by75, zz4, zz9, QB, JB, legs, JN, List.nil_append, zz6, QO, ↓Qb]
  first | refine ⟨le_maxLen hl, by omega, ?_⟩ | refine ⟨by simp, le_maxLen hl, by omega, ?_⟩ | skip
  refine kK hK0 [4] ?_
  refine JA fun K0 hK0 => ?_
  refine awp_le (leK id [] (l' := [(4, .ref 16 l.length)]) (m' := [(16, (⟨True, 75, 4, false, true, 14, aV ((l).map legC)⟩ : ARow))]) (hl := by simp only [leV, JD, QQ, Qd, Qc, JN]; exact ⟨Qn _, trivial⟩) (hr := by exact ⟨fun _ => ⟨_, rfl, Qu (by simp [aV]) (by first | exact ids_data | (simp only [List.nil_append]; exact ids_data))⟩, (by simp), trivial⟩) (hwr := by exact ⟨fun e he r' hr' => by rw [JU _ e he] at hr'; simp at hr', trivial⟩)) ?_
  refine awp_le (leK id [] (l' := [(4, .ref 16 l.length)]) (m' := [(16, (⟨True, 75, 4, true, true, 14, aV ((l).map legC)⟩ : ARow))]) (hr := by exact ⟨fun _ => ⟨_, rfl, RowLe.uq_ (by rfl) rfl (JU _)⟩, (by simp), trivial⟩) (hwr := by exact ⟨fun e he r' hr' => by rw [JU _ e he] at hr'; simp at hr', trivial⟩)) ?_
  refine awp_mut [some 17, some 18] rfl 1 rfl ?_
  simp only [zzK, QR, QP, QQ, JC, JE, JF, aV, JN, zzB, zz6, QO, ↓Qb]
  refine mut_go [16] F_go89 (legSortC l hl) (by simp [QY, QX]) (by decide) (by first | exact ⟨by decide, by simp⟩ | rfl) ?_
  simp only [zzK, QR, QP, QQ, JC, JE, JF, aV, JN, zzB, zz6, QO, ↓Qb, mArgs_nil, asE_cl, asF_cl, asD_ptr, asG_ptr, asD_ep, asG_ep, List.mem_singleton, forall_eq, asEc_cons, asEc_nil, mArgs_d, mArgs_m, mRows_nil, mRows_cons, mNewL, nxM, mBase, mName, oksL, List.getElem?_cons_zero, List.getElem?_cons_succ, zzF, asE_ag, asE_d, asE_ref, asEc_cons, asEc_nil, asF_d, asF_ref, asF_ag, asGs, QY, QX, QM, List.not_mem_nil, false_implies, forall_const, atsL, asD_self, asD_nil, asD_sl, asD_agg, asD_int, asD_bool, asD_func, asD_ag, asD_ref, asG_d, asG_ag, asG_ref, JV, QZ, Qa, JO, Qm, QT, QS, zz9, QB, QA, zzC, yyF, zzD, S_func, Sk_func]
  refine ⟨by simp [flatDs, Jc, legC], ?_⟩
  generalize hSS : legSort l = SS
  have hSl : SS.length = l.length := by rw [← hSS]; exact legSort_len l
  refine kK hK0 [4] ?_
  refine pq fun K0 hK0 => ?_
  simp only [zzK, QR, QP, QQ, JB, zz6, QO, ↓Qb]
  refine kK hK0 [4, 5] ?_
  refine JA fun K0 hK0 => ?_
  refine pq fun K1 hK1 => ?_
  simp only [zzK, QR, QP, QQ, JB, zz6, QO, ↓Qb]
  refine kK hK1 [4, 5, 6] ?_
  refine JH ?_
  refine JL (fun m s => ∃ P R out : List LegV, SS = P ++ R ∧ joinE SS = joinE R ∧ joinO SS = out ++ joinO R ∧ out.length ≤ P.length ∧ m = R.length ∧ s = S 68 [(4, .ref 16 SS.length), (5, .ref 5 (out).length), (6, .d (iv P.length))] [(16, (⟨True, 75, 4, true, true, 14, aV ((SS).map legC)⟩ : ARow)), (5, grow 75 4 5 (out.map legC))]) SS.length _ (leK id [5] (hl := by simp only [leV, JD, QQ, Qd, Qc, ← hSl]; exact ⟨VLe.ref_ (f := id) (r := 16) (by simp), VLe.nil_ (by decide), Qo rfl, trivial⟩) (hr := by exact ⟨fun _ => ⟨_, rfl, Qu rfl ids_data⟩, (by simp), (by simp), fun _ => rfl, trivial⟩) (hwr := by exact ⟨fun e he r' hr' => by rw [JU _ e he] at hr'; simp at hr', by simp [wfR, grow, QX, QY], trivial⟩)) ⟨[], SS, [], rfl, rfl, rfl, by simp, rfl, rfl⟩ ?_
  rintro m s ⟨P, R, out, hPR, hE, hO, hol, rfl, rfl⟩
  refine JA fun K2 hK2 => ?_
  refine pq fun K3 hK3 => ?_
  simp only [zzK, QR, QP, QQ, JC, JE, zz12, F_sl41, Option.isSome_some, zz21, JM, zz22, zz6, QO, ↓Qb]
  refine kK hK3 [4, 5, 6, 22] ?_
  refine cnA ?_ ?_
  ·intro hb
   have hPl := congrArg List.length hPR
   simp only [QC] at hPl
   obtain ⟨x, R2, rfl⟩ : ∃ x t, R = x :: t := by
    cases R with
    | nil => have := Qg hb; simp at hPl; omega
    | cons x t => exact ⟨x, t, rfl⟩
   clear hb
   simp only [QF] at hPl
   have gx : (SS.map legC).getD P.length [] = [iv x.ac.kind, iv x.ac.who, iv x.ac.cur, iv x.amt] := by
    rw [hPR, List.map_append]; exact gd_mid' (A := P.map legC) _ _ (by simp)
   have b1 := ltI (show P.length < SS.length by omega)
   have c1 := eq_true (show P.length < SS.length by omega)
   refine JI ?_
   simp only [zz6, QO, ↓Qb]
   refine kK hK2 [4, 5, 6] ?_
   refine JH ?_
   refine pq fun K2 hK2 => ?_
   simp only [zzK, QR, QP, QQ, JB, zz6, QO, ↓Qb]
   refine kK hK2 [4, 5, 6, 7] ?_
   refine pq fun K2 hK2 => ?_
   simp only [zzK, QR, QP, QQ, JC, JW, zz23, zz24, F_sl41, F_sz75, QA, zzC, yyE, Qe, zz19, F_off75_0, zzH, QN, QS, F_ok73, F_ag73, F_sz73, zz8, zzD, zz32, JS, F_zero73, zz10, zz18, splice, QG, zz1, zzG, aV_len, aV_get, JN, gx, b1, c1, ge0, QV, Nat.le_refl, QD, zz6, QO, ↓Qb]
   refine kK hK2 [4, 5, 6, 7, 8] ?_
   refine JA fun K2 hK2 => ?_
   refine JH ?_
   refine JL (fun m s => ∃ A B : List LegV, x :: R2 = A ++ B ∧ (∀ a ∈ A, acSame a.ac x.ac = true) ∧ m = B.length ∧ s = S 68 [(4, .ref 16 SS.length), (5, .ref 5 out.length), (6, .d (iv (P.length + (A).length : Nat))), (7, .ref 7 (A).length), (8, .ptr 8 0 0)] [(16, (⟨True, 75, 4, true, true, 14, aV ((SS).map legC)⟩ : ARow)), (5, grow 75 4 5 (out.map legC)), (7, grow 3 1 7 ((amts A).map fun n => [iv n])), (8, (⟨True, 73, 3, true, false, 8, [[.d (iv x.ac.kind), .d (iv x.ac.who), .d (iv x.ac.cur)]]⟩ : ARow))]) (x :: R2).length _ (leK id [7] (hl := by simp only [leV, JD, QQ, Qd, Qc]; exact ⟨VLe.ref_ (f := id) (r := 16) (by simp), VLe.ref_ (f := id) (r := 5) (by simp), Qo rfl, VLe.nil_ (by decide), VLe.ptr_ (f := id) (r := 8) (by simp), trivial⟩) (hr := by exact ⟨fun _ => ⟨_, rfl, Qv (JU _)⟩, (by simp), fun _ => ⟨_, rfl, Qw rfl⟩, (by simp), (by simp), fun _ => rfl, fun _ => ⟨_, rfl, Qv (by simp [QX, QY])⟩, (by simp), trivial⟩) (hwr := by exact ⟨fun e he r' hr' => by rw [JU _ e he] at hr'; simp at hr', wf_data _ _, by simp [grow, amts], by simp [QX, QY], trivial⟩)) ⟨[], x :: R2, rfl, by simp, rfl, rfl⟩ ?_
   rintro m s ⟨A, B0, hAB, hA, rfl, rfl⟩
   have hABl := congrArg List.length hAB
   simp only [QF, QC] at hABl
   have hAl : (amts A).length = A.length := by simp [amts]
   have hcase : (B0 = [] ∧ (((P.length + A.length : Nat) : Int) < (SS.length : Int)) = False ∧ (P.length + A.length < SS.length) = False ∧ (SS.map legC).getD (P.length + A.length) [] = []) ∨ (∃ b B2, B0 = b :: B2 ∧ (((P.length + A.length : Nat) : Int) < (SS.length : Int)) = True ∧ (P.length + A.length < SS.length) = True ∧ (SS.map legC).getD (P.length + A.length) [] = [iv b.ac.kind, iv b.ac.who, iv b.ac.cur, iv b.amt]) := by
    cases B0 with
    | nil =>
     simp only [List.length_nil] at hABl
     refine .inl ⟨rfl, by simp only [eq_iff_iff, iff_false]; omega, by simp only [eq_iff_iff, iff_false]; omega, ?_⟩
     simp [List.getD, List.getElem?_eq_none (show SS.length ≤ P.length + A.length by omega)]
    | cons b B2 =>
     simp only [QF] at hABl
     refine .inr ⟨b, B2, rfl, by simp only [eq_iff_iff, iff_true]; omega, by simp only [eq_iff_iff, iff_true]; omega, ?_⟩
     rw [hPR, hAB, show P ++ (A ++ b :: B2) = (P ++ A) ++ b :: B2 by simp, List.map_append]
     exact gd_mid' (A := (P ++ A).map legC) _ _ (by simp)
   rcases hcase with ⟨rfl, b2, c2, gb⟩ | ⟨b, B2, rfl, b2, c2, gb⟩
   ·skip
    refine JA fun K4 hK4 => ?_
    refine JA fun K5 hK5 => ?_
    refine awp_draw F_mixed [some 28, some 29, some 30, some 31, some 32, some 33, some 34, some 35, some 36, some 37, some 38, some 39, some 40] rfl (by kernel_rfl) ?_
    simp only [zzK, QR, QP, QQ, QU, JZ, zz5, Qj, Qi, Qh, JC, JE, zz12, F_sl41, Option.isSome_some, zz21, JM, zz22, JW, zz23, zz24, F_sz75, QA, zzC, yyE, Qe, zz19, F_off75_0, zzH, QN, QS, F_ok73, F_ag73, F_sz73, zz8, zzD, gr_ag, gr_agg, grL_cons, grL_nil, grD_cons, grD_nil, b_eqla, b_neqa, F_eql73, zz13, JQ, JR, decide_true, decide_false, Bool.false_eq_true, false_implies, b2, c2, gb, List.take_nil, List.drop_nil, aV_len, aV_get, JN, ge0, QV, Nat.le_refl, zzG, veqL, veq, zz6, QO, ↓Qb]
    refine kK hK5 [4, 5, 6, 7, 8, 40] ?_
    refine cnA ?_ ?_
    ·intro hb
     first | cases hb | simp at hb
    ·intro hb
     clear hb
     have hAx : ∃ A2, A = x :: A2 := ⟨R2, by simpa using hAB.symm⟩
     have hB0 : ([] : List LegV) = [] ∨ ∃ b t, ([] : List LegV) = b :: t ∧ acSame b.ac x.ac = false := .inl rfl
     obtain ⟨A2, rfl⟩ : ∃ A2, A = x :: A2 := hAx
     have hA2 : ∀ a ∈ A2, acSame a.ac x.ac = true := fun a ha => hA a (List.mem_cons_of_mem _ ha)
     have hjs := join_step hA2 hB0
     have hRR : x :: R2 = x :: (A2 ++ ([] : List LegV)) := hAB
     rw [hRR] at hE hO hPR
     have hBl : ([] : List LegV).length < (x :: R2).length := by rw [hRR]; simp <;> omega
     have hsl : (amts (x :: A2)).length ≤ 1000000 := by simp only [QF] at hABl hAl ⊢; omega
     refine JK ?_
     simp only [zz6, QO, ↓Qb]
     refine kK hK2 [4, 5, 6, 7, 8] ?_
     refine pq fun K2 hK2 => ?_
     simp only [zzK, QR, QP, QQ, JC, JE, JF, zz14, zzD, QS, QN, zzF, JB, ints, grow, D.sl.injEq, JN, zz6, QO, ↓Qb]
     refine cgA F_go29 (fun hG => Sum_ (amts (x :: A2)) (by omega)) ?_
     simp only [zzK, QR, QP, QQ, JC, JE, JF, zz14, zzD, QS, QN, zzF, JB, ints, grow, JN, zz6, QO, ↓Qb, atsL, oksG, JV, QZ, Qa, JO, Qm, QT, QS, zz9, QB, QA, zzC, yyF, QF, zz2]
     refine ⟨by simp [amts], ?_⟩
     refine kK hK2 [4, 5, 6, 8, 9, 10] ?_
     refine JA fun K2 hK2 => ?_
     refine pq fun K3 hK3 => ?_
     simp only [zzK, QR, QP, QQ, JC, zz21, JM, zz28, zz6, QO, ↓Qb]
     refine kK hK3 [4, 5, 6, 8, 9, 10, 57] ?_
     refine cnA ?_ ?_
     ·intro hb
      have hse : (sumE (amts (x :: A2)) != 0) = true := hb
      clear hb
      refine pq fun K4 hK4 => ?_
      simp only [zzK, QR, QP, QQ, JC, JB, zz6, QO, ↓Qb]
      refine kK hK4 [2, 3] ?_
      refine awp_le (leK id [0] (l' := [(2, .ref 0 0), (3, .d (iv (sumE (amts (x :: A2)))))]) (m' := [(0, (⟨True, 75, 4, true, true, 0, []⟩ : ARow))])) ?_
      refine JJ ?_
      simp only [zz6, QO, ↓Qb]
      have hjE : joinE SS ≠ 0 := by rw [hE, hjs.1, hse]; simpa using hse
      have hjr : joinR l = joinE SS := by simp only [joinR, hok, Qd, hSS]
      have hjv : joinV l = [] := by simp only [joinV, show (joinR l == 0) = false by rw [hjr]; simpa using hjE, Qc]
      have hje : joinE SS = sumE (amts (x :: A2)) := by rw [hE, hjs.1, hse]; rfl
      rw [hjv, hjr, hje]
      refine done1 0 (by simp only [resCs, resC]; trivial) ?_ (by simp [Ja, Jb, Jc]) (by simp [QY, QX]) (by rfl) trivial rfl rfl ?_ (by simp [flatDs, Jc])
      ·simp only [QD, QE, resA, JZ, QR, QP, JD, QQ, Qd, Qc, JP]; rfl
      ·rfl
     ·intro hb
      have hse : (sumE (amts (x :: A2)) != 0) = false := hb
      clear hb
      have hE2 := hE.trans (hjs.1.trans (by rw [hse]; try rfl))
      refine JI ?_
      simp only [zz6, QO, ↓Qb]
      refine kK hK2 [4, 5, 6, 8, 9] ?_
      refine pq fun K2 hK2 => ?_
      simp only [zzK, QR, QP, QQ, JC, zz21, JM, zz28, zz6, QO, ↓Qb]
      refine kK hK2 [4, 5, 6, 8, 9, 60] ?_
      refine cnA ?_ ?_
      ·intro hb
       have hsv : (sumV (amts (x :: A2)) != 0) = true := hb
       clear hb
       have hO2 := hO.trans (by rw [hjs.2, hsv, Qd, ← List.append_assoc])
       refine pz ?_
       simp only [zzK, QR, QP, QQ, JC, F_ok73, F_ag73, F_sz73, zz8, zz23, zzD, QS, QN, zzH, zzC, QA, yyE, Qe, F_zero75, F_bld75, zz7, splice, Option.getD_some, QG, zz1, zzG, zz10, F_fld75_0, F_fld75_1, F_sl41, F_sz75, zz3, JS, maxLen_le, QT, JE, F_by75, zz4, zz9, QB, JB, grow, QW, unDs_map, zz6, QO, ↓Qb]
       have hm : out.length + 1 ≤ 1000000 := by omega
       first | refine ⟨le_maxLen hm, by omega, ?_⟩ | refine ⟨by simp, le_maxLen hm, by omega, ?_⟩
       clear hm
       refine ⟨([] : List LegV).length, _, hBl, le_SK (fun r => bif r == 5 then 66 else r) [] rfl (l' := [(4, .ref 16 SS.length), (5, .ref 5 ((out ++ [(⟨x.ac, sumV (amts (x :: A2))⟩ : LegV)])).length), (6, .d (iv (P ++ (x :: A2)).length))]) (m' := [(16, (⟨True, 75, 4, true, true, 14, aV ((SS).map legC)⟩ : ARow)), (5, grow 75 4 5 ((out ++ [(⟨x.ac, sumV (amts (x :: A2))⟩ : LegV)]).map legC))]) ?_ ?_ ?_ ?_, P ++ (x :: A2), ([] : List LegV), (out ++ [(⟨x.ac, sumV (amts (x :: A2))⟩ : LegV)]), by rw [hPR]; simp, hE2, hO2, by simp; omega, rfl, rfl⟩
       ·simp only [leV, JD, QQ, Qd, Qc, QC]
        refine ⟨?_, ?_, Qo rfl, trivial⟩
        ·exact VLe.ref_ (f := (fun r => bif r == 5 then 66 else r)) (r := 16) (by simp)
        ·exact VLe.ref_ (f := (fun r => bif r == 5 then 66 else r)) (r := 5) (by simp)
       ·exact ⟨fun _ => ⟨_, rfl, Qv (JU _)⟩, (by simp), fun _ => ⟨_, rfl, Qw (by simp [legC])⟩, (by simp), trivial⟩
       ·simp [wfV, QY, lookR, grow]
       ·exact ⟨fun e he r' hr' => by rw [JU _ e he] at hr'; simp at hr', wf_data _ _, trivial⟩
      ·intro hb
       have hsv : (sumV (amts (x :: A2)) != 0) = false := hb
       clear hb
       have hO2 := hO.trans (by rw [hjs.2, hsv, Qc, List.nil_append])
       refine JI ?_
       simp only [zz6, QO, ↓Qb]
       refine ⟨([] : List LegV).length, _, hBl, le_SK (fun r => bif r == 5 then 5 else r) [] rfl (l' := [(4, .ref 16 SS.length), (5, .ref 5 (out).length), (6, .d (iv (P ++ (x :: A2)).length))]) (m' := [(16, (⟨True, 75, 4, true, true, 14, aV ((SS).map legC)⟩ : ARow)), (5, grow 75 4 5 (out.map legC))]) ?_ ?_ ?_ ?_, P ++ (x :: A2), ([] : List LegV), out, by rw [hPR]; simp, hE2, hO2, by simp; omega, rfl, rfl⟩
       ·simp only [leV, JD, QQ, Qd, Qc, QC]
        refine ⟨?_, ?_, Qo rfl, trivial⟩
        ·exact VLe.ref_ (f := (fun r => bif r == 5 then 5 else r)) (r := 16) (by simp)
        ·exact VLe.ref_ (f := (fun r => bif r == 5 then 5 else r)) (r := 5) (by simp)
       ·exact ⟨fun _ => ⟨_, rfl, Qv (JU _)⟩, (by simp), fun _ => ⟨_, rfl, Qw (by simp [legC])⟩, (by simp), trivial⟩
       ·simp [wfV, QY, lookR, grow]
       ·exact ⟨fun e he r' hr' => by rw [JU _ e he] at hr'; simp at hr', wf_data _ _, trivial⟩
   ·skip
    refine JA fun K4 hK4 => ?_
    refine JA fun K5 hK5 => ?_
    refine awp_draw F_mixed [some 28, some 29, some 30, some 31, some 32, some 33, some 34, some 35, some 36, some 37, some 38, some 39, some 40] rfl (by kernel_rfl) ?_
    simp only [zzK, QR, QP, QQ, QU, JZ, zz5, Qj, Qi, Qh, JC, JE, zz12, F_sl41, Option.isSome_some, zz21, JM, zz22, JW, zz23, zz24, F_sz75, QA, zzC, yyE, Qe, zz19, F_off75_0, zzH, QN, QS, F_ok73, F_ag73, F_sz73, zz8, zzD, gr_ag, gr_agg, grL_cons, grL_nil, grD_cons, grD_nil, b_eqla, b_neqa, F_eql73, zz13, JQ, JR, decide_true, decide_false, Bool.false_eq_true, false_implies, b2, c2, gb, List.take_nil, List.drop_nil, aV_len, aV_get, JN, ge0, QV, Nat.le_refl, zzG, veqL, veq, zz6, QO, ↓Qb]
    refine kK hK5 [4, 5, 6, 7, 8, 40] ?_
    refine cnA ?_ ?_
    ·intro hb
     have hsm : acSame b.ac x.ac = true := by simpa [acSame, Bool.and_assoc] using hb
     clear hb
     have hA3 : ∀ a ∈ A ++ [b], acSame a.ac x.ac = true := fun a ha => by
      rcases List.mem_append.1 ha with ha | ha
      ·exact hA a ha
      ·obtain rfl : a = b := by simpa using ha
       exact hsm
     simp only [QF] at hABl
     have hwi : Ql .i64 (((P.length + A.length : Nat) : Int) + 1) = ((P.length + (A.length + 1) : Nat) : Int) := by rw [wrapI (by omega) (by omega)]; omega
     refine JI ?_
     simp only [zz6, QO, ↓Qb]
     refine kK hK4 [4, 5, 6, 7, 8] ?_
     refine JA fun K4 hK4 => ?_
     refine JH ?_
     refine pz ?_
     simp only [zzK, QR, QP, QQ, JC, JW, zz23, zz24, F_sl41, F_sz75, QA, zzC, yyE, Qe, zz19, F_off75_1, zzH, QN, QS, F_ok3, F_ag3, F_sz3, zz8, zzD, F_sl30, F_zero3, zz3, JS, zz1, zzG, maxLen_le, QT, JE, F_by3, zz4, zz9, QB, JB, aV_len, aV_get, JN, gb, b2, c2, ge0, QV, Nat.le_refl, QD, grow, QW, unDs_map, zz6, QO, ↓Qb]
     have hm : A.length + 1 ≤ 1000000 := by omega
     first | refine ⟨le_maxLen hm, by omega, ?_⟩ | refine ⟨by simp [amts], le_maxLen hm, by omega, ?_⟩
     clear hm
     refine kK hK4 [4, 5, 6, 7, 8] ?_
     refine pz ?_
     simp only [zzK, QR, QP, QQ, JC, zz21, JM, zz26, JB, hwi, zz6, QO, ↓Qb]
     refine ⟨B2.length, _, by simp, le_SK (fun r => bif r == 7 then 50 else r) [] rfl (l' := [(4, .ref 16 SS.length), (5, .ref 5 out.length), (6, .d (iv (P.length + (A ++ [b]).length : Nat))), (7, .ref 7 (A ++ [b]).length), (8, .ptr 8 0 0)]) (m' := [(16, (⟨True, 75, 4, true, true, 14, aV ((SS).map legC)⟩ : ARow)), (5, grow 75 4 5 (out.map legC)), (7, grow 3 1 7 ((amts (A ++ [b])).map fun n => [iv n])), (8, (⟨True, 73, 3, true, false, 8, [[.d (iv x.ac.kind), .d (iv x.ac.who), .d (iv x.ac.cur)]]⟩ : ARow))]) ?_ ?_ ?_ ?_, A ++ [b], B2, by simp [hAB], hA3, rfl, rfl⟩
     ·simp only [leV, JD, QQ, Qd, Qc, hwi, QC, QM]
      refine ⟨?_, ?_, Qo rfl, ?_, ?_, trivial⟩
      ·exact VLe.ref_ (f := fun r => bif r == 7 then 50 else r) (r := 16) (by simp)
      ·exact VLe.ref_ (f := fun r => bif r == 7 then 50 else r) (r := 5) (by simp)
      ·exact VLe.ref_ (f := fun r => bif r == 7 then 50 else r) (r := 7) (by simp)
      ·exact VLe.ptr_ (f := fun r => bif r == 7 then 50 else r) (r := 8) (by simp)
     ·exact ⟨fun _ => ⟨_, rfl, Qv (JU _)⟩, (by simp), fun _ => ⟨_, rfl, Qw rfl⟩, (by simp), fun _ => ⟨_, rfl, Qw (by simp [amts])⟩, (by simp), fun _ => ⟨_, rfl, Qv (by simp [QX, QY])⟩, (by simp), trivial⟩
     ·simp [wfV, QY, lookR, grow]
     ·exact ⟨fun e he r' hr' => by rw [JU _ e he] at hr'; simp at hr', wf_data _ _, wf_data _ _, by simp [QX, QY], trivial⟩
    ·intro hb
     have hns : acSame b.ac x.ac = false := by
      cases h : acSame b.ac x.ac with
      | false => rfl
      | true => rw [acSame_iff] at h; rw [h] at hb; simp at hb
     clear hb
     have hAx : ∃ A2, A = x :: A2 := by
      cases A with
      | nil => simp at hAB; rw [← hAB.1, acSame_refl] at hns; cases hns
      | cons a A2 => simp at hAB; exact ⟨A2, by rw [hAB.1]⟩
     have hB0 : (b :: B2) = [] ∨ ∃ b_ t, (b :: B2) = b_ :: t ∧ acSame b_.ac x.ac = false := .inr ⟨b, B2, rfl, hns⟩
     simp only [QF] at hABl
     obtain ⟨A2, rfl⟩ : ∃ A2, A = x :: A2 := hAx
     have hA2 : ∀ a ∈ A2, acSame a.ac x.ac = true := fun a ha => hA a (List.mem_cons_of_mem _ ha)
     have hjs := join_step hA2 hB0
     have hRR : x :: R2 = x :: (A2 ++ (b :: B2)) := hAB
     rw [hRR] at hE hO hPR
     have hBl : (b :: B2).length < (x :: R2).length := by rw [hRR]; simp <;> omega
     have hsl : (amts (x :: A2)).length ≤ 1000000 := by simp only [QF] at hABl hAl ⊢; omega
     refine JK ?_
     simp only [zz6, QO, ↓Qb]
     refine kK hK2 [4, 5, 6, 7, 8] ?_
     refine pq fun K2 hK2 => ?_
     simp only [zzK, QR, QP, QQ, JC, JE, JF, zz14, zzD, QS, QN, zzF, JB, ints, grow, D.sl.injEq, JN, zz6, QO, ↓Qb]
     refine cgA F_go29 (fun hG => Sum_ (amts (x :: A2)) (by omega)) ?_
     simp only [zzK, QR, QP, QQ, JC, JE, JF, zz14, zzD, QS, QN, zzF, JB, ints, grow, JN, zz6, QO, ↓Qb, atsL, oksG, JV, QZ, Qa, JO, Qm, QT, QS, zz9, QB, QA, zzC, yyF, QF, zz2]
     refine ⟨by simp [amts], ?_⟩
     refine kK hK2 [4, 5, 6, 8, 9, 10] ?_
     refine JA fun K2 hK2 => ?_
     refine pq fun K3 hK3 => ?_
     simp only [zzK, QR, QP, QQ, JC, zz21, JM, zz28, zz6, QO, ↓Qb]
     refine kK hK3 [4, 5, 6, 8, 9, 10, 57] ?_
     refine cnA ?_ ?_
     ·intro hb
      have hse : (sumE (amts (x :: A2)) != 0) = true := hb
      clear hb
      refine pq fun K4 hK4 => ?_
      simp only [zzK, QR, QP, QQ, JC, JB, zz6, QO, ↓Qb]
      refine kK hK4 [2, 3] ?_
      refine awp_le (leK id [0] (l' := [(2, .ref 0 0), (3, .d (iv (sumE (amts (x :: A2)))))]) (m' := [(0, (⟨True, 75, 4, true, true, 0, []⟩ : ARow))])) ?_
      refine JJ ?_
      simp only [zz6, QO, ↓Qb]
      have hjE : joinE SS ≠ 0 := by rw [hE, hjs.1, hse]; simpa using hse
      have hjr : joinR l = joinE SS := by simp only [joinR, hok, Qd, hSS]
      have hjv : joinV l = [] := by simp only [joinV, show (joinR l == 0) = false by rw [hjr]; simpa using hjE, Qc]
      have hje : joinE SS = sumE (amts (x :: A2)) := by rw [hE, hjs.1, hse]; rfl
      rw [hjv, hjr, hje]
      refine done1 0 (by simp only [resCs, resC]; trivial) ?_ (by simp [Ja, Jb, Jc]) (by simp [QY, QX]) (by rfl) trivial rfl rfl ?_ (by simp [flatDs, Jc])
      ·simp only [QD, QE, resA, JZ, QR, QP, JD, QQ, Qd, Qc, JP]; rfl
      ·rfl
     ·intro hb
      have hse : (sumE (amts (x :: A2)) != 0) = false := hb
      clear hb
      have hE2 := hE.trans (hjs.1.trans (by rw [hse]; try rfl))
      refine JI ?_
      simp only [zz6, QO, ↓Qb]
      refine kK hK2 [4, 5, 6, 8, 9] ?_
      refine pq fun K2 hK2 => ?_
      simp only [zzK, QR, QP, QQ, JC, zz21, JM, zz28, zz6, QO, ↓Qb]
      refine kK hK2 [4, 5, 6, 8, 9, 60] ?_
      refine cnA ?_ ?_
      ·intro hb
       have hsv : (sumV (amts (x :: A2)) != 0) = true := hb
       clear hb
       have hO2 := hO.trans (by rw [hjs.2, hsv, Qd, ← List.append_assoc])
       refine pz ?_
       simp only [zzK, QR, QP, QQ, JC, F_ok73, F_ag73, F_sz73, zz8, zz23, zzD, QS, QN, zzH, zzC, QA, yyE, Qe, F_zero75, F_bld75, zz7, splice, Option.getD_some, QG, zz1, zzG, zz10, F_fld75_0, F_fld75_1, F_sl41, F_sz75, zz3, JS, maxLen_le, QT, JE, F_by75, zz4, zz9, QB, JB, grow, QW, unDs_map, zz6, QO, ↓Qb]
       have hm : out.length + 1 ≤ 1000000 := by omega
       first | refine ⟨le_maxLen hm, by omega, ?_⟩ | refine ⟨by simp, le_maxLen hm, by omega, ?_⟩
       clear hm
       refine ⟨(b :: B2).length, _, hBl, le_SK (fun r => bif r == 5 then 66 else r) [] rfl (l' := [(4, .ref 16 SS.length), (5, .ref 5 ((out ++ [(⟨x.ac, sumV (amts (x :: A2))⟩ : LegV)])).length), (6, .d (iv (P ++ (x :: A2)).length))]) (m' := [(16, (⟨True, 75, 4, true, true, 14, aV ((SS).map legC)⟩ : ARow)), (5, grow 75 4 5 ((out ++ [(⟨x.ac, sumV (amts (x :: A2))⟩ : LegV)]).map legC))]) ?_ ?_ ?_ ?_, P ++ (x :: A2), (b :: B2), (out ++ [(⟨x.ac, sumV (amts (x :: A2))⟩ : LegV)]), by rw [hPR]; simp, hE2, hO2, by simp; omega, rfl, rfl⟩
       ·simp only [leV, JD, QQ, Qd, Qc, QC]
        refine ⟨?_, ?_, Qo rfl, trivial⟩
        ·exact VLe.ref_ (f := (fun r => bif r == 5 then 66 else r)) (r := 16) (by simp)
        ·exact VLe.ref_ (f := (fun r => bif r == 5 then 66 else r)) (r := 5) (by simp)
       ·exact ⟨fun _ => ⟨_, rfl, Qv (JU _)⟩, (by simp), fun _ => ⟨_, rfl, Qw (by simp [legC])⟩, (by simp), trivial⟩
       ·simp [wfV, QY, lookR, grow]
       ·exact ⟨fun e he r' hr' => by rw [JU _ e he] at hr'; simp at hr', wf_data _ _, trivial⟩
      ·intro hb
       have hsv : (sumV (amts (x :: A2)) != 0) = false := hb
       clear hb
       have hO2 := hO.trans (by rw [hjs.2, hsv, Qc, List.nil_append])
       refine JI ?_
       simp only [zz6, QO, ↓Qb]
       refine ⟨(b :: B2).length, _, hBl, le_SK (fun r => bif r == 5 then 5 else r) [] rfl (l' := [(4, .ref 16 SS.length), (5, .ref 5 (out).length), (6, .d (iv (P ++ (x :: A2)).length))]) (m' := [(16, (⟨True, 75, 4, true, true, 14, aV ((SS).map legC)⟩ : ARow)), (5, grow 75 4 5 (out.map legC))]) ?_ ?_ ?_ ?_, P ++ (x :: A2), (b :: B2), out, by rw [hPR]; simp, hE2, hO2, by simp; omega, rfl, rfl⟩
       ·simp only [leV, JD, QQ, Qd, Qc, QC]
        refine ⟨?_, ?_, Qo rfl, trivial⟩
        ·exact VLe.ref_ (f := (fun r => bif r == 5 then 5 else r)) (r := 16) (by simp)
        ·exact VLe.ref_ (f := (fun r => bif r == 5 then 5 else r)) (r := 5) (by simp)
       ·exact ⟨fun _ => ⟨_, rfl, Qv (JU _)⟩, (by simp), fun _ => ⟨_, rfl, Qw (by simp [legC])⟩, (by simp), trivial⟩
       ·simp [wfV, QY, lookR, grow]
       ·exact ⟨fun e he r' hr' => by rw [JU _ e he] at hr'; simp at hr', wf_data _ _, trivial⟩
  ·intro hb
   have hR : R = [] := by
    have hPl := congrArg List.length hPR
    simp only [QC] at hPl
    cases R with
    | nil => rfl
    | cons x t => have := Qf hb; simp at hPl; omega
   clear hb
   subst hR
   have hjr : joinR l = 0 := by simp only [joinR, hok, Qd, hSS, hE, joinE]
   have hjv : joinV l = out := by simp only [joinV, hjr, hSS, hO, joinO, QG]; rfl
   refine JK ?_
   simp only [zz6, QO, ↓Qb]
   refine kK hK0 [5] ?_
   refine pq fun K0 hK0 => ?_
   simp only [zzK, QR, QP, QQ, JC, JB, zz6, QO, ↓Qb]
   refine kK hK0 [2, 3] ?_
   refine JJ ?_
   simp only [zz6, QO, ↓Qb]
   rw [hjv, hjr]
   refine done1 5 (by simp only [resCs, resC]; trivial) ?_ (by simp [Ja, Jb, Jc, legC]) (by simp [QY, QX, legC]) (by rfl) trivial rfl rfl ?_ (by simp [flatDs, Jc, legC])
   ·simp only [QD, QE, resA, JZ, QR, QP, JD, QQ, Qd, Qc, JP]; rfl
   ·rfl
theorem sub64 (x y b : Nat) (hb : b ≤ 1) : extOk Tryz.prog 121 [uV x, uV y, uV b] (.tuple #[uV ((x + 18446744073709551616 - y - b) % 18446744073709551616), uV (if x < y + b then 1 else 0)]) := fun w => by
 simp only [uV]
 rw [run_callFunc_extern Tryz.func121 (by kernel_rfl) (by kernel_rfl) (by kernel_rfl) (e := sub64Entry) (by kernel_rfl), run_sub64 x y b hb]
 rfl
theorem isNaNu_ (n : Int) : ACalls Tryz.prog 124 [.v (.int .u64 n)] [] (bv false) := by
 refine acalls_S (rs := [.tmp 2]) Tryz.func124 rfl rfl 6 [(0, .d (.v (.int .u64 n)))] rfl (by simp) rfl ?_
 refine pq fun K0 hK0 => ?_
 simp only [zzK, QR, QP, QQ, JB, zz6, QO, ↓Qb]
 refine kK hK0 [0] ?_
 refine pq fun K0 hK0 => ?_
 simp only [zzK, QR, QP, QQ, JC, zz21, JM, zz28, JB, zz6, QO, ↓Qb]
 refine kK hK0 [2] ?_
 refine JJ ?_
 simp only [zz6, QO, ↓Qb]
 refine dnA ?_
 simp only [QD, QE, resA, JZ, QR, QP, JD, QQ, Qd, Qc, JP]
 simp
theorem CompareU_ (a b : Int) : ACalls Tryz.prog 114 [.v (.int .u64 a), .v (.int .u64 b)] [] (.d (iv (cmpI a b))) := by
 refine acalls_S (rs := [.tmp 4]) Tryz.func114 rfl rfl 20 [(0, .d (.v (.int .u64 a))), (1, .d (.v (.int .u64 b)))] rfl (by simp) rfl ?_
 refine pq fun K0 hK0 => ?_
 simp only [zzK, QR, QP, QQ, JB, zz6, QO, ↓Qb]
 refine kK hK0 [0, 1] ?_
 refine pq fun K0 hK0 => ?_
 simp only [zzK, QR, QP, QQ, JC, JE, JF, JB, zz6, QO, ↓Qb]
 refine cgA F_go124 (fun hG => isNaNu_ a) ?_
 simp only [zzK, QR, QP, QQ, JC, JE, JF, JB, zz6, QO, ↓Qb, atsL, oksG, JV, QZ, Qa, JO, Qm, QT, QS, zz9, QB, QA, zzC, yyF, zzD, zz2]
 refine kK hK0 [0, 1, 5] ?_
 refine pq fun K0 hK0 => ?_
 simp only [zzK, QR, QP, QQ, JC, JE, JF, JB, zz6, QO, ↓Qb]
 refine cgA F_go124 (fun hG => isNaNu_ b) ?_
 simp only [zzK, QR, QP, QQ, JC, JE, JF, JB, zz6, QO, ↓Qb, atsL, oksG, JV, QZ, Qa, JO, Qm, QT, QS, zz9, QB, QA, zzC, yyF, zzD, zz2]
 refine kK hK0 [0, 1, 5, 6] ?_
 refine JA fun K0 hK0 => ?_
 refine pq fun K1 hK1 => ?_
 simp only [zzK, QR, QP, QQ, JC, zz6, QO, ↓Qb]
 refine kK hK1 [0, 1, 6, 11] ?_
 refine cnA ?_ ?_
 ·intro hb
  cases hb
 ·intro hb
  clear hb
  refine JI ?_
  simp only [zz6, QO, ↓Qb]
  refine kK hK0 [0, 1, 6] ?_
  refine JA fun K0 hK0 => ?_
  refine pq fun K1 hK1 => ?_
  simp only [zzK, QR, QP, QQ, JC, zz6, QO, ↓Qb]
  refine kK hK1 [0, 1, 13] ?_
  refine cnA ?_ ?_
  ·intro hb
   cases hb
  ·intro hb
   clear hb
   refine JI ?_
   simp only [zz6, QO, ↓Qb]
   refine kK hK0 [0, 1] ?_
   refine JA fun K0 hK0 => ?_
   refine pq fun K1 hK1 => ?_
   simp only [zzK, QR, QP, QQ, JC, zz21, JM, zz22, zz6, QO, ↓Qb]
   refine kK hK1 [0, 1, 16] ?_
   refine cnA ?_ ?_
   ·intro hb
    have e : cmpI a b = -1 := by simp only [cmpI, hb, Qd]
    refine pq fun K2 hK2 => ?_
    simp only [zzK, QR, QP, QQ, JB, zz6, QO, ↓Qb]
    refine kK hK2 [4] ?_
    refine JJ ?_
    simp only [zz6, QO, ↓Qb]
    refine dnA ?_
    simp only [QD, QE, resA, JZ, QR, QP, JD, QQ, Qd, Qc, JP]
    rw [e]
   ·intro hb
    skip
    refine JI ?_
    simp only [zz6, QO, ↓Qb]
    refine kK hK0 [0, 1] ?_
    refine JA fun K0 hK0 => ?_
    refine pq fun K1 hK1 => ?_
    simp only [zzK, QR, QP, QQ, JC, zz21, JM, zz25, zz6, QO, ↓Qb]
    refine kK hK1 [19] ?_
    refine cnA ?_ ?_
    ·intro hb
     rename_i hb0
     have e : cmpI a b = 1 := by simp only [cmpI, hb0, hb, Qd, Qc]
     refine pq fun K2 hK2 => ?_
     simp only [zzK, QR, QP, QQ, JB, zz6, QO, ↓Qb]
     refine kK hK2 [4] ?_
     refine JJ ?_
     simp only [zz6, QO, ↓Qb]
     refine dnA ?_
     simp only [QD, QE, resA, JZ, QR, QP, JD, QQ, Qd, Qc, JP]
     rw [e]
    ·intro hb
     rename_i hb0
     have e : cmpI a b = 0 := by simp only [cmpI, hb0, hb, Qd, Qc]
     refine JI ?_
     simp only [zz6, QO, ↓Qb]
     refine kK hK0 [] ?_
     refine pq fun K0 hK0 => ?_
     simp only [zzK, QR, QP, QQ, JB, zz6, QO, ↓Qb]
     refine kK hK0 [4] ?_
     refine JJ ?_
     simp only [zz6, QO, ↓Qb]
     refine dnA ?_
     simp only [QD, QE, resA, JZ, QR, QP, JD, QQ, Qd, Qc, JP]
     rw [e]
theorem Or_ (l : List Int) (hl : l.length ≤ 1000000) : ACalls Tryz.prog 113 [ints l] [] (.d (iv (orI l))) := by
 refine acalls_S (rs := [.tmp 2]) Tryz.func113 rfl rfl 18 [(0, .d (ints l))] rfl (by simp) rfl ?_
 refine pq fun K0 hK0 => ?_
 simp only [zzK, QR, QP, QQ, JB, zz6, QO, ↓Qb]
 refine kK hK0 [0] ?_
 refine pq fun K0 hK0 => ?_
 simp only [zzK, QR, QP, QQ, JB, zz6, QO, ↓Qb]
 refine kK hK0 [0, 3] ?_
 refine JA fun K0 hK0 => ?_
 refine pq fun K1 hK1 => ?_
 simp only [zzK, QR, QP, QQ, JC, JE, zz12, F_sl30, Option.isSome_some, ints, JN, zz6, QO, ↓Qb]
 refine kK hK1 [3, 6, 7, 8] ?_
 refine JH ?_
 refine JL (fun m s => ∃ pre post : List Int, l = pre ++ post ∧ orI l = orI post ∧ m = post.length ∧ s = S 18 [(3, .d (iv 0)), (6, .d (ints l)), (7, .d (iv l.length)), (8, .d (iv pre.length))] []) l.length _ (leK id [] (hl := by simp only [leV, JD, QQ, Qd, Qc, ints, JN]; exact ⟨Qn _, Qn _, Qn _, Qn _, trivial⟩)) ⟨[], l, rfl, rfl, rfl, rfl⟩ ?_
 rintro m s ⟨pre, post, rfl, hor, rfl, rfl⟩
 refine pq fun K2 hK2 => ?_
 simp only [zzK, QR, QP, QQ, zz21, JM, zz22, zz6, QO, ↓Qb]
 refine kK hK2 [3, 6, 7, 8, 9] ?_
 refine JA fun K2 hK2 => ?_
 refine cnA ?_ ?_
 ·intro hb
  obtain ⟨x, post, rfl⟩ := more_of hb; clear hb
  refine JI ?_
  simp only [zz6, QO, ↓Qb]
  refine kK hK2 [3, 6, 7, 8] ?_
  refine JA fun K2 hK2 => ?_
  refine JH ?_
  refine pq fun K3 hK3 => ?_
  simp only [zzK, QR, QP, QQ, JW, zz23, zz24, F_sl30, F_sz3, QA, zzC, yyE, Qe, F_ok3, F_ag3, zz8, zzD, QS, QN, zzH, JB, ints, getD_mid, JN, lt_mid, ge_mid, zz6, QO, ↓Qb]
  refine kK hK3 [3, 5, 6, 7, 8] ?_
  refine pq fun K3 hK3 => ?_
  simp only [zzK, QR, QP, QQ, JC, zz21, JM, zz28, zz6, QO, ↓Qb]
  refine kK hK3 [3, 5, 6, 7, 8, 14] ?_
  refine cnA ?_ ?_
  ·intro hb
   have e : orI (pre ++ x :: post) = x := by rw [hor, orI, hb]; rfl
   refine pq fun K4 hK4 => ?_
   simp only [zzK, QR, QP, QQ, JC, JB, zz6, QO, ↓Qb]
   refine kK hK4 [2] ?_
   refine JJ ?_
   simp only [zz6, QO, ↓Qb]
   refine dnA ?_
   simp only [QD, QE, resA, JZ, QR, QP, JD, QQ, Qd, Qc, JP]
   rw [e]
  ·intro hb
   have hx : (x != 0) = false := hb
   clear hb
   refine JI ?_
   simp only [zz6, QO, ↓Qb]
   refine kK hK2 [3, 6, 7, 8] ?_
   refine pz ?_
   simp only [zzK, QR, QP, QQ, zz21, JM, zz26, JC, zz6, QO, ↓Qb]
   refine ⟨post.length, _, by simp, leK id [] (hl := by simp only [leV, JD, QQ, Qd, Qc, ints, JN, wrap_len pre x (by simp at hl; omega)]; exact ⟨Qn _, Qn _, Qn _, Qn _, trivial⟩), pre ++ [x], post, by simp, by rw [hor, orI, hx]; rfl, rfl, rfl⟩
 ·intro hb
  obtain rfl := none_of hb; clear hb
  have e : orI (pre ++ []) = 0 := by rw [hor]; rfl
  refine JK ?_
  simp only [zz6, QO, ↓Qb]
  refine kK hK0 [3] ?_
  refine pq fun K0 hK0 => ?_
  simp only [zzK, QR, QP, QQ, JC, JB, zz6, QO, ↓Qb]
  refine kK hK0 [2] ?_
  refine JJ ?_
  simp only [zz6, QO, ↓Qb]
  refine dnA ?_
  simp only [QD, QE, resA, JZ, QR, QP, JD, QQ, Qd, Qc, JP]
  rw [e]
theorem gCmp_ (a b : Nat) : ACalls Tryz.prog 105 [.agg (gC a), .agg (gC b)] [] (.d (iv (cmpG a b))) := by
 refine acalls_S (rs := [.tmp 4]) Tryz.func105 rfl rfl 17 [(0, .d (.agg (gC a))), (1, .d (.agg (gC b)))] rfl (by simp) rfl ?_
 refine pq fun K0 hK0 => ?_
 simp only [zzK, QR, QP, QQ, zz35, JS, zz1, zzG, zzD, zzC, QA, yyE, Qe, QS, QN, zzH, JB, gC, uw, zz6, QO, ↓Qb]
 refine kK hK0 [2, 3] ?_
 refine JA fun K0 hK0 => ?_
 refine awp_draw F_mixed [some 5, some 6, some 7, some 8, some 9, some 10, some 11, some 12, some 13, some 14, some 15, some 16, some 4] rfl (by kernel_rfl) ?_
 simp only [zzK, QR, QP, QQ, zz19, zz23, F_off138_0, zzH, QN, QS, F_ok94, F_ag94, F_sz94, zz8, zzD, zzC, QA, yyE, Qe, JE, JF, F_off138_1, F_sl30, F_zero3, F_sz3, zz3, JS, zz1, zzG, maxLen_le, QT, JB, ints, QD, D.sl.injEq, zz6, QO, ↓Qb]
 refine cgA F_go114 (fun hG => CompareU_ ((a / 18446744073709551616 : Nat) : Int) ((b / 18446744073709551616 : Nat) : Int)) ?_
 simp only [zzK, QR, QP, QQ, zz19, zz23, F_off138_0, zzH, QN, QS, F_ok94, F_ag94, F_sz94, zz8, zzD, zzC, QA, yyE, Qe, JE, JF, F_off138_1, F_sl30, F_zero3, F_sz3, zz3, JS, zz1, zzG, maxLen_le, QT, JB, ints, QD, zz6, QO, ↓Qb, atsL, oksG, JV, QZ, Qa, JO, Qm, QT, QS, zz9, QB, QA, S_mem, yyF, QF, zz2]
 refine cgA F_go114 (fun hG => CompareU_ ((a % 18446744073709551616 : Nat) : Int) ((b % 18446744073709551616 : Nat) : Int)) ?_
 simp only [zzK, QR, QP, QQ, zz19, zz23, F_off138_0, zzH, QN, QS, F_ok94, F_ag94, F_sz94, zz8, zzD, zzC, QA, yyE, Qe, JE, JF, F_off138_1, F_sl30, F_zero3, F_sz3, zz3, JS, zz1, zzG, maxLen_le, QT, JB, ints, QD, zz6, QO, ↓Qb, atsL, oksG, JV, QZ, Qa, JO, Qm, QT, QS, zz9, QB, QA, S_mem, yyF, QF, zz2]
 refine cgA F_go113 (fun hG => Or_ [cmpI ((a / 18446744073709551616 : Nat) : Int) ((b / 18446744073709551616 : Nat) : Int), cmpI ((a % 18446744073709551616 : Nat) : Int) ((b % 18446744073709551616 : Nat) : Int)] (by simp)) ?_
 simp only [zzK, QR, QP, QQ, zz19, zz23, F_off138_0, zzH, QN, QS, F_ok94, F_ag94, F_sz94, zz8, zzD, zzC, QA, yyE, Qe, JE, JF, F_off138_1, F_sl30, F_zero3, F_sz3, zz3, JS, zz1, zzG, maxLen_le, QT, JB, ints, QD, zz6, QO, ↓Qb, atsL, oksG, JV, QZ, Qa, JO, Qm, QT, QS, zz9, QB, QA, S_mem, yyF, QF, zz2]
 refine kK hK0 [4] ?_
 refine JJ ?_
 simp only [zz6, QO, ↓Qb]
 refine dnA ?_
 simp only [QD, QE, resA, JZ, QR, QP, JD, QQ, Qd, Qc, JP]
 rw [cmpG_eq]
theorem gPlus_ (a n : Nat) (h : a + n < 340282366920938463463374607431768211456) (hn : n < 18446744073709551616) : ACalls Tryz.prog 100 [.agg (gC a), .v (.int .u64 (n : Int))] [] (gA (a + n)) := by
 refine acalls_S (rs := [.cell 4 138]) Tryz.func100 rfl rfl 20 [(0, .d (.agg (gC a))), (1, .d (.v (.int .u64 (n : Int))))] rfl (by simp) rfl ?_
 refine pq fun K0 hK0 => ?_
 simp only [zzK, QR, QP, QQ, zz35, JS, zz1, zzG, zzD, zzC, QA, yyE, Qe, QS, QN, zzH, zz32, F_zero138, zz10, gC, uw, zz6, QO, ↓Qb]
 refine kK hK0 [1, 2, 4] ?_
 refine pq fun K0 hK0 => ?_
 simp only [zzK, QR, QP, QQ, zz19, zz23, F_off138_1, zzH, QN, QS, F_ok94, F_ag94, F_sz94, zz8, zzD, zzC, QA, yyE, Qe, JC, JE, JF, zz14, JB, zz6, QO, ↓Qb]
 refine call_ext _ _ (add64 ((a % 18446744073709551616 : Nat) : Int) (n : Int) 0 (by omega) (by omega) (by decide) (by decide)) ?_
 simp only [zzK, QR, QP, QQ, zz19, zz23, F_off138_1, zzH, QN, QS, F_ok94, F_ag94, F_sz94, zz8, zzD, zzC, QA, yyE, Qe, JC, JE, JF, zz14, JB, zz6, QO, ↓Qb, grsL, JM, QB, QA, oksL, ofV_pair, ofV_int, ofV_bool]
 refine kK hK0 [2, 4, 5, 6] ?_
 refine pq fun K0 hK0 => ?_
 simp only [zzK, QR, QP, QQ, zz19, zz23, F_off138_0, zzH, QN, QS, F_ok94, F_ag94, F_sz94, zz8, zzD, zzC, QA, yyE, Qe, JC, zz21, JM, zz26, F_zero138, F_bld138, zz7, splice, Option.getD_some, QG, zz1, zzG, zz10, F_fld138_0, F_fld138_1, zz18, F_ok138, F_sz138, plus_hi h hn, plus_lo, zz6, QO, ↓Qb]
 refine kK hK0 [4] ?_
 refine JJ ?_
 simp only [zz6, QO, ↓Qb]
 refine done0 (by simp [resCs, resC, S, List.getD, JD, lookR, F_ag138, F_sz138, F_ok138]) ?_ (by simp [Ja, Jb, Jc, gA, uw]) (by simp [QY, QX, gA, uw])
 simp only [QD, QE, resA, JZ, S_mem, lookR_cons, lookR_nil, QR, QP, JD, QQ, Qd, Qc, JP, QI, QJ, QH, QL, QK, List.take_zero, F_ag138, F_sz138, F_ok138]
 simp [gA, uw]
theorem gLess_ (a b : Nat) (h : b ≤ a) (ha : a < 340282366920938463463374607431768211456) : ACalls Tryz.prog 111 [.agg (gC a), .agg (gC b)] [] (gA (a - b)) := by
 refine acalls_S (rs := [.cell 4 138]) Tryz.func111 rfl rfl 29 [(0, .d (.agg (gC a))), (1, .d (.agg (gC b)))] rfl (by simp) rfl ?_
 refine pq fun K0 hK0 => ?_
 simp only [zzK, QR, QP, QQ, zz35, JS, zz1, zzG, zzD, zzC, QA, yyE, Qe, QS, QN, zzH, zz32, F_zero138, zz10, gC, uw, zz6, QO, ↓Qb]
 refine kK hK0 [2, 3, 4] ?_
 refine pq fun K0 hK0 => ?_
 simp only [zzK, QR, QP, QQ, zz19, zz23, F_off138_1, zzH, QN, QS, F_ok94, F_ag94, F_sz94, zz8, zzD, zzC, QA, yyE, Qe, JE, JF, JC, zz14, JB, uV, zz6, QO, ↓Qb]
 refine call_ext _ _ (sub64 (a % 18446744073709551616) (b % 18446744073709551616) 0 (by decide)) ?_
 simp only [zzK, QR, QP, QQ, zz19, zz23, F_off138_1, zzH, QN, QS, F_ok94, F_ag94, F_sz94, zz8, zzD, zzC, QA, yyE, Qe, JE, JF, JC, zz14, JB, uV, zz6, QO, ↓Qb, grsL, JM, QB, QA, oksL, ofV_pair, ofV_int, ofV_bool]
 first | refine ⟨rfl, ?_⟩ | skip
 refine kK hK0 [2, 3, 4, 5, 6] ?_
 refine pq fun K0 hK0 => ?_
 simp only [zzK, QR, QP, QQ, zz19, zz23, F_off138_0, zzH, QN, QS, F_ok94, F_ag94, F_sz94, zz8, zzD, zzC, QA, yyE, Qe, JC, JE, JF, zz14, JB, uV, less_hi h ha, less_lo h, zz6, QO, ↓Qb]
 refine call_ext _ _ (sub64 (a / 18446744073709551616) (b / 18446744073709551616) (if a % 18446744073709551616 < b % 18446744073709551616 + 0 then 1 else 0) (by split <;> decide)) ?_
 simp only [zzK, QR, QP, QQ, zz19, zz23, F_off138_0, zzH, QN, QS, F_ok94, F_ag94, F_sz94, zz8, zzD, zzC, QA, yyE, Qe, JC, JE, JF, zz14, JB, uV, less_hi h ha, less_lo h, zz6, QO, ↓Qb, grsL, JM, QB, QA, oksL, ofV_pair, ofV_int, ofV_bool]
 refine kK hK0 [4, 5, 7] ?_
 refine pq fun K0 hK0 => ?_
 simp only [zzK, QR, QP, QQ, JC, F_zero138, F_bld138, zz7, splice, Option.getD_some, QG, zz1, zzG, zzD, zzC, QA, yyE, Qe, QS, QN, zzH, zz10, F_fld138_0, F_fld138_1, zz18, F_ok138, F_sz138, less_hi h ha, less_lo h, zz6, QO, ↓Qb]
 refine kK hK0 [4] ?_
 refine JJ ?_
 simp only [zz6, QO, ↓Qb]
 refine done0 (by simp [resCs, resC, S, List.getD, JD, lookR, F_ag138, F_sz138, F_ok138]) ?_ (by simp [Ja, Jb, Jc, gA, uw]) (by simp [QY, QX, gA, uw])
 simp only [QD, QE, resA, JZ, S_mem, lookR_cons, lookR_nil, QR, QP, JD, QQ, Qd, Qc, JP, QI, QJ, QH, QL, QK, List.take_zero, F_ag138, F_sz138, F_ok138]
 simp [gA, uw]
theorem gQuo_ (a b : Nat) (ha : a < 340282366920938463463374607431768211456) (hbp : 0 < b) (hbl : b < 9444732965739290427392) : ACalls Tryz.prog 102 [.agg (gC a), .agg (gC b)] [] (.tp [.d (uw (a / b % 18446744073709551616)), gA (a % b)]) := by
 refine acalls_S (rs := [.tmp 4, .cell 5 138]) Tryz.func102 rfl rfl 56 [(0, .d (.agg (gC a))), (1, .d (.agg (gC b)))] rfl (by simp) rfl ?_
 have h128 : a / 2 ^ 128 = 0 := Nat.div_eq_of_lt (by omega)
 refine pq fun K0 hK0 => ?_
 simp only [zzK, QR, QP, QQ, zz35, JS, zz1, zzG, zzD, zzC, QA, yyE, Qe, QS, QN, zzH, JB, zz32, F_zero138, zz10, gC, uw, zz6, QO, ↓Qb]
 refine kK hK0 [2, 3, 5] ?_
 refine pq fun K0 hK0 => ?_
 simp only [zzK, QR, QP, QQ, zz32, JS, F_zero138, zzC, QA, yyE, Qe, zzD, QS, QN, zzH, zz10, zz6, QO, ↓Qb]
 refine kK hK0 [2, 3, 5, 6] ?_
 refine pq fun K0 hK0 => ?_
 simp only [zzK, QR, QP, QQ, JB, zz6, QO, ↓Qb]
 refine kK hK0 [2, 3, 5, 6, 7] ?_
 refine JA fun K0 hK0 => ?_
 refine pq fun K1 hK1 => ?_
 simp only [zzK, QR, QP, QQ, JB, zz6, QO, ↓Qb]
 refine kK hK1 [2, 3, 5, 6, 7, 8] ?_
 refine JH ?_
 refine JL (fun m s => ∃ (c : Nat), (c ≤ 128) ∧ m = c ∧ s = S 56 [(2, .ptr 2 0 0), (3, .ptr 3 0 0), (5, .ptr 5 0 0), (6, .ptr 6 0 0), (7, .d (.v (.int .u64 (((a / 2 ^ c / b % 18446744073709551616) : Nat) : Int)))), (8, .d (iv (((c : Nat) : Int) - 1)))] [(2, (⟨True, 138, 2, true, false, 2, [[.d (.v (.int .u64 ((a / 18446744073709551616 : Nat) : Int))), .d (.v (.int .u64 ((a % 18446744073709551616 : Nat) : Int)))]]⟩ : ARow)), (3, (⟨True, 138, 2, true, false, 3, [[.d (.v (.int .u64 ((b / 18446744073709551616 : Nat) : Int))), .d (.v (.int .u64 ((b % 18446744073709551616 : Nat) : Int)))]]⟩ : ARow)), (5, (⟨True, 138, 2, true, false, 5, [[.d (.v (.int .u64 0)), .d (.v (.int .u64 0))]]⟩ : ARow)), (6, (⟨True, 138, 2, true, false, 6, [[.d (.v (.int .u64 (((a / 2 ^ c % b) / 18446744073709551616 : Nat) : Int))), .d (.v (.int .u64 (((a / 2 ^ c % b) % 18446744073709551616 : Nat) : Int)))]]⟩ : ARow))]) (128) _ (leK id [] (hl := by simp only [leV, JD, QQ, Qd, Qc]; exact ⟨vA, vA, vA, vA, (Qt (by simp [h128])), (Qt rfl), trivial⟩) (hr := by exact ⟨fun _ => ⟨_, rfl, rA⟩, (by simp), fun _ => ⟨_, rfl, rA⟩, (by simp), fun _ => ⟨_, rfl, rA⟩, (by simp), fun _ => ⟨_, rfl, RowLe.cells (VLess.one_ (VLes.cons_ (Qt (by simp [h128])) (VLes.cons_ (Qt (by simp [h128])) (VLes.nil_))))⟩, (by simp), trivial⟩)) ⟨128, Nat.le_refl _, rfl, rfl⟩ ?_
 rintro m s ⟨c, hc128, rfl, rfl⟩
 refine JA fun K2 hK2 => ?_
 refine pq fun K3 hK3 => ?_
 simp only [zzK, QR, QP, QQ, JC, zz21, JM, zz31, zz6, QO, ↓Qb]
 refine kK hK3 [2, 3, 5, 6, 7, 8, 11] ?_
 refine cnA ?_ ?_
 ·intro hb
  obtain ⟨d, rfl⟩ : ∃ d, m = d + 1 := ⟨m - 1, by have := Qg hb; omega⟩
  clear hb
  have hd : ((d + 1 : Nat) : Int) - 1 = (d : Int) := by omega
  have ht : a / 2 ^ d % 2 < 2 := Nat.mod_lt _ (by decide)
  have hxl : a / 2 ^ (d + 1) % b < b := Nat.mod_lt _ hbp
  have hlb : a / 2 ^ (d + 1) % b < 9444732965739290427392 := by omega
  obtain ⟨s1, s2⟩ := quo_step (a := a) (c := d) hbp
  have hq0 : a / 2 ^ (d + 1) / b % 18446744073709551616 * 2 % 18446744073709551616 = (2 * (a / 2 ^ (d + 1) / b) + 0) % 18446744073709551616 := by omega
  refine JI ?_
  simp only [zz6, QO, ↓Qb]
  refine kK hK2 [2, 3, 5, 6, 7, 8] ?_
  refine JA fun K2 hK2 => ?_
  refine JH ?_
  refine pq fun K3 hK3 => ?_
  simp only [zzK, QR, QP, QQ, zz19, zz23, F_off138_1, zzH, QN, QS, F_ok94, F_ag94, F_sz94, zz8, zzD, zzC, QA, yyE, Qe, JC, zz21, JM, b_rem, pure_rem, ne_eq, Int.reduceEq, Qk, zz27, F_cv3_97, F_cvV97, b_shr, pure_shr, Int.reduceLT, b_and, pure_and, JB, hd, sh64, nat_lt0, Qk, shrN, andLo, zz6, QO, ↓Qb]
  refine kK hK3 [2, 3, 5, 6, 7, 8, 9] ?_
  refine JA fun K3 hK3 => ?_
  refine pq fun K4 hK4 => ?_
  simp only [zzK, QR, QP, QQ, JC, zz21, JM, zz31, hd, zz6, QO, ↓Qb]
  refine kK hK4 [2, 3, 5, 6, 7, 8, 9, 22] ?_
  refine cnA ?_ ?_
  ·intro hb
   have hbit := (bit_hi a d (by have := Qg hb; omega)).resolve_right (by omega)
   clear hb
   refine pz ?_
   simp only [zzK, QR, QP, QQ, zz19, zz23, F_off138_0, zzH, QN, QS, F_ok94, F_ag94, F_sz94, zz8, zzD, zzC, QA, yyE, Qe, JC, zz21, JM, b_rem, pure_rem, ne_eq, Int.reduceEq, Qk, zz27, F_cv3_97, F_cvV97, b_shr, pure_shr, Int.reduceLT, b_and, pure_and, JB, hd, sh64, nat_lt0, Qk, shrN, andHi a d ha, hbit, zz6, QO, ↓Qb]
   refine kK hK3 [2, 3, 5, 6, 7, 8, 9] ?_
   refine pq fun K3 hK3 => ?_
   simp only [zzK, QR, QP, QQ, zz19, zz23, F_off138_0, zzH, QN, QS, F_ok94, F_ag94, F_sz94, zz8, zzD, zzC, QA, yyE, Qe, zz21, JM, b_shl, pure_shl, Int.reduceLT, Qk, F_off138_1, b_shr, pure_shr, b_or, pure_or, JC, F_zero138, F_bld138, zz7, splice, Option.getD_some, QG, zz1, zzG, zz10, F_fld138_0, F_fld138_1, zz18, F_ok138, F_sz138, shl1, shr63n, orHi hlb, orLo _ ht, hi_t _ ht, zz6, QO, ↓Qb]
   refine kK hK3 [2, 3, 5, 6, 7, 8] ?_
   refine pq fun K3 hK3 => ?_
   simp only [zzK, QR, QP, QQ, JC, zz21, JM, b_shl, pure_shl, Int.reduceLT, Qk, JB, shl1, zz6, QO, ↓Qb]
   refine kK hK3 [2, 3, 5, 6, 7, 8] ?_
   refine pq fun K3 hK3 => ?_
   simp only [zzK, QR, QP, QQ, F_ok138, F_ag138, F_sz138, zz8, zz23, zzD, QS, QN, zzH, zzC, QA, yyE, Qe, JE, JF, zz21, JM, zz31, gC, uw, QW, cmpG_ge, zz6, QO, ↓Qb]
   refine cgA F_go105 (fun hG => gCmp_ (2 * (a / 2 ^ (d + 1) % b) + a / 2 ^ d % 2) b) ?_
   simp only [zzK, QR, QP, QQ, F_ok138, F_ag138, F_sz138, zz8, zz23, zzD, QS, QN, zzH, zzC, QA, yyE, Qe, JE, JF, zz21, JM, zz31, gC, uw, QW, cmpG_ge, zz6, QO, ↓Qb, atsL, oksG, JV, QZ, Qa, JO, Qm, QT, QS, zz9, QB, QA, S_mem, yyF, QF, zz2]
   refine kK hK3 [2, 3, 5, 6, 7, 8, 48] ?_
   refine cnA ?_ ?_
   ·intro hb
    rw [show decide (b ≤ (2 * (a / 2 ^ (d + 1) % b) + a / 2 ^ d % 2)) = true from hb, Qd] at s1 s2
    refine pq fun K4 hK4 => ?_
    simp only [zzK, QR, QP, QQ, F_ok138, F_ag138, F_sz138, zz8, zz23, zzD, QS, QN, zzH, zzC, QA, yyE, Qe, JE, JF, zz18, splice, QG, zz1, zzG, gC, uw, gA, QW, zz6, QO, ↓Qb]
    refine call_go F_go111 (fun hG => gLess_ (2 * (a / 2 ^ (d + 1) % b) + a / 2 ^ d % 2) b (Qg hb) (by omega)) (by simp [QY, QX, gA]) (by simp) ?_
    simp only [zzK, QR, QP, QQ, F_ok138, F_ag138, F_sz138, zz8, zz23, zzD, QS, QN, zzH, zzC, QA, yyE, Qe, JE, JF, zz18, splice, QG, zz1, zzG, gC, uw, gA, QW, zz6, QO, ↓Qb, atsL, oksG, JV, QZ, Qa, JO, Qm, QT, QS, zz9, QB, QA, S_mem, yyF, QF, zz2]
    refine kK hK4 [2, 3, 5, 6, 7, 8] ?_
    refine pz ?_
    simp only [zzK, QR, QP, QQ, JC, zz21, JM, b_or, pure_or, JB, or1, zz6, QO, ↓Qb]
    refine kK hK2 [2, 3, 5, 6, 7, 8] ?_
    refine pz ?_
    simp only [zzK, QR, QP, QQ, JC, zz21, JM, zz33, JB, hd, zz6, QO, ↓Qb]
    refine ⟨d, _, by omega, leK id [] (hl := by simp only [leV, JD, QQ, Qd, Qc]; exact ⟨vA, vA, vA, vA, (Qt (by rw [s2])), (Qt (congrArg iv (wrapI (by omega) (by omega)))), trivial⟩) (hr := by exact ⟨fun _ => ⟨_, rfl, rA⟩, (by simp), fun _ => ⟨_, rfl, rA⟩, (by simp), fun _ => ⟨_, rfl, rA⟩, (by simp), fun _ => ⟨_, rfl, RowLe.cells (VLess.one_ (VLes.cons_ (Qt (by rw [s1])) (VLes.cons_ (Qt (by rw [s1])) (VLes.nil_))))⟩, (by simp), trivial⟩), d, by omega, rfl, rfl⟩
   ·intro hb
    rw [show decide (b ≤ (2 * (a / 2 ^ (d + 1) % b) + a / 2 ^ d % 2)) = false from hb, Qc] at s1 s2
    clear hb
    refine JI ?_
    simp only [zz6, QO, ↓Qb]
    refine kK hK2 [2, 3, 5, 6, 7, 8] ?_
    refine pz ?_
    simp only [zzK, QR, QP, QQ, JC, zz21, JM, zz33, JB, hd, zz6, QO, ↓Qb]
    refine ⟨d, _, by omega, leK id [] (hl := by simp only [leV, JD, QQ, Qd, Qc]; exact ⟨vA, vA, vA, vA, (Qt (by rw [s2]; exact congrArg (fun n : Nat => D.v (.int .u64 (n : Int))) hq0)), (Qt (congrArg iv (wrapI (by omega) (by omega)))), trivial⟩) (hr := by exact ⟨fun _ => ⟨_, rfl, rA⟩, (by simp), fun _ => ⟨_, rfl, rA⟩, (by simp), fun _ => ⟨_, rfl, rA⟩, (by simp), fun _ => ⟨_, rfl, RowLe.cells (VLess.one_ (VLes.cons_ (Qt (by rw [s1])) (VLes.cons_ (Qt (by rw [s1])) (VLes.nil_))))⟩, (by simp), trivial⟩), d, by omega, rfl, rfl⟩
  ·intro hb
   have hbit := bit_lo a d (by have := Qf hb; omega)
   clear hb
   simp only [hbit]
   refine JI ?_
   simp only [zz6, QO, ↓Qb]
   refine kK hK3 [2, 3, 5, 6, 7, 8, 9] ?_
   refine pq fun K3 hK3 => ?_
   simp only [zzK, QR, QP, QQ, zz19, zz23, F_off138_0, zzH, QN, QS, F_ok94, F_ag94, F_sz94, zz8, zzD, zzC, QA, yyE, Qe, zz21, JM, b_shl, pure_shl, Int.reduceLT, Qk, F_off138_1, b_shr, pure_shr, b_or, pure_or, JC, F_zero138, F_bld138, zz7, splice, Option.getD_some, QG, zz1, zzG, zz10, F_fld138_0, F_fld138_1, zz18, F_ok138, F_sz138, shl1, shr63n, orHi hlb, orLo _ ht, hi_t _ ht, zz6, QO, ↓Qb]
   refine kK hK3 [2, 3, 5, 6, 7, 8] ?_
   refine pq fun K3 hK3 => ?_
   simp only [zzK, QR, QP, QQ, JC, zz21, JM, b_shl, pure_shl, Int.reduceLT, Qk, JB, shl1, zz6, QO, ↓Qb]
   refine kK hK3 [2, 3, 5, 6, 7, 8] ?_
   refine pq fun K3 hK3 => ?_
   simp only [zzK, QR, QP, QQ, F_ok138, F_ag138, F_sz138, zz8, zz23, zzD, QS, QN, zzH, zzC, QA, yyE, Qe, JE, JF, zz21, JM, zz31, gC, uw, QW, cmpG_ge, zz6, QO, ↓Qb]
   refine cgA F_go105 (fun hG => gCmp_ (2 * (a / 2 ^ (d + 1) % b) + a / 2 ^ d % 2) b) ?_
   simp only [zzK, QR, QP, QQ, F_ok138, F_ag138, F_sz138, zz8, zz23, zzD, QS, QN, zzH, zzC, QA, yyE, Qe, JE, JF, zz21, JM, zz31, gC, uw, QW, cmpG_ge, zz6, QO, ↓Qb, atsL, oksG, JV, QZ, Qa, JO, Qm, QT, QS, zz9, QB, QA, S_mem, yyF, QF, zz2]
   refine kK hK3 [2, 3, 5, 6, 7, 8, 48] ?_
   refine cnA ?_ ?_
   ·intro hb
    rw [show decide (b ≤ (2 * (a / 2 ^ (d + 1) % b) + a / 2 ^ d % 2)) = true from hb, Qd] at s1 s2
    refine pq fun K4 hK4 => ?_
    simp only [zzK, QR, QP, QQ, F_ok138, F_ag138, F_sz138, zz8, zz23, zzD, QS, QN, zzH, zzC, QA, yyE, Qe, JE, JF, zz18, splice, QG, zz1, zzG, gC, uw, gA, QW, zz6, QO, ↓Qb]
    refine call_go F_go111 (fun hG => gLess_ (2 * (a / 2 ^ (d + 1) % b) + a / 2 ^ d % 2) b (Qg hb) (by omega)) (by simp [QY, QX, gA]) (by simp) ?_
    simp only [zzK, QR, QP, QQ, F_ok138, F_ag138, F_sz138, zz8, zz23, zzD, QS, QN, zzH, zzC, QA, yyE, Qe, JE, JF, zz18, splice, QG, zz1, zzG, gC, uw, gA, QW, zz6, QO, ↓Qb, atsL, oksG, JV, QZ, Qa, JO, Qm, QT, QS, zz9, QB, QA, S_mem, yyF, QF, zz2]
    refine kK hK4 [2, 3, 5, 6, 7, 8] ?_
    refine pz ?_
    simp only [zzK, QR, QP, QQ, JC, zz21, JM, b_or, pure_or, JB, or1, zz6, QO, ↓Qb]
    refine kK hK2 [2, 3, 5, 6, 7, 8] ?_
    refine pz ?_
    simp only [zzK, QR, QP, QQ, JC, zz21, JM, zz33, JB, hd, zz6, QO, ↓Qb]
    refine ⟨d, _, by omega, leK id [] (hl := by simp only [leV, JD, QQ, Qd, Qc]; exact ⟨vA, vA, vA, vA, (Qt (by rw [s2])), (Qt (congrArg iv (wrapI (by omega) (by omega)))), trivial⟩) (hr := by exact ⟨fun _ => ⟨_, rfl, rA⟩, (by simp), fun _ => ⟨_, rfl, rA⟩, (by simp), fun _ => ⟨_, rfl, rA⟩, (by simp), fun _ => ⟨_, rfl, RowLe.cells (VLess.one_ (VLes.cons_ (Qt (by rw [s1])) (VLes.cons_ (Qt (by rw [s1])) (VLes.nil_))))⟩, (by simp), trivial⟩), d, by omega, rfl, rfl⟩
   ·intro hb
    rw [show decide (b ≤ (2 * (a / 2 ^ (d + 1) % b) + a / 2 ^ d % 2)) = false from hb, Qc] at s1 s2
    clear hb
    refine JI ?_
    simp only [zz6, QO, ↓Qb]
    refine kK hK2 [2, 3, 5, 6, 7, 8] ?_
    refine pz ?_
    simp only [zzK, QR, QP, QQ, JC, zz21, JM, zz33, JB, hd, zz6, QO, ↓Qb]
    refine ⟨d, _, by omega, leK id [] (hl := by simp only [leV, JD, QQ, Qd, Qc]; exact ⟨vA, vA, vA, vA, (Qt (by rw [s2]; exact congrArg (fun n : Nat => D.v (.int .u64 (n : Int))) hq0)), (Qt (congrArg iv (wrapI (by omega) (by omega)))), trivial⟩) (hr := by exact ⟨fun _ => ⟨_, rfl, rA⟩, (by simp), fun _ => ⟨_, rfl, rA⟩, (by simp), fun _ => ⟨_, rfl, rA⟩, (by simp), fun _ => ⟨_, rfl, RowLe.cells (VLess.one_ (VLes.cons_ (Qt (by rw [s1])) (VLes.cons_ (Qt (by rw [s1])) (VLes.nil_))))⟩, (by simp), trivial⟩), d, by omega, rfl, rfl⟩
 ·intro hb
  obtain rfl : m = 0 := by have := Qf hb; omega
  clear hb
  simp only [Nat.pow_zero, Nat.div_one]
  refine JK ?_
  simp only [zz6, QO, ↓Qb]
  refine kK hK0 [5, 6, 7] ?_
  refine JA fun K0 hK0 => ?_
  refine awp_draw F_mixed [some 54, some 55, some 4, none] rfl (by kernel_rfl) ?_
  simp only [zzK, QR, QP, QQ, JC, F_ok138, F_ag138, F_sz138, zz8, zz23, zzD, QS, QN, zzH, zzC, QA, yyE, Qe, JB, zz18, splice, QG, zz1, zzG, zz6, QO, ↓Qb]
  refine kK hK0 [4, 5] ?_
  refine JJ ?_
  simp only [zz6, QO, ↓Qb]
  refine done0 (by simp [resCs, resC, S, List.getD, JD, lookR, F_ag138, F_sz138, F_ok138]) ?_ (by simp [Ja, Jb, Jc, gA, uw]) (by simp [QY, QX, gA, uw])
  simp only [QD, QE, resA, JZ, S_mem, lookR_cons, lookR_nil, QR, QP, JD, QQ, Qd, Qc, JP, QI, QJ, QH, QL, QK, List.take_zero, F_ag138, F_sz138, F_ok138]
  simp [gA, uw]
theorem sRight_ (t : Int) (l : List Int) (hl : l.length ≤ 1000000) : ACalls Tryz.prog 99 [iv t, ints l] [] (.d (iv (sRE t l))) := by
 refine acalls_S (rs := [.tmp 4]) Tryz.func99 rfl rfl 32 [(0, .d (iv t)), (1, .d (ints l))] rfl (by simp) rfl ?_
 refine pq fun K0 hK0 => ?_
 simp only [zzK, QR, QP, QQ, JB, zz6, QO, ↓Qb]
 refine kK hK0 [0, 1] ?_
 refine JA fun K0 hK0 => ?_
 refine JA fun K1 hK1 => ?_
 refine Qz F_mixed [some 7, some 8, some 9, some 10, some 11, some 12, some 13, some 14, some 15, some 16, some 17, some 18, some 19] rfl ?_
 simp only [zzK, QR, QP, QQ, QU, JZ, zz5, Qj, Qi, Qh, JC, zz21, JM, zz22, F_sl30, F_zero3, F_sz3, zz3, JS, zz1, zzG, zzD, zzC, QA, yyE, Qe, QS, QN, zzH, maxLen_le, QT, JE, JF, zz29, zz30, zz13, JQ, JR, ints, QD, D.sl.injEq, zz6, QO, ↓Qb]
 refine cgA F_go54 (fun hG => Right_ [t] (by simp)) ?_
 simp only [zzK, QR, QP, QQ, QU, JZ, zz5, Qj, Qi, Qh, JC, zz21, JM, zz22, F_sl30, F_zero3, F_sz3, zz3, JS, zz1, zzG, zzD, zzC, QA, yyE, Qe, QS, QN, zzH, maxLen_le, QT, JE, JF, zz29, zz30, zz13, JQ, JR, ints, QD, zz6, QO, ↓Qb, atsL, oksG, JV, QZ, Qa, JO, Qm, QT, QS, zz9, QB, QA, S_mem, yyF, QF, zz2]
 refine cgA F_go54 (fun hG => Right_ l (by omega)) ?_
 simp only [zzK, QR, QP, QQ, QU, JZ, zz5, Qj, Qi, Qh, JC, zz21, JM, zz22, F_sl30, F_zero3, F_sz3, zz3, JS, zz1, zzG, zzD, zzC, QA, yyE, Qe, QS, QN, zzH, maxLen_le, QT, JE, JF, zz29, zz30, zz13, JQ, JR, ints, QD, zz6, QO, ↓Qb, atsL, oksG, JV, QZ, Qa, JO, Qm, QT, QS, zz9, QB, QA, S_mem, yyF, QF, zz2]
 refine kK hK1 [1, 19] ?_
 refine cnA ?_ ?_
 ·intro hb
  have hs : sBad t l = true := hb
  clear hb
  refine pq fun K2 hK2 => ?_
  simp only [zzK, QR, QP, QQ, JB, zz6, QO, ↓Qb]
  refine kK hK2 [4] ?_
  refine JJ ?_
  simp only [zz6, QO, ↓Qb]
  refine dnA ?_
  simp only [QD, QE, resA, JZ, QR, QP, JD, QQ, Qd, Qc, JP]
  rw [show sRE t l = 3 by simp only [sRE, hs, Qd]]
 ·intro hb
  have hs : sBad t l = false := hb
  clear hb
  refine JI ?_
  simp only [zz6, QO, ↓Qb]
  refine kK hK0 [1] ?_
  refine JA fun K0 hK0 => ?_
  refine pq fun K1 hK1 => ?_
  simp only [zzK, QR, QP, QQ, JC, JE, zz12, F_sl30, Option.isSome_some, ints, JN, zz6, QO, ↓Qb]
  refine kK hK1 [1, 20, 21, 22] ?_
  refine JH ?_
  refine JL (fun m s => ∃ (pre : List Int) (post : List Int), (l = pre ++ post) ∧ (pre.any ngI = false) ∧ m = post.length ∧ s = S 32 [(1, .d (ints l)), (20, .d (ints l)), (21, .d (iv l.length)), (22, .d (iv pre.length))] []) (l.length) _ (leK id []) ⟨[], l, rfl, rfl, rfl, rfl⟩ ?_
  rintro m s ⟨pre, post, hsp, hng, rfl, rfl⟩
  have hspl := congrArg List.length hsp
  simp only [QC] at hspl
  refine pq fun K2 hK2 => ?_
  simp only [zzK, QR, QP, QQ, zz21, JM, zz22, JN, zz6, QO, ↓Qb]
  refine kK hK2 [1, 20, 21, 22, 23] ?_
  refine JA fun K2 hK2 => ?_
  refine cnA ?_ ?_
  ·intro hb
   obtain ⟨x, post2, rfl⟩ : ∃ x t, post = x :: t := by
    cases post with
    | nil => have := Qg hb; simp at hspl; omega
    | cons x t => exact ⟨x, t, rfl⟩
   clear hb
   simp only [QF] at hspl
   have gx : (l.map (fun n => [iv n])).getD pre.length [] = [iv x] := by
    rw [hsp, List.map_append]; exact gd_mid' (A := pre.map (fun n => [iv n])) _ _ (by simp)
   have bx := ltI (show pre.length < l.length by omega)
   have hwx : Ql .i64 ((pre.length : Int) + 1) = ((pre ++ [x]).length : Int) := by rw [wrapI (by omega) (by omega)]; simp
   refine JI ?_
   simp only [zz6, QO, ↓Qb]
   refine kK hK2 [1, 20, 21, 22] ?_
   refine JA fun K2 hK2 => ?_
   refine JH ?_
   refine pq fun K3 hK3 => ?_
   simp only [zzK, QR, QP, QQ, JW, zz23, zz24, F_sl30, F_sz3, QA, zzC, yyE, Qe, F_ok3, F_ag3, zz8, zzD, QS, QN, zzH, JB, ints, gx, bx, hwx, JN, ge0, QV, QW, zz6, QO, ↓Qb]
   refine kK hK3 [1, 6, 20, 21, 22] ?_
   refine pq fun K3 hK3 => ?_
   simp only [zzK, QR, QP, QQ, JC, zz21, JM, zz22, zz6, QO, ↓Qb]
   refine kK hK3 [1, 20, 21, 22, 27] ?_
   refine cnA ?_ ?_
   ·intro hb
    have hx : ngI x = true := hb
    clear hb
    have ha : l.any ngI = true := by rw [hsp]; simp [hx]
    refine pq fun K4 hK4 => ?_
    simp only [zzK, QR, QP, QQ, JB, zz6, QO, ↓Qb]
    refine kK hK4 [4] ?_
    refine JJ ?_
    simp only [zz6, QO, ↓Qb]
    refine dnA ?_
    simp only [QD, QE, resA, JZ, QR, QP, JD, QQ, Qd, Qc, JP]
    rw [show sRE t l = 3 by simp only [sRE, hs, ha, Qd, Qc]]
   ·intro hb
    have hx : ngI x = false := hb
    clear hb
    refine JI ?_
    simp only [zz6, QO, ↓Qb]
    refine kK hK2 [1, 20, 21, 22] ?_
    refine pz ?_
    simp only [zzK, QR, QP, QQ, zz21, JM, zz26, JC, hwx, zz6, QO, ↓Qb]
    refine ⟨post2.length, _, by simp, leK id [], (pre ++ [x]), post2, by simp [hsp], by rw [List.any_append, hng]; simpa using hx, rfl, rfl⟩
  ·intro hb
   obtain rfl : post = [] := by
    cases post with
    | nil => rfl
    | cons x t => have := Qf hb; simp at hspl; omega
   clear hb
   simp only [QG] at hsp
   subst hsp
   refine JK ?_
   simp only [zz6, QO, ↓Qb]
   refine kK hK0 [1] ?_
   refine JA fun K0 hK0 => ?_
   refine pq fun K1 hK1 => ?_
   simp only [zzK, QR, QP, QQ, JC, JE, zz12, F_sl30, Option.isSome_some, zz21, JM, zz25, ints, JN, zz6, QO, ↓Qb]
   refine kK hK1 [31] ?_
   refine cnA ?_ ?_
   ·intro hb
    have hn : decide ((l.length : Int) > 1024) = true := hb
    clear hb
    refine pq fun K2 hK2 => ?_
    simp only [zzK, QR, QP, QQ, JB, zz6, QO, ↓Qb]
    refine kK hK2 [4] ?_
    refine JJ ?_
    simp only [zz6, QO, ↓Qb]
    refine dnA ?_
    simp only [QD, QE, resA, JZ, QR, QP, JD, QQ, Qd, Qc, JP]
    rw [show sRE t l = 5 by simp only [sRE, hs, hng, hn, Qd, Qc]]
   ·intro hb
    have hn : decide ((l.length : Int) > 1024) = false := hb
    clear hb
    refine JI ?_
    simp only [zz6, QO, ↓Qb]
    refine kK hK0 [] ?_
    refine pq fun K0 hK0 => ?_
    simp only [zzK, QR, QP, QQ, JB, zz6, QO, ↓Qb]
    refine kK hK0 [4] ?_
    refine JJ ?_
    simp only [zz6, QO, ↓Qb]
    refine dnA ?_
    simp only [QD, QE, resA, JZ, QR, QP, JD, QQ, Qd, Qc, JP]
    rw [show sRE t l = 0 by simp only [sRE, hs, hng, hn, Qc]]
theorem Mul64_ (x y : Int) (h0 : 0 ≤ x) (h1 : x < 18446744073709551616) (k0 : 0 ≤ y) (k1 : y < 18446744073709551616) : ACalls Tryz.prog 101 [.v (.int .u64 x), .v (.int .u64 y)] [] (.tp [.d (.v (.int .u64 (x * y / 18446744073709551616))), .d (.v (.int .u64 (x * y % 18446744073709551616)))]) := by
 refine acalls_S (rs := [.tmp 4, .tmp 5]) Tryz.func101 rfl rfl 51 [(0, .d (.v (.int .u64 x))), (1, .d (.v (.int .u64 y)))] rfl (by simp) rfl ?_
 refine pq fun K0 hK0 => ?_
 simp only [zzK, QR, QP, QQ, JB, zz6, QO, ↓Qb]
 refine kK hK0 [0, 1] ?_
 refine pq fun K0 hK0 => ?_
 simp only [zzK, QR, QP, QQ, JC, zz21, JM, b_and, pure_and, JB, mask32 h0 h1, zz6, QO, ↓Qb]
 refine kK hK0 [0, 1, 6] ?_
 refine pq fun K0 hK0 => ?_
 simp only [zzK, QR, QP, QQ, JC, zz21, JM, b_shr, pure_shr, Int.reduceLT, Qk, JB, shr32 h0, zz6, QO, ↓Qb]
 refine kK hK0 [0, 1, 6, 7] ?_
 refine pq fun K0 hK0 => ?_
 simp only [zzK, QR, QP, QQ, JC, zz21, JM, b_and, pure_and, JB, mask32 k0 k1, zz6, QO, ↓Qb]
 refine kK hK0 [0, 1, 6, 7, 8] ?_
 refine pq fun K0 hK0 => ?_
 simp only [zzK, QR, QP, QQ, JC, zz21, JM, b_shr, pure_shr, Int.reduceLT, Qk, JB, shr32 k0, zz6, QO, ↓Qb]
 refine kK hK0 [0, 1, 6, 7, 8, 9] ?_
 refine pq fun K0 hK0 => ?_
 simp only [zzK, QR, QP, QQ, JC, zz21, JM, zz36, JB, zz6, QO, ↓Qb]
 refine kK hK0 [0, 1, 6, 7, 8, 9, 10] ?_
 refine pq fun K0 hK0 => ?_
 simp only [zzK, QR, QP, QQ, JC, zz21, JM, zz36, b_shr, pure_shr, Int.reduceLT, Qk, zz26, JB, shr32 (wu_nn _), zz6, QO, ↓Qb]
 refine kK hK0 [0, 1, 6, 7, 9, 11] ?_
 refine pq fun K0 hK0 => ?_
 simp only [zzK, QR, QP, QQ, JC, zz21, JM, b_and, pure_and, JB, mask32 (wu_nn _) (wu_lt _), zz6, QO, ↓Qb]
 refine kK hK0 [0, 1, 6, 7, 9, 11, 12] ?_
 refine pq fun K0 hK0 => ?_
 simp only [zzK, QR, QP, QQ, JC, zz21, JM, b_shr, pure_shr, Int.reduceLT, Qk, JB, shr32 (wu_nn _), zz6, QO, ↓Qb]
 refine kK hK0 [0, 1, 6, 7, 9, 12, 13] ?_
 refine pq fun K0 hK0 => ?_
 simp only [zzK, QR, QP, QQ, JC, zz21, JM, zz36, zz26, JB, zz6, QO, ↓Qb]
 refine kK hK0 [0, 1, 7, 9, 12, 13] ?_
 refine pq fun K0 hK0 => ?_
 simp only [zzK, QR, QP, QQ, JC, zz21, JM, zz36, zz26, b_shr, pure_shr, Int.reduceLT, Qk, JB, shr32 (wu_nn _), zz6, QO, ↓Qb]
 refine kK hK0 [0, 1, 4] ?_
 refine pq fun K0 hK0 => ?_
 simp only [zzK, QR, QP, QQ, JC, zz21, JM, zz36, JB, zz6, QO, ↓Qb]
 refine kK hK0 [4, 5] ?_
 refine JJ ?_
 simp only [zz6, QO, ↓Qb]
 refine dnA ?_
 simp only [QD, QE, resA, JZ, QR, QP, JD, QQ, Qd, Qc, JP]
 rw [show x * y / 18446744073709551616 = hi64 x y from (hi64_eq h0 h1 k0 k1).symm, show x * y % 18446744073709551616 = Ql .u64 (x * y) from (wrapU_ _).symm]; rfl
end Go.Proofs.YtjkfadaedgidpaaGreat
