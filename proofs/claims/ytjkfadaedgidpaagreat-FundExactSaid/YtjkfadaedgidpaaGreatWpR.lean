import Derived.Test.YtjkfadaedgidpaaGreatWpI
namespace Go.Proofs.YtjkfadaedgidpaaGreat
open Go.RowKit
set_option linter.unusedVariables false
set_option linter.unusedSimpArgs false
open Option renaming map_some → QA, bind_some → QB
open List renaming length_append → QC, map_cons → QD, map_nil → QE, length_cons → QF, append_nil → QG, drop_zero → QH, getD_cons_zero → QI, getD_cons_succ → QJ, take_succ_cons → QK, drop_succ_cons → QL
open Nat renaming zero_add → QN, reduceEqDiff → QO, reduceLeDiff → QP, reduceBEq → QQ, reduceLT → QR, reduceAdd → QS, reduceMul → QT, reduceSub → QU
open Int renaming toNat_natCast → QV
open D.agg renaming injEq → QW
open AV renaming idsL → QX, ids → QY, ren → QZ, renL → Qa
open _root_ renaming reduceIte → Qb, cond_false → Qc, cond_true → Qd, reduceCtorEq → Qe, of_decide_eq_false → Qf, of_decide_eq_true → Qg, imp_self → Qh, imp_and → Qi, and_imp → Qj, not_false_eq_true → Qk
open IntKind renaming wrap → Ql
open ORow renaming row → Qm
open VLe renaming refE → Qr, dE → Qt
open RowLe renaming same → Qu, still → Qv
open Go.Proofs.YtjkfadaedgidpaaGreat renaming awp_plain → Qz, awp_seq → JA, evS_assign → JB, evS_move → JC, look_cons → JD, evS_call → JE, evC_value → JF, awp_block → JH, awp_skip → JI, awp_ret → JJ, awp_exit → JK, awp_loop → JL, gr_v → JM, len_map → JN, addRows → JO, resAll → JP, pickK_l → JQ, pickK_r → JR, newRow1 → JS, call_go → JT, freeN → JV, evS_indexAddr → JW, S_getD → JZ, flatA → Ja, flatAs → Jb, flatD → Jc
theorem F_go118 : goFn Tryz.prog 118 := ⟨_, Tryz.func118, rfl, rfl⟩
theorem F_go101 : goFn Tryz.prog 101 := ⟨_, Tryz.func101, rfl, rfl⟩
theorem F_bool4 : Tryz.prog.underlying 4 = some .bool := by kernel_rfl
theorem F_go117 : goFn Tryz.prog 117 := ⟨_, Tryz.func117, rfl, rfl⟩
theorem F_go115 : goFn Tryz.prog 115 := ⟨_, Tryz.func115, rfl, rfl⟩
theorem F_go109 : goFn Tryz.prog 109 := ⟨_, Tryz.func109, rfl, rfl⟩
theorem F_go116 : goFn Tryz.prog 116 := ⟨_, Tryz.func116, rfl, rfl⟩
theorem F_go106 : goFn Tryz.prog 106 := ⟨_, Tryz.func106, rfl, rfl⟩
theorem F_go108 : goFn Tryz.prog 108 := ⟨_, Tryz.func108, rfl, rfl⟩
theorem F_go107 : goFn Tryz.prog 107 := ⟨_, Tryz.func107, rfl, rfl⟩
theorem F_sl152 : sliceT Tryz.prog 152 = some 4 := by kernel_rfl
theorem F_zero4 : zeroT Tryz.prog 4 = some [(.bool false)] := by kernel_rfl
theorem F_sz4 : szT Tryz.prog 4 = 1 := by kernel_rfl
theorem F_by4 : byT Tryz.prog 4 = 1 := by kernel_rfl
theorem F_ok4 : tyOk Tryz.prog 4 = true := by kernel_rfl
theorem F_ag4 : aggT Tryz.prog 4 = false := by kernel_rfl
theorem mag_ (n : Int) (h0 : -9223372036854775808 ≤ n) (h1 : n < 9223372036854775808) : ACalls Tryz.prog 118 [iv n] [] (.d (.v (.int .u64 (n.natAbs : Int)))) := by
 refine acalls_S (rs := [.tmp 2]) Tryz.func118 rfl rfl 10 [(0, .d (iv n))] rfl (by simp) rfl ?_
 refine pq fun K0 hK0 => ?_
 simp only [zzK, QR, QP, QQ, JB, zz6, QO, ↓Qb]
 refine kK hK0 [0] ?_
 refine JA fun K0 hK0 => ?_
 refine pq fun K1 hK1 => ?_
 simp only [zzK, QR, QP, QQ, JC, zz21, JM, zz22, zz6, QO, ↓Qb]
 refine kK hK1 [0, 4] ?_
 refine cnA ?_ ?_
 ·intro hb
  refine pq fun K2 hK2 => ?_
  simp only [zzK, QR, QP, QQ, JC, zz27, JM, F_cv3_94, F_cvV94, zz29, zz37, JB, zz6, QO, ↓Qb]
  refine kK hK2 [2] ?_
  refine JJ ?_
  simp only [zz6, QO, ↓Qb]
  refine dnA ?_
  simp only [QD, QE, resA, JZ, QR, QP, JD, QQ, Qd, Qc, JP]
  simp only [decide_eq_true_eq] at hb; rw [mag_neg h0 hb]
 ·intro hb
  refine JI ?_
  simp only [zz6, QO, ↓Qb]
  refine kK hK0 [0] ?_
  refine pq fun K0 hK0 => ?_
  simp only [zzK, QR, QP, QQ, JC, zz27, JM, F_cv3_94, F_cvV94, JB, zz6, QO, ↓Qb]
  refine kK hK0 [2] ?_
  refine JJ ?_
  simp only [zz6, QO, ↓Qb]
  refine dnA ?_
  simp only [QD, QE, resA, JZ, QR, QP, JD, QQ, Qd, Qc, JP]
  simp only [decide_eq_false_iff_not] at hb; rw [mag_pos (by omega) h1]
theorem neg_ (t : Int) (h0 : 0 ≤ t) (h1 : t ≤ 85070591730234615865843651857942052864) : ACalls Tryz.prog 117 [.agg (wideC t)] [] (wideA (-t)) := by
 refine acalls_S (rs := [.cell 2 102]) Tryz.func117 rfl rfl 27 [(0, .d (.agg (wideC t)))] rfl (by simp) rfl ?_
 refine pq fun K0 hK0 => ?_
 simp only [zzK, QR, QP, QQ, zz35, JS, zz1, zzG, zzD, zzC, QA, yyE, Qe, QS, QN, zzH, zz32, F_zero102, zz10, wideC, zz6, QO, ↓Qb]
 refine kK hK0 [1, 2] ?_
 refine pq fun K0 hK0 => ?_
 simp only [zzK, QR, QP, QQ, zz19, zz23, F_off102_1, zzH, QN, QS, F_ok94, F_ag94, F_sz94, zz8, zzD, zzC, QA, yyE, Qe, zz29, JM, u_xor, pure_com, JE, JF, JC, zz14, JB, zz6, QO, ↓Qb]
 refine call_ext _ _ (add64 (com64 (t % 18446744073709551616)) 1 0 (com64_nn _) (by decide) (by decide) (by decide)) ?_
 simp only [zzK, QR, QP, QQ, zz19, zz23, F_off102_1, zzH, QN, QS, F_ok94, F_ag94, F_sz94, zz8, zzD, zzC, QA, yyE, Qe, zz29, JM, u_xor, pure_com, JE, JF, JC, zz14, JB, zz6, QO, ↓Qb, grsL, JM, QB, QA, oksL, ofV_pair, ofV_int, ofV_bool]
 simp only [show (com64 (t % 18446744073709551616) + 1 + 0) / 18446744073709551616 = negC t from rfl]
 refine kK hK0 [1, 2, 3, 4] ?_
 refine pq fun K0 hK0 => ?_
 simp only [zzK, QR, QP, QQ, zz19, zz23, F_off102_0, zzH, QN, QS, F_ok3, F_ag3, F_sz3, zz8, zzD, zzC, QA, yyE, Qe, zz27, JM, F_cv3_94, F_cvV94, zz29, u_xor, pure_com, JC, JE, JF, zz14, JB, zz6, QO, ↓Qb]
 refine call_ext _ _ (add64 (com64 (Ql .u64 (t / 18446744073709551616))) 0 (negC t) (com64_nn _) (by decide) (negC_nn t) (negC_le t)) ?_
 simp only [zzK, QR, QP, QQ, zz19, zz23, F_off102_0, zzH, QN, QS, F_ok3, F_ag3, F_sz3, zz8, zzD, zzC, QA, yyE, Qe, zz27, JM, F_cv3_94, F_cvV94, zz29, u_xor, pure_com, JC, JE, JF, zz14, JB, zz6, QO, ↓Qb, grsL, JM, QB, QA, oksL, ofV_pair, ofV_int, ofV_bool]
 refine kK hK0 [2, 3, 5] ?_
 refine pq fun K0 hK0 => ?_
 simp only [zzK, QR, QP, QQ, JC, zz27, JM, F_cv94_3, F_cvV3, F_zero102, F_bld102, zz7, splice, Option.getD_some, QG, zz1, zzG, zzD, zzC, QA, yyE, Qe, QS, QN, zzH, zz10, F_fld102_0, F_fld102_1, zz18, F_ok102, F_sz102, zz6, QO, ↓Qb]
 refine kK hK0 [2] ?_
 refine JJ ?_
 simp only [zz6, QO, ↓Qb]
 refine done0 (by simp [resCs, resC, S, List.getD, JD, lookR, F_ag102, F_sz102, F_ok102]) ?_ (by simp [Ja, Jb, Jc, wideA]) (by simp [QY, QX, wideA])
 simp only [QD, QE, resA, JZ, S_mem, lookR_cons, lookR_nil, QR, QP, JD, QQ, Qd, Qc, JP, QI, QJ, QH, QL, QK, List.take_zero, F_ag102, F_sz102, F_ok102]
 rw [neg_wide h0 h1]
theorem rTimes_ (a b : Int) (h0 : -9223372036854775808 ≤ a) (h1 : a < 9223372036854775808) (k0 : -9223372036854775808 ≤ b) (k1 : b < 9223372036854775808) : ACalls Tryz.prog 108 [iv a, iv b] [] (wideA (a * b)) := by
 refine acalls_S (rs := [.cell 4 102]) Tryz.func108 rfl rfl 28 [(0, .d (iv a)), (1, .d (iv b))] rfl (by simp) rfl ?_
 have hm := mag_mul h0 h1 k0 k1
 have hT : Ql .i64 ((a.natAbs : Int) * b.natAbs / 18446744073709551616) = (a.natAbs : Int) * b.natAbs / 18446744073709551616 := wrapI (by omega) (by omega)
 refine pq fun K0 hK0 => ?_
 simp only [zzK, QR, QP, QQ, zz32, JS, F_zero102, zzC, QA, yyE, Qe, zzD, QS, QN, zzH, zz10, zz6, QO, ↓Qb]
 refine kK hK0 [0, 1, 4] ?_
 refine pq fun K0 hK0 => ?_
 simp only [zzK, QR, QP, QQ, JC, JE, JF, zz14, zzD, QS, QN, zzF, JB, zz6, QO, ↓Qb]
 refine cgA F_go118 (fun hG => mag_ a h0 h1) ?_
 simp only [zzK, QR, QP, QQ, JC, JE, JF, zz14, zzD, QS, QN, zzF, JB, zz6, QO, ↓Qb, atsL, oksG, JV, QZ, Qa, JO, Qm, QT, QS, zz9, QB, QA, zzC, yyF, QF, zz2]
 refine cgA F_go118 (fun hG => mag_ b k0 k1) ?_
 simp only [zzK, QR, QP, QQ, JC, JE, JF, zz14, zzD, QS, QN, zzF, JB, zz6, QO, ↓Qb, atsL, oksG, JV, QZ, Qa, JO, Qm, QT, QS, zz9, QB, QA, zzC, yyF, QF, zz2]
 refine cgA F_go101 (fun hG => Mul64_ (a.natAbs : Int) (b.natAbs : Int) (by omega) (by omega) (by omega) (by omega)) ?_
 simp only [zzK, QR, QP, QQ, JC, JE, JF, zz14, zzD, QS, QN, zzF, JB, zz6, QO, ↓Qb, atsL, oksG, JV, QZ, Qa, JO, Qm, QT, QS, zz9, QB, QA, zzC, yyF, QF, zz2]
 refine kK hK0 [0, 1, 4, 5, 6] ?_
 refine pq fun K0 hK0 => ?_
 simp only [zzK, QR, QP, QQ, JC, zz27, JM, F_cv94_3, F_cvV3, F_zero102, F_bld102, zz7, splice, Option.getD_some, QG, zz1, zzG, zzD, zzC, QA, yyE, Qe, QS, QN, zzH, zz10, F_fld102_0, F_fld102_1, zz32, JS, zz18, F_ok102, F_sz102, hT, zz6, QO, ↓Qb]
 refine kK hK0 [0, 1, 4, 7] ?_
 refine JA fun K0 hK0 => ?_
 refine pq fun K1 hK1 => ?_
 simp only [zzK, QR, QP, QQ, JC, zz21, JM, zz22, b_neqb, pure_neqb F_bool4, zz6, QO, ↓Qb]
 refine kK hK1 [4, 7, 24] ?_
 refine cnA ?_ ?_
 ·intro hb
  refine pq fun K2 hK2 => ?_
  simp only [zzK, QR, QP, QQ, F_ok102, F_ag102, F_sz102, zz8, zz23, zzD, QS, QN, zzH, zzC, QA, yyE, Qe, JE, JF, zz18, splice, QG, zz1, zzG, wideC, wideA, zz6, QO, ↓Qb]
  refine JT F_go117 (fun hG => neg_ ((a.natAbs : Int) * b.natAbs) hm.1 hm.2) (by simp [QY, QX, wideC, wideA]) (by simp) ?_
  simp only [zzK, QR, QP, QQ, F_ok102, F_ag102, F_sz102, zz8, zz23, zzD, QS, QN, zzH, zzC, QA, yyE, Qe, JE, JF, zz18, splice, QG, zz1, zzG, wideC, wideA, zz6, QO, ↓Qb, atsL, oksG, JV, QZ, Qa, JO, Qm, QT, QS, zz9, QB, QA, S_mem, yyF, QF, zz2]
  refine kK hK2 [4] ?_
  refine JJ ?_
  simp only [zz6, QO, ↓Qb]
  refine done0 (by simp [resCs, resC, S, List.getD, JD, lookR, F_ag102, F_sz102, F_ok102]) ?_ (by simp [Ja, Jb, Jc, wideA]) (by simp [QY, QX, wideA])
  simp only [QD, QE, resA, JZ, S_mem, lookR_cons, lookR_nil, QR, QP, JD, QQ, Qd, Qc, JP, QI, QJ, QH, QL, QK, List.take_zero, F_ag102, F_sz102, F_ok102]
  rw [mag_opp hb]; rfl
 ·intro hb
  refine JI ?_
  simp only [zz6, QO, ↓Qb]
  refine kK hK0 [4, 7] ?_
  refine pq fun K0 hK0 => ?_
  simp only [zzK, QR, QP, QQ, F_ok102, F_ag102, F_sz102, zz8, zz23, zzD, QS, QN, zzH, zzC, QA, yyE, Qe, zz18, splice, QG, zz1, zzG, zz6, QO, ↓Qb]
  refine kK hK0 [4] ?_
  refine JJ ?_
  simp only [zz6, QO, ↓Qb]
  refine done0 (by simp [resCs, resC, S, List.getD, JD, lookR, F_ag102, F_sz102, F_ok102]) ?_ (by simp [Ja, Jb, Jc, wideA]) (by simp [QY, QX, wideA])
  simp only [QD, QE, resA, JZ, S_mem, lookR_cons, lookR_nil, QR, QP, JD, QQ, Qd, Qc, JP, QI, QJ, QH, QL, QK, List.take_zero, F_ag102, F_sz102, F_ok102]
  rw [mag_same hb]; rfl
theorem rWLess_ (a b : Int) : ACalls Tryz.prog 109 [.agg (wideC a), .agg (wideC b)] [] (bv (decide (a < b))) := by
 refine acalls_S (rs := [.tmp 4]) Tryz.func109 rfl rfl 24 [(0, .d (.agg (wideC a))), (1, .d (.agg (wideC b)))] rfl (by simp) rfl ?_
 refine pq fun K0 hK0 => ?_
 simp only [zzK, QR, QP, QQ, zz35, JS, zz1, zzG, zzD, zzC, QA, yyE, Qe, QS, QN, zzH, JB, wideC, zz6, QO, ↓Qb]
 refine kK hK0 [2, 3] ?_
 refine JA fun K0 hK0 => ?_
 refine Qz F_mixed [some 5, some 6, some 7, some 8, some 9, some 10, some 11, some 12, some 13, some 14, some 15, some 16, some 17, some 18, some 19, some 20, some 21, some 22, some 23, some 4] rfl ?_
 simp only [zzK, QR, QP, QQ, QU, JZ, zz5, Qj, Qi, Qh, zz19, zz23, F_off102_0, zzH, QN, QS, F_ok3, F_ag3, F_sz3, zz8, zzD, zzC, QA, yyE, Qe, zz21, JM, zz22, JC, zz34, F_off102_1, F_ok94, F_ag94, F_sz94, zz13, JQ, JR, JB, zz6, QO, ↓Qb]
 refine kK hK0 [4] ?_
 refine JJ ?_
 simp only [zz6, QO, ↓Qb]
 refine dnA ?_
 simp only [QD, QE, resA, JZ, QR, QP, JD, QQ, Qd, Qc, JP]
 rw [wless_law]
theorem rLessN_ (a b : Nat) : ACalls Tryz.prog 109 [.agg (wN a), .agg (wN b)] [] (bv (decide (a < b))) := by
 have h := rWLess_ (a : Int) (b : Int)
 rw [wN_eq, wN_eq, show decide ((a : Int) < (b : Int)) = decide (a < b) by simp] at h
 exact h
theorem negN_ (x : Nat) (h : x ≤ 85070591730234615865843651857942052864) : ACalls Tryz.prog 117 [.agg (wN x)] [] (wideA (-(x : Int))) := by
 have h := neg_ (x : Int) (by omega) (by omega)
 rw [wN_eq] at h
 exact h
theorem rAllR_ (l : List Int) (hl : l.length ≤ 1000000) : ACalls Tryz.prog 106 [ints l] [] (bv (l.all rightN)) := by
 refine acalls_S (rs := [.tmp 2]) Tryz.func106 rfl rfl 16 [(0, .d (ints l))] rfl (by simp) rfl ?_
 refine pq fun K0 hK0 => ?_
 simp only [zzK, QR, QP, QQ, JB, zz6, QO, ↓Qb]
 refine kK hK0 [0] ?_
 refine JA fun K0 hK0 => ?_
 refine pq fun K1 hK1 => ?_
 simp only [zzK, QR, QP, QQ, JB, zz6, QO, ↓Qb]
 refine kK hK1 [0, 3] ?_
 refine JH ?_
 refine JL (fun m s => ∃ (pre : List Int) (post : List Int), (l = pre ++ post) ∧ (pre.all rightN = true) ∧ m = post.length ∧ s = S 16 [(0, .d (ints l)), (3, .d (iv pre.length))] []) (l.length) _ (leK id []) ⟨[], l, rfl, rfl, rfl, rfl⟩ ?_
 rintro m s ⟨pre, post, hsp, hpa, rfl, rfl⟩
 have hspl := congrArg List.length hsp
 simp only [QC] at hspl
 refine JA fun K2 hK2 => ?_
 refine pq fun K3 hK3 => ?_
 simp only [zzK, QR, QP, QQ, JC, JE, zz12, F_sl30, Option.isSome_some, zz21, JM, zz22, ints, JN, zz6, QO, ↓Qb]
 refine kK hK3 [0, 3, 7] ?_
 refine cnA ?_ ?_
 ·intro hb
  obtain ⟨x, post2, rfl⟩ : ∃ x t, post = x :: t := by
   cases post with
   | nil => have := Qg hb; simp at hspl; omega
   | cons x t => exact ⟨x, t, rfl⟩
  clear hb
  simp only [QF] at hspl
  have gx : (l.map (fun n => [iv n])).getD pre.length [] = [iv x] := by
   rw [hsp, List.map_append]; exact gd_mid' (A := pre.map (fun n => [iv n])) _ _ (by simp)
  have bx := ltI (show pre.length < l.length by omega)
  have hwx : Ql .i64 ((pre.length : Int) + 1) = ((pre ++ [x]).length : Int) := by rw [wrapI (by omega) (by omega)]; simp
  refine JI ?_
  simp only [zz6, QO, ↓Qb]
  refine kK hK2 [0, 3] ?_
  refine JA fun K2 hK2 => ?_
  refine JH ?_
  refine pq fun K3 hK3 => ?_
  simp only [zzK, QR, QP, QQ, JC, JW, zz23, zz24, F_sl30, F_sz3, QA, zzC, yyE, Qe, F_ok3, F_ag3, zz8, zzD, QS, QN, zzH, JE, JF, zz29, JM, zz30, ints, gx, bx, hwx, JN, ge0, QV, QW, zz6, QO, ↓Qb]
  refine cgA F_go62 (fun hG => rRight_ x) ?_
  simp only [zzK, QR, QP, QQ, JC, JW, zz23, zz24, F_sl30, F_sz3, QA, zzC, yyE, Qe, F_ok3, F_ag3, zz8, zzD, QS, QN, zzH, JE, JF, zz29, JM, zz30, ints, gx, bx, hwx, JN, ge0, QV, QW, zz6, QO, ↓Qb, atsL, oksG, JV, QZ, Qa, JO, Qm, QT, QS, zz9, QB, QA, S_mem, yyF, QF, zz2]
  refine kK hK3 [0, 3, 15] ?_
  refine cnA ?_ ?_
  ·intro hb
   have hx0 : rightN x = false := by simpa using hb
   clear hb
   refine pq fun K4 hK4 => ?_
   simp only [zzK, QR, QP, QQ, JB, zz6, QO, ↓Qb]
   refine kK hK4 [2] ?_
   refine JJ ?_
   simp only [zz6, QO, ↓Qb]
   refine dnA ?_
   simp only [QD, QE, resA, JZ, QR, QP, JD, QQ, Qd, Qc, JP]
   rw [show l.all rightN = false by rw [hsp]; simp [hx0]]
  ·intro hb
   have hx0 : rightN x = true := by simpa using hb
   clear hb
   refine JI ?_
   simp only [zz6, QO, ↓Qb]
   refine kK hK2 [0, 3] ?_
   refine pz ?_
   simp only [zzK, QR, QP, QQ, JC, zz21, JM, zz26, JB, hwx, zz6, QO, ↓Qb]
   refine ⟨post2.length, _, by simp, leK id [], (pre ++ [x]), post2, by simp [hsp], by rw [List.all_append, hpa]; simp [hx0], rfl, rfl⟩
 ·intro hb
  obtain rfl : post = [] := by
   cases post with
   | nil => rfl
   | cons x t => have := Qf hb; simp at hspl; omega
  clear hb
  simp only [QG] at hsp
  subst hsp
  refine JK ?_
  simp only [zz6, QO, ↓Qb]
  refine kK hK0 [] ?_
  refine pq fun K0 hK0 => ?_
  simp only [zzK, QR, QP, QQ, JB, zz6, QO, ↓Qb]
  refine kK hK0 [2] ?_
  refine JJ ?_
  simp only [zz6, QO, ↓Qb]
  refine dnA ?_
  simp only [QD, QE, resA, JZ, QR, QP, JD, QQ, Qd, Qc, JP]
  rw [hpa]
theorem rShift_ (b k : Nat) (hb_ : b < 170141183460469231731687303715884105728) (hk : k ≤ 62) : ACalls Tryz.prog 115 [.agg (wN b), iv (k : Int)] [] (.tp [wNA (shR b k).1, bv (shR b k).2]) := by
 refine acalls_S (rs := [.cell 4 102, .tmp 5]) Tryz.func115 rfl rfl 29 [(0, .d (.agg (wN b))), (1, .d (iv (k : Int)))] rfl (by simp) rfl ?_
 refine pq fun K0 hK0 => ?_
 simp only [zzK, QR, QP, QQ, zz35, JS, zz1, zzG, zzD, zzC, QA, yyE, Qe, QS, QN, zzH, zz32, F_zero102, zz10, JB, wN, zz6, QO, ↓Qb]
 refine kK hK0 [1, 2, 4] ?_
 refine JA fun K0 hK0 => ?_
 refine pq fun K1 hK1 => ?_
 simp only [zzK, QR, QP, QQ, JB, zz6, QO, ↓Qb]
 refine kK hK1 [1, 2, 4, 6] ?_
 refine JH ?_
 refine JL (fun m s => ∃ (B : Nat) (i : Nat), (i ≤ k) ∧ (B < 170141183460469231731687303715884105728) ∧ (shR b k = shR B (k - i)) ∧ m = k - i ∧ s = S 29 [(1, .d (iv (k : Int))), (2, .ptr 2 0 0), (4, .ptr 4 0 0), (6, .d (iv ((i : Nat) : Int)))] [(2, (⟨True, 102, 2, true, false, 2, [[.d (iv ((B / 18446744073709551616 : Nat) : Int)), .d (.v (.int .u64 ((B % 18446744073709551616 : Nat) : Int)))]]⟩ : ARow)), (4, (⟨True, 102, 2, true, false, 4, [[.d (iv 0), .d (.v (.int .u64 0))]]⟩ : ARow))]) (k) _ (leK id [] (hr := by exact ⟨fun _ => ⟨_, rfl, RowLe.cells (VLess.one_ (VLes.cons_ (Qt (by first | rfl | simp)) (VLes.cons_ (Qt (by first | rfl | simp)) (VLes.nil_))))⟩, (by simp), fun _ => ⟨_, rfl, rA⟩, (by simp), trivial⟩)) ⟨b, 0, Nat.zero_le _, hb_, rfl, rfl, rfl⟩ ?_
 rintro m s ⟨B, i, hik, hB, hS, rfl, rfl⟩
 refine JA fun K2 hK2 => ?_
 refine pq fun K3 hK3 => ?_
 simp only [zzK, QR, QP, QQ, JC, zz21, JM, zz22, zz6, QO, ↓Qb]
 refine kK hK3 [1, 2, 4, 6, 9] ?_
 refine cnA ?_ ?_
 ·intro hb
  have hi : i < k := by have := Qg hb; omega
  clear hb
  have hwi : Ql .i64 ((i : Int) + 1) = ((i + 1 : Nat) : Int) := wrapI (by omega) (by omega)
  have hki : k - i = (k - (i + 1)) + 1 := by omega
  refine JI ?_
  simp only [zz6, QO, ↓Qb]
  refine kK hK2 [1, 2, 4, 6] ?_
  refine JA fun K2 hK2 => ?_
  refine JH ?_
  refine JA fun K3 hK3 => ?_
  refine pq fun K4 hK4 => ?_
  simp only [zzK, QR, QP, QQ, zz19, zz23, F_off102_0, zzH, QN, QS, F_ok3, F_ag3, F_sz3, zz8, zzD, zzC, QA, yyE, Qe, zz21, JM, zz31, sh_cond, zz6, QO, ↓Qb]
  refine kK hK4 [1, 2, 4, 6, 14] ?_
  refine cnA ?_ ?_
  ·intro hb
   have hBc : decide (85070591730234615865843651857942052864 ≤ B) = true := hb
   clear hb
   have hR : shR b k = (B, false) := by rw [hS, hki]; simp only [shR, hBc, Qd]
   refine pq fun K5 hK5 => ?_
   simp only [zzK, QR, QP, QQ, F_ok102, F_ag102, F_sz102, zz8, zz23, zzD, QS, QN, zzH, zzC, QA, yyE, Qe, zz18, splice, QG, zz1, zzG, JB, zz6, QO, ↓Qb]
   refine kK hK5 [4, 5] ?_
   refine JJ ?_
   simp only [zz6, QO, ↓Qb]
   refine done0 (by simp [resCs, resC, S, List.getD, JD, lookR, F_ag102, F_sz102, F_ok102]) ?_ (by simp [Ja, Jb, Jc, wNA]) (by simp [QY, QX, wNA])
   simp only [QD, QE, resA, JZ, S_mem, lookR_cons, lookR_nil, QR, QP, JD, QQ, Qd, Qc, JP, QI, QJ, QH, QL, QK, List.take_zero, F_ag102, F_sz102, F_ok102]
   rw [hR]; simp [wNA]
  ·intro hb
   have hBc : decide (85070591730234615865843651857942052864 ≤ B) = false := hb
   clear hb
   have hBl := Qf hBc
   have hh : B / 18446744073709551616 < 4611686018427387904 := by omega
   refine JI ?_
   simp only [zz6, QO, ↓Qb]
   refine kK hK3 [1, 2, 4, 6] ?_
   refine pz ?_
   simp only [zzK, QR, QP, QQ, zz19, zz23, F_off102_0, zzH, QN, QS, F_ok3, F_ag3, F_sz3, zz8, zzD, zzC, QA, yyE, Qe, zz21, JM, b_shl, pure_shl, Int.reduceLT, Qk, F_off102_1, F_ok94, F_ag94, F_sz94, b_shr, pure_shr, zz27, F_cv94_3, F_cvV3, b_or, pure_or, F_zero102, F_bld102, zz7, splice, Option.getD_some, QG, zz1, zzG, zz10, F_fld102_0, F_fld102_1, zz18, F_ok102, F_sz102, shlI hh, shr63n, sh_wrap, orI64 hh (sh_bit _), sh_hi, shl1, sh_lo, zz6, QO, ↓Qb]
   refine kK hK2 [1, 2, 4, 6] ?_
   refine pz ?_
   simp only [zzK, QR, QP, QQ, JC, zz21, JM, zz26, JB, hwi, zz6, QO, ↓Qb]
   refine ⟨k - (i + 1), _, by omega, leK id [] (hr := by exact ⟨fun _ => ⟨_, rfl, RowLe.cells (VLess.one_ (VLes.cons_ (Qt (by first | rfl | (rw [sh_hi]))) (VLes.cons_ (Qt (by first | rfl | (rw [sh_lo]))) (VLes.nil_))))⟩, (by simp), fun _ => ⟨_, rfl, rA⟩, (by simp), trivial⟩), (B * 2), (i + 1), by omega, by omega, by rw [hS, hki]; simp only [shR, hBc, Qc], rfl, rfl⟩
 ·intro hb
  obtain rfl : i = k := by have := Qf hb; omega
  clear hb
  have hR : shR b i = (B, true) := by rw [hS, Nat.sub_self]; rfl
  refine JK ?_
  simp only [zz6, QO, ↓Qb]
  refine kK hK0 [2, 4] ?_
  refine pq fun K0 hK0 => ?_
  simp only [zzK, QR, QP, QQ, F_ok102, F_ag102, F_sz102, zz8, zz23, zzD, QS, QN, zzH, zzC, QA, yyE, Qe, zz18, splice, QG, zz1, zzG, JB, zz6, QO, ↓Qb]
  refine kK hK0 [4, 5] ?_
  refine JJ ?_
  simp only [zz6, QO, ↓Qb]
  refine done0 (by simp [resCs, resC, S, List.getD, JD, lookR, F_ag102, F_sz102, F_ok102]) ?_ (by simp [Ja, Jb, Jc, wNA]) (by simp [QY, QX, wNA])
  simp only [QD, QE, resA, JZ, S_mem, lookR_cons, lookR_nil, QR, QP, JD, QQ, Qd, Qc, JP, QI, QJ, QH, QL, QK, List.take_zero, F_ag102, F_sz102, F_ok102]
  rw [hR]; simp [wNA]
theorem rWAdd_ (r x : Nat) (hx : x ≤ r) (hr : r < 85070591730234615865843651857942052864) : ACalls Tryz.prog 116 [.agg (wN r), .agg (wideC (-(x : Int)))] [] (.tp [wNA (r - x), bv true]) := by
 refine acalls_S (rs := [.cell 4 102, .tmp 5]) Tryz.func116 rfl rfl 50 [(0, .d (.agg (wN r))), (1, .d (.agg (wideC (-(x : Int)))))] rfl (by simp) rfl ?_
 refine pq fun K0 hK0 => ?_
 simp only [zzK, QR, QP, QQ, zz35, JS, zz1, zzG, zzD, zzC, QA, yyE, Qe, QS, QN, zzH, zz32, F_zero102, zz10, JB, wN, wideC, zz6, QO, ↓Qb]
 refine kK hK0 [2, 3, 4] ?_
 refine pq fun K0 hK0 => ?_
 simp only [zzK, QR, QP, QQ, zz19, zz23, F_off102_1, zzH, QN, QS, F_ok94, F_ag94, F_sz94, zz8, zzD, zzC, QA, yyE, Qe, JE, JF, JC, zz14, JB, add_lo' hx, zz6, QO, ↓Qb]
 refine call_ext _ _ (add64 ((r % 18446744073709551616 : Nat) : Int) ((-(x : Int)) % 18446744073709551616) 0 (by omega) (by omega) (by decide) (by decide)) ?_
 simp only [zzK, QR, QP, QQ, zz19, zz23, F_off102_1, zzH, QN, QS, F_ok94, F_ag94, F_sz94, zz8, zzD, zzC, QA, yyE, Qe, JE, JF, JC, zz14, JB, add_lo' hx, zz6, QO, ↓Qb, grsL, JM, QB, QA, oksL, ofV_pair, ofV_int, ofV_bool]
 refine kK hK0 [2, 3, 4, 6, 7] ?_
 refine pq fun K0 hK0 => ?_
 simp only [zzK, QR, QP, QQ, zz19, zz23, F_off102_0, zzH, QN, QS, F_ok3, F_ag3, F_sz3, zz8, zzD, zzC, QA, yyE, Qe, zz27, JM, F_cv3_94, F_cvV94, JC, JE, JF, zz14, JB, zz6, QO, ↓Qb]
 refine call_ext _ _ (add64 (Ql .u64 ((r / 18446744073709551616 : Nat) : Int)) (Ql .u64 (-(x : Int) / 18446744073709551616)) ((((r % 18446744073709551616 : Nat) : Int) + (-(x : Int)) % 18446744073709551616 + 0) / 18446744073709551616) (wrapU_nn _) (wrapU_nn _) (add_c0 r x) (add_c1 r x)) ?_
 simp only [zzK, QR, QP, QQ, zz19, zz23, F_off102_0, zzH, QN, QS, F_ok3, F_ag3, F_sz3, zz8, zzD, zzC, QA, yyE, Qe, zz27, JM, F_cv3_94, F_cvV94, JC, JE, JF, zz14, JB, zz6, QO, ↓Qb, grsL, JM, QB, QA, oksL, ofV_pair, ofV_int, ofV_bool]
 refine kK hK0 [2, 3, 4, 6, 8] ?_
 refine pq fun K0 hK0 => ?_
 simp only [zzK, QR, QP, QQ, JC, zz27, JM, F_cv94_3, F_cvV3, JB, add_hi' hx hr, zz6, QO, ↓Qb]
 refine kK hK0 [2, 3, 4, 6, 10] ?_
 refine JA fun K0 hK0 => ?_
 refine awp_tree F_mixed [some 32, some 33, some 34, some 35, some 36, some 37, some 38, some 39, some 40, some 41, some 42, some 43, some 44, some 45, some 46, some 47, some 48, some 49, none, some 5] rfl (.one 0 (.one 1 (.one 2 (.one 3 (.one 6 (.two (.one 4 (.one 5 (.one 7 (.one 8 (.one 9 (.one 10 (.one 11 (.one 12 (.one 13 (.two (.one 14 (.one 15 (.one 16 (.one 17 (.one 18 (.one 19 .nil)))))) (.one 18 (.one 14 (.one 15 (.one 16 (.one 17 (.one 19 .nil)))))))))))))))) (.one 7 (.one 8 (.one 4 (.one 5 (.one 9 (.one 10 (.one 11 (.one 12 (.one 13 (.two (.one 14 (.one 15 (.one 16 (.one 17 (.one 18 (.one 19 .nil)))))) (.one 18 (.one 14 (.one 15 (.one 16 (.one 17 (.one 19 .nil)))))))))))))))))))))) (by kernel_rfl) ?_
 simp only [zzK, QR, QP, QQ, QU, JZ, zz5, Qj, Qi, Qh, JC, F_zero102, F_bld102, zz7, splice, Option.getD_some, QG, zz1, zzG, zzD, zzC, QA, yyE, Qe, QS, QN, zzH, zz10, F_fld102_0, F_fld102_1, zz19, zz23, F_off102_0, F_ok3, F_ag3, F_sz3, zz8, zz21, JM, zz22, b_neqb, pure_neqb F_bool4, b_eqlb, pure_eqlb F_bool4, zz13, JQ, JR, zz18, F_ok102, F_sz102, JB, add_hi' hx hr, add_lo' hx, zz6, QO, ↓Qb, evT, List.getElem?_cons_zero, List.getElem?_cons_succ]
 refine ⟨?_, ?_⟩
 ·skip
  refine kK hK0 [4, 5] ?_
  refine JJ ?_
  simp only [zz6, QO, ↓Qb]
  refine done0 (by simp [resCs, resC, S, List.getD, JD, lookR, F_ag102, F_sz102, F_ok102]) ?_ (by simp [Ja, Jb, Jc, wNA]) (by simp [QY, QX, wNA])
  simp only [QD, QE, resA, JZ, S_mem, lookR_cons, lookR_nil, QR, QP, JD, QQ, Qd, Qc, JP, QI, QJ, QH, QL, QK, List.take_zero, F_ag102, F_sz102, F_ok102]
  rw [add_ok hx]; simp [wNA]
 ·skip
  refine kK hK0 [4, 5] ?_
  refine JJ ?_
  simp only [zz6, QO, ↓Qb]
  refine done0 (by simp [resCs, resC, S, List.getD, JD, lookR, F_ag102, F_sz102, F_ok102]) ?_ (by simp [Ja, Jb, Jc, wNA]) (by simp [QY, QX, wNA])
  simp only [QD, QE, resA, JZ, S_mem, lookR_cons, lookR_nil, QR, QP, JD, QQ, Qd, Qc, JP, QI, QJ, QH, QL, QK, List.take_zero, F_ag102, F_sz102, F_ok102]
  rw [add_ok hx]; simp [wNA]
theorem rDivide_ (a b : Nat) (hb_ : 0 < b) (hq : a / b ≤ 4611686018427387904) (ha : a < 85070591730234615865843651857942052864) (hbl : b < 170141183460469231731687303715884105728) : ACalls Tryz.prog 107 [.agg (wN a), .agg (wN b)] [] (.tp [.d (iv ((a / b : Nat) : Int)), wNA (a % b)]) := by
 refine acalls_S (rs := [.tmp 4, .cell 5 102]) Tryz.func107 rfl rfl 42 [(0, .d (.agg (wN a))), (1, .d (.agg (wN b)))] rfl (by simp) rfl ?_
 refine pq fun K0 hK0 => ?_
 simp only [zzK, QR, QP, QQ, zz35, JS, zz1, zzG, zzD, zzC, QA, yyE, Qe, QS, QN, zzH, JB, zz32, F_zero102, zz10, wN, zz6, QO, ↓Qb]
 refine kK hK0 [2, 3, 5] ?_
 refine pq fun K0 hK0 => ?_
 simp only [zzK, QR, QP, QQ, JB, zz6, QO, ↓Qb]
 refine kK hK0 [2, 3, 5, 6] ?_
 refine pq fun K0 hK0 => ?_
 simp only [zzK, QR, QP, QQ, F_ok102, F_ag102, F_sz102, zz8, zz23, zzD, QS, QN, zzH, zzC, QA, yyE, Qe, zz32, JS, F_zero102, zz10, zz18, splice, QG, zz1, zzG, wN, zz6, QO, ↓Qb]
 refine kK hK0 [3, 5, 6, 7] ?_
 refine JA fun K0 hK0 => ?_
 refine pq fun K1 hK1 => ?_
 simp only [zzK, QR, QP, QQ, JB, zz6, QO, ↓Qb]
 refine kK hK1 [3, 5, 6, 7, 8] ?_
 refine JH ?_
 refine JL (fun m s => ∃ (c : Nat) (q : Nat) (r : Nat), (c ≤ 63) ∧ (a = q * b + r) ∧ (r < b * 2 ^ c) ∧ (q ≤ a / b) ∧ m = c ∧ s = S 42 [(3, .ptr 3 0 0), (5, .ptr 5 0 0), (6, .d (iv ((q : Nat) : Int))), (7, .ptr 7 0 0), (8, .d (iv (((c : Nat) : Int) - 1)))] [(3, (⟨True, 102, 2, true, false, 3, [[.d (iv ((b / 18446744073709551616 : Nat) : Int)), .d (.v (.int .u64 ((b % 18446744073709551616 : Nat) : Int)))]]⟩ : ARow)), (5, (⟨True, 102, 2, true, false, 5, [[.d (iv 0), .d (.v (.int .u64 0))]]⟩ : ARow)), (7, (⟨True, 102, 2, true, false, 7, [[.d (iv ((r / 18446744073709551616 : Nat) : Int)), .d (.v (.int .u64 ((r % 18446744073709551616 : Nat) : Int)))]]⟩ : ARow))]) (63) _ (leK id [] (hr := by exact ⟨fun _ => ⟨_, rfl, RowLe.cells (VLess.one_ (VLes.cons_ (Qt (by first | rfl | simp)) (VLes.cons_ (Qt (by first | rfl | simp)) (VLes.nil_))))⟩, (by simp), fun _ => ⟨_, rfl, rA⟩, (by simp), fun _ => ⟨_, rfl, RowLe.cells (VLess.one_ (VLes.cons_ (Qt (by first | rfl | simp)) (VLes.cons_ (Qt (by first | rfl | simp)) (VLes.nil_))))⟩, (by simp), trivial⟩)) ⟨63, 0, a, Nat.le_refl _, by simp, div_start hb_ hq, Nat.zero_le _, rfl, rfl⟩ ?_
 rintro m s ⟨c, q, r, hc, hE, hr, hqa, rfl, rfl⟩
 refine JA fun K2 hK2 => ?_
 refine pq fun K3 hK3 => ?_
 simp only [zzK, QR, QP, QQ, JC, zz21, JM, zz31, zz6, QO, ↓Qb]
 refine kK hK3 [3, 5, 6, 7, 8, 13] ?_
 refine cnA ?_ ?_
 ·intro hb
  obtain ⟨d, rfl⟩ : ∃ d, m = d + 1 := ⟨m - 1, by have := Qg hb; omega⟩
  clear hb
  have hd : ((d + 1 : Nat) : Int) - 1 = (d : Int) := by omega
  have hdl : d ≤ 62 := by omega
  obtain ⟨P, hP⟩ : ∃ P : Nat, P = 2 ^ d := ⟨_, rfl⟩
  have hpi := pow_intP hdl hP
  refine JI ?_
  simp only [zz6, QO, ↓Qb]
  refine kK hK2 [3, 5, 6, 7, 8] ?_
  refine JA fun K2 hK2 => ?_
  refine JH ?_
  refine pq fun K3 hK3 => ?_
  simp only [zzK, QR, QP, QQ, F_ok102, F_ag102, F_sz102, zz8, zz23, zzD, QS, QN, zzH, zzC, QA, yyE, Qe, JC, JE, JF, zz14, zz32, JS, F_zero102, zz10, zz18, splice, QG, zz1, zzG, JB, hd, wN, wNA, QW, zz6, QO, ↓Qb]
  refine JT F_go115 (fun hG => rShift_ b d hbl hdl) (by simp [QY, QX, wNA]) (by simp) ?_
  simp only [zzK, QR, QP, QQ, F_ok102, F_ag102, F_sz102, zz8, zz23, zzD, QS, QN, zzH, zzC, QA, yyE, Qe, JC, JE, JF, zz14, zz32, JS, F_zero102, zz10, zz18, splice, QG, zz1, zzG, JB, hd, wN, wNA, QW, zz6, QO, ↓Qb, atsL, oksG, JV, QZ, Qa, JO, Qm, QT, QS, zz9, QB, QA, S_mem, yyF, QF, zz2]
  refine kK hK3 [3, 5, 6, 7, 8, 9, 10] ?_
  refine JA fun K3 hK3 => ?_
  refine Qz F_mixed [some 22, some 23, some 24, some 25, some 26, some 27, some 28] rfl ?_
  simp only [zzK, QR, QP, QQ, QU, JZ, zz5, Qj, Qi, Qh, JC, F_ok102, F_ag102, F_sz102, zz8, zz23, zzD, QS, QN, zzH, zzC, QA, yyE, Qe, JE, JF, zz29, JM, zz30, zz13, JQ, JR, wN, wNA, QW, zz6, QO, ↓Qb]
  refine JT F_go109 (fun hG => rLessN_ r (shR b d).1) (by simp [QY, QX, wNA]) (by simp) ?_
  simp only [zzK, QR, QP, QQ, QU, JZ, zz5, Qj, Qi, Qh, JC, F_ok102, F_ag102, F_sz102, zz8, zz23, zzD, QS, QN, zzH, zzC, QA, yyE, Qe, JE, JF, zz29, JM, zz30, zz13, JQ, JR, wN, wNA, QW, zz6, QO, ↓Qb, atsL, oksG, JV, QZ, Qa, JO, Qm, QT, QS, zz9, QB, QA, S_mem, yyF, QF, zz2]
  refine kK hK3 [3, 5, 6, 7, 8, 9, 28] ?_
  refine cnA ?_ ?_
  ·intro hb
   obtain ⟨hsh, hle, s1, s2, s3, hra⟩ := div_take hP hb_ hbl hE hr ha hb
   clear hb
   simp only [hsh]
   have hwq : Ql .i64 ((q : Int) + (P : Int)) = ((q + P : Nat) : Int) := wrapI (by omega) (by omega)
   refine JA fun K4 hK4 => ?_
   refine awp_draw F_mixed [some 30, some 31, some 32, some 33, some 29, some 34, some 35, none] rfl (by kernel_rfl) ?_
   simp only [zzK, QR, QP, QQ, F_ok102, F_ag102, F_sz102, zz8, zz23, zzD, QS, QN, zzH, zzC, QA, yyE, Qe, JE, JF, JC, zz14, zz18, splice, QG, zz1, zzG, wN, wNA, wideC, wideA, QW, zz6, QO, ↓Qb]
   refine JT F_go117 (fun hG => negN_ (b * P) (by omega)) (by simp [QY, QX, wNA, wideC, wideA]) (by simp) ?_
   simp only [zzK, QR, QP, QQ, F_ok102, F_ag102, F_sz102, zz8, zz23, zzD, QS, QN, zzH, zzC, QA, yyE, Qe, JE, JF, JC, zz14, zz18, splice, QG, zz1, zzG, wN, wNA, wideC, wideA, QW, zz6, QO, ↓Qb, atsL, oksG, JV, QZ, Qa, JO, Qm, QT, QS, zz9, QB, QA, S_mem, yyF, QF, zz2]
   refine JT F_go116 (fun hG => rWAdd_ r (b * P) hle hra) (by simp [QY, QX, wNA, wideC, wideA]) (by simp) ?_
   simp only [zzK, QR, QP, QQ, F_ok102, F_ag102, F_sz102, zz8, zz23, zzD, QS, QN, zzH, zzC, QA, yyE, Qe, JE, JF, JC, zz14, zz18, splice, QG, zz1, zzG, wN, wNA, wideC, wideA, QW, zz6, QO, ↓Qb, atsL, oksG, JV, QZ, Qa, JO, Qm, QT, QS, zz9, QB, QA, S_mem, yyF, QF, zz2]
   refine kK hK4 [3, 5, 6, 7, 8] ?_
   refine pz ?_
   simp only [zzK, QR, QP, QQ, JC, zz21, JM, b_shl, pure_shl, Int.reduceLT, Qk, zz26, JB, hd, nat_lt0, Qk, hpi, hwq, zz6, QO, ↓Qb]
   refine kK hK2 [3, 5, 6, 7, 8] ?_
   refine pz ?_
   simp only [zzK, QR, QP, QQ, JC, zz21, JM, zz33, JB, hd, zz6, QO, ↓Qb]
   refine ⟨d, _, by omega, leK id [] (hl := by simp only [leV, JD, QQ, Qd, Qc]; exact ⟨vA, vA, (Qt rfl), vA, (Qt (congrArg iv (wrapI (by omega) (by omega)))), trivial⟩) (hr := by exact ⟨fun _ => ⟨_, rfl, rA⟩, (by simp), fun _ => ⟨_, rfl, rA⟩, (by simp), fun _ => ⟨_, rfl, RowLe.cells (VLess.one_ (VLes.cons_ (Qt (by first | rfl | simp)) (VLes.cons_ (Qt (by first | rfl | simp)) (VLes.nil_))))⟩, (by simp), trivial⟩), d, (q + P), (r - b * P), by omega, s1, s2, s3, rfl, rfl⟩
  ·intro hb
   have hsk := div_skip hbl hE ha hb
   clear hb
   refine JI ?_
   simp only [zz6, QO, ↓Qb]
   refine kK hK2 [3, 5, 6, 7, 8] ?_
   refine pz ?_
   simp only [zzK, QR, QP, QQ, JC, zz21, JM, zz33, JB, hd, zz6, QO, ↓Qb]
   refine ⟨d, _, by omega, leK id [] (hl := by simp only [leV, JD, QQ, Qd, Qc]; exact ⟨vA, vA, (Qt rfl), vA, (Qt (congrArg iv (wrapI (by omega) (by omega)))), trivial⟩), d, q, r, by omega, hE, hsk, hqa, rfl, rfl⟩
 ·intro hb
  obtain rfl : m = 0 := by have := Qf hb; omega
  clear hb
  obtain ⟨e1, e2⟩ := div_end hE (by simpa using hr)
  refine JK ?_
  simp only [zz6, QO, ↓Qb]
  refine kK hK0 [5, 6, 7] ?_
  refine JA fun K0 hK0 => ?_
  refine awp_draw F_mixed [some 40, some 41, some 4, none] rfl (by kernel_rfl) ?_
  simp only [zzK, QR, QP, QQ, JC, F_ok102, F_ag102, F_sz102, zz8, zz23, zzD, QS, QN, zzH, zzC, QA, yyE, Qe, JB, zz18, splice, QG, zz1, zzG, zz6, QO, ↓Qb]
  refine kK hK0 [4, 5] ?_
  refine JJ ?_
  simp only [zz6, QO, ↓Qb]
  refine done0 (by simp [resCs, resC, S, List.getD, JD, lookR, F_ag102, F_sz102, F_ok102]) ?_ (by simp [Ja, Jb, Jc, wNA]) (by simp [QY, QX, wNA])
  simp only [QD, QE, resA, JZ, S_mem, lookR_cons, lookR_nil, QR, QP, JD, QQ, Qd, Qc, JP, QI, QJ, QH, QL, QK, List.take_zero, F_ag102, F_sz102, F_ok102]
  simp [wNA, e1, e2]
theorem rTimesT_ (t x : Int) (h0 : 0 ≤ t) (h1 : t ≤ 4611686018427387904) (k0 : 0 ≤ x) (k1 : x ≤ 4611686018427387904) : ACalls Tryz.prog 108 [iv t, iv x] [] (wNA (t.toNat * x.toNat)) := by
 have h := rTimes_ t x (by omega) (by omega) (by omega) (by omega)
 rw [show t * x = ((t.toNat * x.toNat : Nat) : Int) by rw [Int.natCast_mul, Int.toNat_of_nonneg h0, Int.toNat_of_nonneg k0], wNA_eq] at h
 exact h
theorem WSumN_ (l : List Int) (hl : l.length ≤ 1000000) (h : ∀ x ∈ l, 0 ≤ x ∧ x ≤ 4611686018427387904) : ACalls Tryz.prog 68 [wides l] [] (.tp [wNA (sN l), bv true]) := by
 have h1 := WSum_ l hl (all_wide h)
 have h2 := fits_small (l := l) (fun x hx => by have := h x hx; omega) hl
 have h3 := sumN (l := l) (fun x hx => (h x hx).1)
 rw [h2, Qd, h3, wNA_eq] at h1
 exact h1
set_option maxRecDepth 100000 in
set_option maxHeartbeats 4000000 in
theorem rSplit_ (t : Int) (l : List Int) (hl : l.length ≤ 1000000) : ACalls Tryz.prog 86 [iv t, ints l] [⟨3, 1, (splitV t l).map fun n => [iv n]⟩] (.tp [.ref 0 (splitV t l).length, .d (iv (splitE t l))]) := by
 refine acalls_S (rs := [.tmp 4, .tmp 5]) Tryz.func86 rfl rfl 149 [(0, .d (iv t)), (1, .d (ints l))] rfl (by simp) rfl ?_
 refine pq fun K0 hK0 => ?_
 simp only [zzK, QR, QP, QQ, JB, zz6, QO, ↓Qb]
 refine kK hK0 [0, 1] ?_
 refine JA fun K0 hK0 => ?_
 refine JA fun K1 hK1 => ?_
 refine Qz F_mixed [some 17, some 18, some 19, some 20, some 21, some 22, some 23, some 24, some 25, some 26, some 27, some 28] rfl ?_
 simp only [zzK, QR, QP, QQ, QU, JZ, zz5, Qj, Qi, Qh, and_self, JC, zz21, JM, zz22, JE, JF, zz29, zz30, zz13, JQ, JR, sBad_eq, zz6, QO, ↓Qb]
 refine cgA F_go62 (fun hG => rRight_ t) ?_
 simp only [zzK, QR, QP, QQ, QU, JZ, zz5, Qj, Qi, Qh, and_self, JC, zz21, JM, zz22, JE, JF, zz29, zz30, zz13, JQ, JR, sBad_eq, zz6, QO, ↓Qb, atsL, oksG, JV, QZ, Qa, JO, Qm, QT, QS, zz9, QB, QA, zzC, yyF, zzD, zz2]
 refine cgA F_go106 (fun hG => rAllR_ l hl) ?_
 simp only [zzK, QR, QP, QQ, QU, JZ, zz5, Qj, Qi, Qh, and_self, JC, zz21, JM, zz22, JE, JF, zz29, zz30, zz13, JQ, JR, sBad_eq, zz6, QO, ↓Qb, atsL, oksG, JV, QZ, Qa, JO, Qm, QT, QS, zz9, QB, QA, zzC, yyF, zzD, zz2]
 refine kK hK1 [0, 1, 28] ?_
 refine cnA ?_ ?_
 ·intro hb
  have hsb : sBad t l = true := hb
  clear hb
  have hs : sRE t l = 3 := by simp only [sRE, hsb, Qd]
  refine pq fun K2 hK2 => ?_
  simp only [zzK, QR, QP, QQ, JB, zz6, QO, ↓Qb]
  refine kK hK2 [4, 5] ?_
  refine awp_le (leK id [0] (l' := [(4, .ref 0 0), (5, .d (iv 3))]) (m' := [(0, (⟨True, 3, 1, true, true, 0, []⟩ : ARow))])) ?_
  refine JJ ?_
  simp only [zz6, QO, ↓Qb]
  rw [show splitV t l = [] by simp only [splitV, hs]; rfl, show splitE t l = 3 by simp only [splitE, hs]; rfl]
  refine done1 0 (by simp only [resCs, resC]; trivial) ?_ (by simp [Ja, Jb, Jc]) (by simp [QY, QX]) (by rfl) trivial rfl rfl ?_ (by simp [flatDs, Jc])
  ·simp only [QD, QE, resA, JZ, QR, QP, JD, QQ, Qd, Qc, JP]; rfl
  ·rfl
 ·intro hb
  have hsb : sBad t l = false := hb
  clear hb
  have hrt := sBad_rt hsb
  refine JI ?_
  simp only [zz6, QO, ↓Qb]
  refine kK hK0 [0, 1] ?_
  refine pq fun K0 hK0 => ?_
  simp only [zzK, QR, QP, QQ, JB, zz6, QO, ↓Qb]
  refine kK hK0 [0, 1, 6] ?_
  refine JA fun K0 hK0 => ?_
  refine pq fun K1 hK1 => ?_
  simp only [zzK, QR, QP, QQ, JB, zz6, QO, ↓Qb]
  refine kK hK1 [0, 1, 6, 7] ?_
  refine JH ?_
  refine JL (fun m s => ∃ (pre : List Int) (post : List Int), (l = pre ++ post) ∧ (pre.any ngI = false) ∧ m = post.length ∧ s = S 149 [(0, .d (iv t)), (1, .d (ints l)), (6, .ref 6 pre.length), (7, .d (iv pre.length))] [(6, grow 102 2 6 (pre.map wideC))]) (l.length) _ (leK id [6]) ⟨[], l, rfl, rfl, rfl, rfl⟩ ?_
  rintro m s ⟨pre, post, hsp, hng, rfl, rfl⟩
  have hspl := congrArg List.length hsp
  simp only [QC] at hspl
  refine JA fun K2 hK2 => ?_
  refine pq fun K3 hK3 => ?_
  simp only [zzK, QR, QP, QQ, JC, JE, zz12, F_sl30, Option.isSome_some, zz21, JM, zz22, ints, JN, zz6, QO, ↓Qb]
  refine kK hK3 [0, 1, 6, 7, 32] ?_
  refine cnA ?_ ?_
  ·intro hb
   obtain ⟨x, post2, rfl⟩ : ∃ x t, post = x :: t := by
    cases post with
    | nil => have := Qg hb; simp at hspl; omega
    | cons x t => exact ⟨x, t, rfl⟩
   clear hb
   simp only [QF] at hspl
   have gx : (l.map (fun n => [iv n])).getD pre.length [] = [iv x] := by
    rw [hsp, List.map_append]; exact gd_mid' (A := pre.map (fun n => [iv n])) _ _ (by simp)
   have bx := ltI (show pre.length < l.length by omega)
   have hwx : Ql .i64 ((pre.length : Int) + 1) = ((pre ++ [x]).length : Int) := by rw [wrapI (by omega) (by omega)]; simp
   have hxb := hrt x (by rw [hsp]; simp)
   refine JI ?_
   simp only [zz6, QO, ↓Qb]
   refine kK hK2 [0, 1, 6, 7] ?_
   refine JA fun K2 hK2 => ?_
   refine JH ?_
   refine JA fun K3 hK3 => ?_
   refine pq fun K4 hK4 => ?_
   simp only [zzK, QR, QP, QQ, JC, JW, zz23, zz24, F_sl30, F_sz3, QA, zzC, yyE, Qe, F_ok3, F_ag3, zz8, zzD, QS, QN, zzH, zz21, JM, zz22, ints, gx, bx, hwx, JN, ge0, QV, QW, zz6, QO, ↓Qb]
   refine kK hK4 [0, 1, 6, 7, 39] ?_
   refine cnA ?_ ?_
   ·intro hb
    have hx : ngI x = true := hb
    clear hb
    have ha : l.any ngI = true := by rw [hsp]; simp [hx]
    have hs : sRE t l = 3 := by simp only [sRE, hsb, ha, Qd, Qc]
    refine pq fun K5 hK5 => ?_
    simp only [zzK, QR, QP, QQ, JB, zz6, QO, ↓Qb]
    refine kK hK5 [4, 5] ?_
    refine awp_le (leK id [0] (l' := [(4, .ref 0 0), (5, .d (iv 3))]) (m' := [(0, (⟨True, 3, 1, true, true, 0, []⟩ : ARow))])) ?_
    refine JJ ?_
    simp only [zz6, QO, ↓Qb]
    rw [show splitV t l = [] by simp only [splitV, hs]; rfl, show splitE t l = 3 by simp only [splitE, hs]; rfl]
    refine done1 0 (by simp only [resCs, resC]; trivial) ?_ (by simp [Ja, Jb, Jc]) (by simp [QY, QX]) (by rfl) trivial rfl rfl ?_ (by simp [flatDs, Jc])
    ·simp only [QD, QE, resA, JZ, QR, QP, JD, QQ, Qd, Qc, JP]; rfl
    ·rfl
   ·intro hb
    have hx : ngI x = false := hb
    clear hb
    refine JI ?_
    simp only [zz6, QO, ↓Qb]
    refine kK hK3 [0, 1, 6, 7] ?_
    refine pz ?_
    simp only [zzK, QR, QP, QQ, JC, JW, zz23, zz24, F_sl30, F_sz3, QA, zzC, yyE, Qe, F_ok3, F_ag3, zz8, zzD, QS, QN, zzH, JE, JF, F_sl100, F_zero102, F_sz102, zz3, JS, zz1, zzG, maxLen_le, QT, F_by102, zz4, zz9, QB, JB, ints, grow, wideA, wideC, gx, bx, hwx, JN, ge0, QV, QW, zz6, QO, ↓Qb]
    refine JT F_go67 (fun hG => Of_ x (by omega) (by omega)) (by simp [QY, QX, wideA, wideC]) (by simp) ?_
    simp only [zzK, QR, QP, QQ, JC, JW, zz23, zz24, F_sl30, F_sz3, QA, zzC, yyE, Qe, F_ok3, F_ag3, zz8, zzD, QS, QN, zzH, JE, JF, F_sl100, F_zero102, F_sz102, zz3, JS, zz1, zzG, maxLen_le, QT, F_by102, zz4, zz9, QB, JB, ints, grow, wideA, wideC, gx, bx, hwx, JN, ge0, QV, QW, zz6, QO, ↓Qb, atsL, oksG, JV, QZ, Qa, JO, Qm, QT, QS, unDs_cons, QB, QA, S_mem, yyF, QF, zz2]
    have hm : pre.length + 1 ≤ 1000000 := by first | omega | (simp; omega)
    first | refine ⟨le_maxLen hm, by omega, ?_⟩ | refine ⟨by simp, le_maxLen hm, by omega, ?_⟩
    clear hm
    refine kK hK2 [0, 1, 6, 7] ?_
    refine pz ?_
    simp only [zzK, QR, QP, QQ, JC, zz21, JM, zz26, JB, hwx, zz6, QO, ↓Qb]
    refine ⟨post2.length, _, by simp, leK (fun r => bif r == 6 then 47 else r) [] (hl := by simp only [leV, JD, QQ, Qd, Qc, hwx]; exact ⟨vA, vA, (Qr (by simp) (by rfl) (by simp)), vA, trivial⟩) (hr := by exact ⟨fun _ => ⟨_, rfl, RowLe.data_ (by simp [wideC])⟩, (by simp), trivial⟩), (pre ++ [x]), post2, by simp [hsp], by rw [List.any_append, hng]; simpa using hx, rfl, rfl⟩
  ·intro hb
   obtain rfl : post = [] := by
    cases post with
    | nil => rfl
    | cons x t => have := Qf hb; simp at hspl; omega
   clear hb
   simp only [QG] at hsp
   subst hsp
   refine JK ?_
   simp only [zz6, QO, ↓Qb]
   refine kK hK0 [0, 1, 6] ?_
   refine JA fun K0 hK0 => ?_
   refine pq fun K1 hK1 => ?_
   simp only [zzK, QR, QP, QQ, JC, JE, zz12, F_sl30, Option.isSome_some, zz21, JM, zz25, ints, JN, zz6, QO, ↓Qb]
   refine kK hK1 [0, 1, 6, 50] ?_
   refine cnA ?_ ?_
   ·intro hb
    have hn : decide ((l.length : Int) > 1024) = true := hb
    clear hb
    have hs : sRE t l = 5 := by simp only [sRE, hsb, hng, hn, Qd, Qc]
    refine pq fun K2 hK2 => ?_
    simp only [zzK, QR, QP, QQ, JB, zz6, QO, ↓Qb]
    refine kK hK2 [4, 5] ?_
    refine awp_le (leK id [0] (l' := [(4, .ref 0 0), (5, .d (iv 5))]) (m' := [(0, (⟨True, 3, 1, true, true, 0, []⟩ : ARow))])) ?_
    refine JJ ?_
    simp only [zz6, QO, ↓Qb]
    rw [show splitV t l = [] by simp only [splitV, hs]; rfl, show splitE t l = 5 by simp only [splitE, hs]; rfl]
    refine done1 0 (by simp only [resCs, resC]; trivial) ?_ (by simp [Ja, Jb, Jc]) (by simp [QY, QX]) (by rfl) trivial rfl rfl ?_ (by simp [flatDs, Jc])
    ·simp only [QD, QE, resA, JZ, QR, QP, JD, QQ, Qd, Qc, JP]; rfl
    ·rfl
   ·intro hb
    have hn : decide ((l.length : Int) > 1024) = false := hb
    clear hb
    have hs : sRE t l = 0 := by simp only [sRE, hsb, hng, hn, Qc]
    obtain ⟨ht, hll, hl2⟩ := sRE_ok hs
    have hSN := sumN (l := l) (fun x hx => (hll x hx).1)
    have hfit := fits_small (l := l) (fun x hx => by have := hll x hx; omega) (by omega)
    have hSl := sN_le hll
    have htt : ((t.toNat : Nat) : Int) = t := by omega
    have htB : t.toNat ≤ 4611686018427387904 := by omega
    refine JI ?_
    simp only [zz6, QO, ↓Qb]
    refine kK hK0 [0, 1, 6] ?_
    refine pq fun K0 hK0 => ?_
    simp only [zzK, QR, QP, QQ, JC, JE, JF, zz14, zzD, QS, QN, zz32, JS, F_zero102, zzC, QA, yyE, Qe, zzH, zz10, zz18, F_ok102, F_sz102, splice, QG, zz1, zzG, JB, wides, JN, grow, wNA, zz6, QO, ↓Qb]
    refine JT F_go68 (fun hG => WSumN_ l (by omega) hll) (by simp [QY, QX, wNA]) (by simp) ?_
    simp only [zzK, QR, QP, QQ, JC, JE, JF, zz14, zzD, QS, QN, zz32, JS, F_zero102, zzC, QA, yyE, Qe, zzH, zz10, zz18, F_ok102, F_sz102, splice, QG, zz1, zzG, JB, wides, JN, grow, wNA, zz6, QO, ↓Qb, atsL, oksG, JV, QZ, Qa, JO, Qm, QT, QS, zz9, QB, QA, S_mem, yyF, QF, zz2]
    refine kK hK0 [0, 1, 8] ?_
    refine JA fun K0 hK0 => ?_
    refine JA fun K1 hK1 => ?_
    refine Qz F_mixed [some 56, some 57, some 58, some 59, some 60, some 61, some 62, some 63] rfl ?_
    simp only [zzK, QR, QP, QQ, QU, JZ, zz5, Qj, Qi, Qh, zz19, zz23, F_off102_0, zzH, QN, QS, F_ok3, F_ag3, F_sz3, zz8, zzD, zzC, QA, yyE, Qe, zz21, JM, zz34, JC, F_off102_1, F_ok94, F_ag94, F_sz94, zz13, JQ, JR, sN_zero, QW, zz6, QO, ↓Qb]
    refine kK hK1 [0, 1, 8, 63] ?_
    refine cnA ?_ ?_
    ·intro hb
     have hz : sN l = 0 := by simpa using hb
     clear hb
     refine JA fun K2 hK2 => ?_
     refine pq fun K3 hK3 => ?_
     simp only [zzK, QR, QP, QQ, JC, zz21, JM, zz28, zz6, QO, ↓Qb]
     refine kK hK3 [1, 65] ?_
     refine cnA ?_ ?_
     ·intro hb
      have h0 : t ≠ 0 := by simpa using hb
      clear hb
      refine pq fun K4 hK4 => ?_
      simp only [zzK, QR, QP, QQ, JB, zz6, QO, ↓Qb]
      refine kK hK4 [4, 5] ?_
      refine awp_le (leK id [0] (l' := [(4, .ref 0 0), (5, .d (iv 2))]) (m' := [(0, (⟨True, 3, 1, true, true, 0, []⟩ : ARow))])) ?_
      refine JJ ?_
      simp only [zz6, QO, ↓Qb]
      rw [splitV_none hs hz h0, splitE_zero hs hz, show (t == 0) = false by simpa using h0]
      refine done1 0 (by simp only [resCs, resC]; trivial) ?_ (by simp [Ja, Jb, Jc]) (by simp [QY, QX]) (by rfl) trivial rfl rfl ?_ (by simp [flatDs, Jc])
      ·simp only [QD, QE, resA, JZ, QR, QP, JD, QQ, Qd, Qc, JP]; rfl
      ·rfl
     ·intro hb
      have h0 : t = 0 := by simpa using hb
      clear hb
      refine JI ?_
      simp only [zz6, QO, ↓Qb]
      refine kK hK2 [1] ?_
      refine pq fun K2 hK2 => ?_
      simp only [zzK, QR, QP, QQ, JC, JE, zz12, F_sl30, Option.isSome_some, evS_makeSlice, msK_some, msZ_some, F_zero3, F_sz3, F_by3, JS, zz10, zzC, QA, yyE, Qe, zzD, QS, QN, zzH, JB, ints, JN, zz6, QO, ↓Qb]
      refine ⟨⟨by omega, by omega⟩, ?_⟩
      refine kK hK2 [4, 5] ?_
      refine JJ ?_
      simp only [zz6, QO, ↓Qb]
      rw [splitV_zero hs hz h0, splitE_zero hs hz, show (t == 0) = true by simpa using h0, show (zerosI l.length).length = l.length by simp [zerosI]]
      refine done1 68 (by simp only [resCs, resC]; trivial) ?_ (by simp [Ja, Jb, Jc]) (by simp [QY, QX]) (by rfl) trivial rfl rfl ?_ (by simp [flatDs, Jc])
      ·simp only [QD, QE, resA, JZ, QR, QP, JD, QQ, Qd, Qc, JP]; rfl
      ·simp [zerosI]
    ·intro hb
     have hz : sN l ≠ 0 := by simpa using hb
     clear hb
     have hS : 0 < sN l := by omega
     have hLb := left_bnd (T := t.toNat) hS
     refine JI ?_
     simp only [zz6, QO, ↓Qb]
     refine kK hK0 [0, 1, 8] ?_
     refine pq fun K0 hK0 => ?_
     simp only [zzK, QR, QP, QQ, JC, JE, zz12, F_sl30, Option.isSome_some, evS_makeSlice, msK_some, msZ_some, F_zero3, F_sz3, F_by3, JS, zz10, zzC, QA, yyE, Qe, zzD, QS, QN, zzH, JB, ints, JN, zz6, QO, ↓Qb]
     refine ⟨⟨by omega, by omega⟩, ?_⟩
     refine kK hK0 [0, 1, 8, 10] ?_
     refine pq fun K0 hK0 => ?_
     simp only [zzK, QR, QP, QQ, JC, JE, zz12, F_sl30, Option.isSome_some, evS_makeSlice, msK_some, msZ_some, F_sl100, F_zero102, F_sz102, F_by102, JS, zz10, zzC, QA, yyE, Qe, zzD, QS, QN, zzH, JB, ints, JN, zz6, QO, ↓Qb]
     refine ⟨⟨by omega, by omega⟩, ?_⟩
     refine kK hK0 [0, 1, 8, 10, 11] ?_
     refine pq fun K0 hK0 => ?_
     simp only [zzK, QR, QP, QQ, JC, JB, zz6, QO, ↓Qb]
     refine kK hK0 [0, 1, 8, 10, 11, 12] ?_
     refine JA fun K0 hK0 => ?_
     refine pq fun K1 hK1 => ?_
     simp only [zzK, QR, QP, QQ, JB, zz6, QO, ↓Qb]
     refine kK hK1 [0, 1, 8, 10, 11, 12, 13] ?_
     refine JH ?_
     refine JL (fun m s => ∃ (pre : List Int) (post : List Int), (l = pre ++ post) ∧ m = post.length ∧ s = S 149 [(0, .d (iv t)), (1, .d (ints l)), (8, .ptr 8 0 0), (10, .ref 71 l.length), (11, .ref 74 l.length), (12, .d (iv (leftV t.toNat (sN l) pre))), (13, .d (iv pre.length))] [(8, (⟨True, 102, 2, true, false, 8, [[.d (iv (((sN l) / 18446744073709551616 : Nat) : Int)), .d (.v (.int .u64 (((sN l) % 18446744073709551616 : Nat) : Int)))]]⟩ : ARow)), (71, (⟨True, 3, 1, true, true, 71, ((qsV t.toNat (sN l) pre ++ zerosI post.length).map fun n => [iv n]).map (·.map .d)⟩ : ARow)), (74, (⟨True, 102, 2, true, true, 74, ((restsN t.toNat (sN l) pre ++ zerosN post.length).map wN).map (·.map .d)⟩ : ARow))]) (l.length) _ (leK id [] (hl := by simp only [leV, JD, QQ, Qd, Qc]; exact ⟨vA, vA, vA, (Qr (by simp) (by rfl) (by simp)), (Qr (by simp) (by rfl) (by simp)), (Qt (by simp [leftV, qsV, htt])), vA, trivial⟩) (hr := by exact ⟨fun _ => ⟨_, rfl, RowLe.cells (VLess.one_ (VLes.cons_ (Qt (by first | rfl | simp)) (VLes.cons_ (Qt (by first | rfl | simp)) (VLes.nil_))))⟩, (by simp), fun _ => ⟨_, rfl, (by exact Qu (by simp [qsV, zerosI, List.map_replicate]) (by simp [QX, QY]))⟩, (by simp), fun _ => ⟨_, rfl, (by exact Qu (by simp [restsN, zerosN, wN, List.map_replicate]) (by simp [QX, QY]))⟩, (by simp), trivial⟩)) ⟨[], l, rfl, rfl, rfl⟩ ?_
     rintro m s ⟨pre, post, hsp, rfl, rfl⟩
     have hspl := congrArg List.length hsp
     simp only [QC] at hspl
     refine JA fun K2 hK2 => ?_
     refine pq fun K3 hK3 => ?_
     simp only [zzK, QR, QP, QQ, JC, JE, zz12, F_sl30, Option.isSome_some, zz21, JM, zz22, ints, JN, zz6, QO, ↓Qb]
     refine kK hK3 [0, 1, 8, 10, 11, 12, 13, 79] ?_
     refine cnA ?_ ?_
     ·intro hb
      obtain ⟨x, post2, rfl⟩ : ∃ x t, post = x :: t := by
       cases post with
       | nil => have := Qg hb; simp at hspl; omega
       | cons x t => exact ⟨x, t, rfl⟩
      clear hb
      simp only [QF] at hspl
      have gx : (l.map (fun n => [iv n])).getD pre.length [] = [iv x] := by
       rw [hsp, List.map_append]; exact gd_mid' (A := pre.map (fun n => [iv n])) _ _ (by simp)
      have bx := ltI (show pre.length < l.length by omega)
      have hwx : Ql .i64 ((pre.length : Int) + 1) = ((pre ++ [x]).length : Int) := by rw [wrapI (by omega) (by omega)]; simp
      have hxb := hll x (by rw [hsp]; simp)
      have hxS : x.toNat ≤ sN l := w_le (by rw [hsp]; simp)
      have hqT := q_le (T := t.toNat) hxS
      have hxB : x.toNat ≤ 4611686018427387904 := by omega
      have hTx := times_bnd htB hxB
      have hlb := left_mid (T := t.toNat) hS hsp
      have hls := leftV_snoc t.toNat (sN l) pre x
      have hlv : Ql .i64 (leftV t.toNat (sN l) pre - ((t.toNat * x.toNat / sN l : Nat) : Int)) = leftV t.toNat (sN l) (pre ++ [x]) := by
       rw [← hls]; exact wrapI (by omega) (by omega)
      have cL0 := eq_true (show pre.length < l.length by omega)
      have n1 : (qsV t.toNat (sN l) pre ++ zerosI (post2.length + 1)).length = l.length := by rw [QC, qsV_len]; simp only [zerosI, List.length_replicate]; omega
      have n2 : (restsN t.toNat (sN l) pre ++ zerosN (post2.length + 1)).length = l.length := by rw [QC, restsN_len]; simp only [zerosN, List.length_replicate]; omega
      have n3 : (qsV t.toNat (sN l) (pre ++ [x]) ++ zerosI post2.length).length = l.length := by rw [QC, qsV_len]; simp only [zerosI, List.length_replicate, QC, List.length_singleton]; omega
      have gq0 := get_q0 (T := t.toNat) (S := sN l) (pre := pre) (post := post2)
      have gr0 := get_r0 (T := t.toNat) (S := sN l) (pre := pre) (post := post2)
      have sq := set_q (T := t.toNat) (S := sN l) (pre := pre) (post := post2) (x := x)
      have gq := get_q (T := t.toNat) (S := sN l) (pre := pre) (post := post2) (x := x)
      have sr := set_r (T := t.toNat) (S := sN l) (pre := pre) (post := post2) (x := x)
      simp only [wN, QD, QE] at sr
      refine JI ?_
      simp only [zz6, QO, ↓Qb]
      refine kK hK2 [0, 1, 8, 10, 11, 12, 13] ?_
      refine JA fun K2 hK2 => ?_
      refine JH ?_
      refine JA fun K3 hK3 => ?_
      refine awp_draw F_mixed [some 83, some 84, some 85, some 86, some 87, some 88, some 89, some 90, some 91, some 92, some 93, some 94, some 82, some 95, some 96, some 97, none, some 98, none] rfl (by kernel_rfl) ?_
      simp only [zzK, QR, QP, QQ, JC, JW, zz23, zz24, F_sl30, F_sz3, QA, zzC, yyE, Qe, F_ok3, F_ag3, zz8, zzD, QS, QN, zzH, JE, JF, F_ok102, F_ag102, F_sz102, zz14, zz18, splice, QG, zz1, zzG, F_sl100, ints, wN, wNA, cL0, n1, n2, n3, gq0, gr0, Nat.le_refl, sq, gq, sr, QF, QD, gx, bx, hwx, JN, ge0, QV, QW, zz6, QO, ↓Qb]
      refine JT F_go108 (fun hG => rTimesT_ t x (by omega) (by omega) (by omega) (by omega)) (by simp [QY, QX, wNA]) (by simp) ?_
      simp only [zzK, QR, QP, QQ, JC, JW, zz23, zz24, F_sl30, F_sz3, QA, zzC, yyE, Qe, F_ok3, F_ag3, zz8, zzD, QS, QN, zzH, JE, JF, F_ok102, F_ag102, F_sz102, zz14, zz18, splice, QG, zz1, zzG, F_sl100, ints, wN, wNA, cL0, n1, n2, n3, gq0, gr0, Nat.le_refl, sq, gq, sr, QF, QD, gx, bx, hwx, JN, ge0, QV, QW, zz6, QO, ↓Qb, atsL, oksG, JV, QZ, Qa, JO, Qm, QT, QS, zz9, QB, QA, S_mem, yyF, QF, zz2]
      refine JT F_go107 (fun hG => rDivide_ (t.toNat * x.toNat) (sN l) hS (by omega) hTx (by omega)) (by simp [QY, QX, wNA]) (by simp) ?_
      simp only [zzK, QR, QP, QQ, JC, JW, zz23, zz24, F_sl30, F_sz3, QA, zzC, yyE, Qe, F_ok3, F_ag3, zz8, zzD, QS, QN, zzH, JE, JF, F_ok102, F_ag102, F_sz102, zz14, zz18, splice, QG, zz1, zzG, F_sl100, ints, wN, wNA, cL0, n1, n2, n3, gq0, gr0, Nat.le_refl, sq, gq, sr, QF, QD, gx, bx, hwx, JN, ge0, QV, QW, zz6, QO, ↓Qb, atsL, oksG, JV, QZ, Qa, JO, Qm, QT, QS, zz9, QB, QA, S_mem, yyF, QF, zz2]
      refine kK hK3 [0, 1, 8, 10, 11, 12, 13] ?_
      refine pz ?_
      simp only [zzK, QR, QP, QQ, JC, JW, zz23, zz24, F_sl30, F_sz3, QA, zzC, yyE, Qe, F_ok3, F_ag3, zz8, zzD, QS, QN, zzH, zz21, JM, zz33, JB, cL0, n3, Nat.le_refl, QF, gq, hlv, gx, bx, hwx, JN, ge0, QV, QW, zz6, QO, ↓Qb]
      refine kK hK2 [0, 1, 8, 10, 11, 12, 13] ?_
      refine pz ?_
      simp only [zzK, QR, QP, QQ, JC, zz21, JM, zz26, JB, hwx, zz6, QO, ↓Qb]
      refine ⟨post2.length, _, by simp, leK id [] (hl := by simp only [leV, JD, QQ, Qd, Qc, hwx, hlv]; exact ⟨vA, vA, vA, vA, vA, vA, vA, trivial⟩) (hr := by exact ⟨fun _ => ⟨_, rfl, (by first | exact Qu (by simp) ids_data | exact Qv ids_data | exact Qv (by simp [QX, QY]))⟩, (by simp), fun _ => ⟨_, rfl, (by first | exact Qu (by simp) ids_data | exact Qv ids_data | exact Qv (by simp [QX, QY]))⟩, (by simp), fun _ => ⟨_, rfl, (by first | exact Qu (by simp) ids_data | exact Qv ids_data | exact Qv (by simp [QX, QY]))⟩, (by simp), trivial⟩), (pre ++ [x]), post2, by simp [hsp], rfl, rfl⟩
     ·intro hb
      obtain rfl : post = [] := by
       cases post with
       | nil => rfl
       | cons x t => have := Qf hb; simp at hspl; omega
      clear hb
      simp only [QG] at hsp
      subst hsp
      refine JK ?_
      simp only [zz6, QO, ↓Qb]
      refine kK hK0 [1, 10, 11, 12] ?_
      refine pq fun K0 hK0 => ?_
      simp only [zzK, QR, QP, QQ, JC, JE, zz12, F_sl30, Option.isSome_some, evS_makeSlice, msK_some, msZ_some, F_sl152, F_zero4, F_sz4, F_by4, JS, zz10, zzC, QA, yyE, Qe, zzD, QS, QN, zzH, JB, ints, JN, zz6, QO, ↓Qb]
      refine ⟨⟨by omega, by omega⟩, ?_⟩
      refine kK hK0 [1, 10, 11, 12, 14] ?_
      refine JA fun K0 hK0 => ?_
      refine JH ?_
      refine JL (fun m s => ∃ (j : Nat), ((j : Int) ≤ (leftV t.toNat (sN l) l)) ∧ m = (leftV t.toNat (sN l) l).toNat - j ∧ s = S 149 [(1, .d (ints l)), (10, .ref 71 l.length), (11, .ref 74 l.length), (12, .d (iv ((leftV t.toNat (sN l) l) - ((j : Nat) : Int)))), (14, .ref 107 l.length)] [(71, (⟨True, 3, 1, true, true, 71, ((bumpV (qsV t.toNat (sN l) l) (atK t.toNat (sN l) l j)).map fun n => [iv n]).map (·.map .d)⟩ : ARow)), (74, (⟨True, 102, 2, true, true, 74, ((restsN t.toNat (sN l) l).map wN).map (·.map .d)⟩ : ARow)), (107, (⟨True, 4, 1, true, true, 107, ((givV t.toNat (sN l) l j).map oneB).map (·.map .d)⟩ : ARow))]) ((leftV t.toNat (sN l) l).toNat) _ (leK id [] (hl := by simp only [leV, JD, QQ, Qd, Qc]; exact ⟨vA, vA, vA, (Qt (by simp)), (Qr (by simp) (by rfl) (by simp)), trivial⟩) (hr := by exact ⟨fun _ => ⟨_, rfl, (by exact Qu (by simp [zerosI, atK, bumpV]) ids_data)⟩, (by simp), fun _ => ⟨_, rfl, (by exact Qu (by simp [zerosN]) ids_data)⟩, (by simp), fun _ => ⟨_, rfl, (by exact Qu (by simp [givV_zero, oneB, List.map_replicate]) (by simp [QX, QY]))⟩, (by simp), trivial⟩)) ⟨0, by omega, rfl, rfl⟩ ?_
      rintro m s ⟨j, hjL, rfl, rfl⟩
      refine JA fun K2 hK2 => ?_
      refine pq fun K3 hK3 => ?_
      simp only [zzK, QR, QP, QQ, JC, zz21, JM, zz25, zz6, QO, ↓Qb]
      refine kK hK3 [1, 10, 11, 12, 14, 109] ?_
      refine cnA ?_ ?_
      ·intro hb
       have hjl : (j : Int) < (leftV t.toNat (sN l) l) := by have := Qg hb; omega
       clear hb
       obtain ⟨k, hk, hbk, hgs, hbu, hp0, hp1⟩ := pick_step (T := t.toNat) (l := l) (j := j) htB (by omega)
       have hlj : Ql .i64 ((leftV t.toNat (sN l) l) - (j : Int) - 1) = (leftV t.toNat (sN l) l) - ((j + 1 : Nat) : Int) := by rw [wrapI (by omega) (by omega)]; omega
       refine JI ?_
       simp only [zz6, QO, ↓Qb]
       refine kK hK2 [1, 10, 11, 12, 14] ?_
       refine JH ?_
       refine pq fun K2 hK2 => ?_
       simp only [zzK, QR, QP, QQ, JB, zz6, QO, ↓Qb]
       refine kK hK2 [1, 10, 11, 12, 14, 15] ?_
       refine JA fun K2 hK2 => ?_
       refine pq fun K3 hK3 => ?_
       simp only [zzK, QR, QP, QQ, JB, zz6, QO, ↓Qb]
       refine kK hK3 [1, 10, 11, 12, 14, 15, 16] ?_
       refine JH ?_
       refine JL (fun m s => ∃ (i : Nat), (i ≤ l.length) ∧ m = l.length - i ∧ s = S 149 [(1, .d (ints l)), (10, .ref 71 l.length), (11, .ref 74 l.length), (12, .d (iv ((leftV t.toNat (sN l) l) - ((j : Nat) : Int)))), (14, .ref 107 l.length), (15, .d (iv (bestV (givV t.toNat (sN l) l j) (restsN t.toNat (sN l) l) i))), (16, .d (iv ((i : Nat) : Int)))] [(71, (⟨True, 3, 1, true, true, 71, ((bumpV (qsV t.toNat (sN l) l) (atK t.toNat (sN l) l j)).map fun n => [iv n]).map (·.map .d)⟩ : ARow)), (74, (⟨True, 102, 2, true, true, 74, ((restsN t.toNat (sN l) l).map wN).map (·.map .d)⟩ : ARow)), (107, (⟨True, 4, 1, true, true, 107, ((givV t.toNat (sN l) l j).map oneB).map (·.map .d)⟩ : ARow))]) (l.length) _ (leK id [] (hr := by exact ⟨fun _ => ⟨_, rfl, (by first | exact Qu (by simp) ids_data | exact Qv ids_data | exact Qv (by simp [QX, QY]))⟩, (by simp), fun _ => ⟨_, rfl, (by first | exact Qu (by simp) ids_data | exact Qv ids_data | exact Qv (by simp [QX, QY]))⟩, (by simp), fun _ => ⟨_, rfl, (by first | exact Qu (by simp) ids_data | exact Qv ids_data | exact Qv (by simp [QX, QY]))⟩, (by simp), trivial⟩)) ⟨0, Nat.zero_le _, rfl, rfl⟩ ?_
       rintro m s ⟨i, hil, rfl, rfl⟩
       refine JA fun K4 hK4 => ?_
       refine pq fun K5 hK5 => ?_
       simp only [zzK, QR, QP, QQ, JC, JE, zz12, F_sl30, Option.isSome_some, zz21, JM, zz22, ints, JN, zz6, QO, ↓Qb]
       refine kK hK5 [1, 10, 11, 12, 14, 15, 16, 113] ?_
       refine cnA ?_ ?_
       ·intro hb
        have hi : i < l.length := by have := Qg hb; omega
        clear hb
        have hwi : Ql .i64 ((i : Int) + 1) = ((i + 1 : Nat) : Int) := wrapI (by omega) (by omega)
        have bi := ltI hi
        have cI := eq_true hi
        have nG := givV_len t.toNat (sN l) l j
        have nR := restsN_len t.toNat (sN l) l
        have hbl : (bestV (givV t.toNat (sN l) l j) (restsN t.toNat (sN l) l) i).toNat < l.length := best_lt hi
        have cB := eq_true hbl
        have gB := get_b (L := givV t.toNat (sN l) l j) (i := i) (by rw [givV_len]; exact hi)
        have gR1 := get_r (L := restsN t.toNat (sN l) l) (i := i) (by rw [restsN_len]; exact hi)
        have gR2 := get_r (L := restsN t.toNat (sN l) l) (i := (bestV (givV t.toNat (sN l) l j) (restsN t.toNat (sN l) l) i).toNat) (by rw [restsN_len]; exact hbl)
        have hrng := best_rng (g := givV t.toNat (sN l) l j) (r := restsN t.toNat (sN l) l) (n := i) (m := l.length) hi
        simp only [wN, QD, QE] at gR1 gR2
        refine JI ?_
        simp only [zz6, QO, ↓Qb]
        refine kK hK4 [1, 10, 11, 12, 14, 15, 16] ?_
        refine JA fun K4 hK4 => ?_
        refine JH ?_
        refine JA fun K5 hK5 => ?_
        refine awp_draw F_mixed [some 116, some 117, some 118, some 119, some 120, some 121, some 122, some 123, some 124, some 125, some 126, some 127, some 128, some 129, some 130, some 131, some 132, some 133, some 134, some 135] rfl (by kernel_rfl) ?_
        simp only [zzK, QR, QP, QQ, QU, JZ, zz5, Qj, Qi, Qh, JC, JW, zz23, zz24, F_sl152, F_sz4, QA, zzC, yyE, Qe, F_ok4, F_ag4, zz8, zzD, QS, QN, zzH, zz29, JM, zz30, zz21, zz22, F_sl100, F_sz102, F_ok102, F_ag102, JE, JF, zz13, JQ, JR, ints, JN, wN, bi, cI, nG, nR, cB, gB, gR1, gR2, Nat.le_refl, QF, ge0, QV, QW, zz6, QO, ↓Qb]
        refine ⟨⟨fun _ h => (hrng h).1, fun _ h => (hrng h).2⟩, ?_⟩
        refine cgA F_go109 (fun hG => rLessN_ ((restsN t.toNat (sN l) l).getD (bestV (givV t.toNat (sN l) l j) (restsN t.toNat (sN l) l) i).toNat 0) ((restsN t.toNat (sN l) l).getD i 0)) ?_
        simp only [zzK, QR, QP, QQ, QU, JZ, zz5, Qj, Qi, Qh, JC, JW, zz23, zz24, F_sl152, F_sz4, QA, zzC, yyE, Qe, F_ok4, F_ag4, zz8, zzD, QS, QN, zzH, zz29, JM, zz30, zz21, zz22, F_sl100, F_sz102, F_ok102, F_ag102, JE, JF, zz13, JQ, JR, ints, JN, wN, bi, cI, nG, nR, cB, gB, gR1, gR2, Nat.le_refl, QF, ge0, QV, QW, zz6, QO, ↓Qb, atsL, oksG, JV, QZ, Qa, JO, Qm, QT, QS, zz9, QB, QA, S_mem, yyF, QF, zz2]
        refine kK hK5 [1, 10, 11, 12, 14, 15, 16, 135] ?_
        refine cnA ?_ ?_
        ·intro hb
         have hcd := hb
         clear hb
         refine pz ?_
         simp only [zzK, QR, QP, QQ, JC, JB, zz6, QO, ↓Qb]
         refine kK hK4 [1, 10, 11, 12, 14, 15, 16] ?_
         refine pz ?_
         simp only [zzK, QR, QP, QQ, JC, zz21, JM, zz26, JB, hwi, zz6, QO, ↓Qb]
         refine ⟨l.length - (i + 1), _, by omega, leK id [] (hl := by simp only [leV, JD, QQ, Qd, Qc, hwi]; exact ⟨vA, vA, vA, vA, vA, (Qt (by rw [← best_step, hcd]; rfl)), vA, trivial⟩) (hr := by exact ⟨fun _ => ⟨_, rfl, (by first | exact Qu (by simp) ids_data | exact Qv ids_data | exact Qv (by simp [QX, QY]))⟩, (by simp), fun _ => ⟨_, rfl, (by first | exact Qu (by simp) ids_data | exact Qv ids_data | exact Qv (by simp [QX, QY]))⟩, (by simp), fun _ => ⟨_, rfl, (by first | exact Qu (by simp) ids_data | exact Qv ids_data | exact Qv (by simp [QX, QY]))⟩, (by simp), trivial⟩), (i + 1), by omega, rfl, rfl⟩
        ·intro hb
         have hcd := hb
         clear hb
         refine JI ?_
         simp only [zz6, QO, ↓Qb]
         refine kK hK4 [1, 10, 11, 12, 14, 15, 16] ?_
         refine pz ?_
         simp only [zzK, QR, QP, QQ, JC, zz21, JM, zz26, JB, hwi, zz6, QO, ↓Qb]
         refine ⟨l.length - (i + 1), _, by omega, leK id [] (hl := by simp only [leV, JD, QQ, Qd, Qc, hwi]; exact ⟨vA, vA, vA, vA, vA, (Qt (by rw [← best_step, hcd]; rfl)), vA, trivial⟩) (hr := by exact ⟨fun _ => ⟨_, rfl, (by first | exact Qu (by simp) ids_data | exact Qv ids_data | exact Qv (by simp [QX, QY]))⟩, (by simp), fun _ => ⟨_, rfl, (by first | exact Qu (by simp) ids_data | exact Qv ids_data | exact Qv (by simp [QX, QY]))⟩, (by simp), fun _ => ⟨_, rfl, (by first | exact Qu (by simp) ids_data | exact Qv ids_data | exact Qv (by simp [QX, QY]))⟩, (by simp), trivial⟩), (i + 1), by omega, rfl, rfl⟩
       ·intro hb
        obtain rfl : i = l.length := by have := Qf hb; omega
        clear hb
        simp only [hbk]
        have bk := ltI hk
        have cK := eq_true hk
        have nG := givV_len t.toNat (sN l) l j
        have nP : (bumpV (qsV t.toNat (sN l) l) (atK t.toNat (sN l) l j)).length = l.length := by rw [bumpV_len, qsV_len]
        have gG := get_b (L := givV t.toNat (sN l) l j) (i := k) (by rw [givV_len]; exact hk)
        have gP := oneI_get (p := bumpV (qsV t.toNat (sN l) l) (atK t.toNat (sN l) l j)) (k := k) (by rw [bumpV_len, qsV_len]; exact hk)
        have hwp : Ql .i64 ((bumpV (qsV t.toNat (sN l) l) (atK t.toNat (sN l) l j)).getD k 0 + 1) = (bumpV (qsV t.toNat (sN l) l) (atK t.toNat (sN l) l j)).getD k 0 + 1 := wrapI (by omega) (by omega)
        have sP := oneI_set (bumpV (qsV t.toNat (sN l) l) (atK t.toNat (sN l) l j)) k
        refine JK ?_
        simp only [zz6, QO, ↓Qb]
        refine kK hK2 [1, 10, 11, 12, 14, 15] ?_
        refine pq fun K2 hK2 => ?_
        simp only [zzK, QR, QP, QQ, JC, JW, zz23, zz24, F_sl152, F_sz4, QA, zzC, yyE, Qe, zz18, F_ok4, splice, QG, zzD, QS, QN, zzH, zz1, zzG, JN, bk, cK, nG, gG, Nat.le_refl, QF, set_b, ge0, QV, zz6, QO, ↓Qb]
        refine kK hK2 [1, 10, 11, 12, 14, 15] ?_
        refine pq fun K2 hK2 => ?_
        simp only [zzK, QR, QP, QQ, JC, JW, zz23, zz24, F_sl30, F_sz3, QA, zzC, yyE, Qe, F_ok3, F_ag3, zz8, zzD, QS, QN, zzH, zz21, JM, zz26, zz18, splice, QG, zz1, zzG, JN, bk, cK, nP, gP, Nat.le_refl, QF, hwp, sP, ge0, QV, zz6, QO, ↓Qb]
        refine kK hK2 [1, 10, 11, 12, 14] ?_
        refine pz ?_
        simp only [zzK, QR, QP, QQ, JC, zz21, JM, zz33, JB, hlj, zz6, QO, ↓Qb]
        refine ⟨(leftV t.toNat (sN l) l).toNat - (j + 1), _, by omega, leK id [] (hl := by simp only [leV, JD, QQ, Qd, Qc, hlj]; exact ⟨vA, vA, vA, vA, vA, trivial⟩) (hr := by exact ⟨fun _ => ⟨_, rfl, (by exact Qu (by rw [hbu]) ids_data)⟩, (by simp), fun _ => ⟨_, rfl, (by first | exact Qu (by simp) ids_data | exact Qv ids_data | exact Qv (by simp [QX, QY]))⟩, (by simp), fun _ => ⟨_, rfl, (by exact Qu (by rw [hgs]) ids_data)⟩, (by simp), trivial⟩), (j + 1), by omega, rfl, rfl⟩
      ·intro hb
       have hjL2 : (leftV t.toNat (sN l) l).toNat = j := by have := Qf hb; omega
       clear hb
       refine JK ?_
       simp only [zz6, QO, ↓Qb]
       refine kK hK0 [10] ?_
       refine pq fun K0 hK0 => ?_
       simp only [zzK, QR, QP, QQ, JC, JB, zz6, QO, ↓Qb]
       refine kK hK0 [4, 5] ?_
       refine JJ ?_
       simp only [zz6, QO, ↓Qb]
       rw [show splitV t l = bumpV (qsV t.toNat (sN l) l) (atK t.toNat (sN l) l j) by rw [splitV_prt hs hS, prt, hjL2], splitE_prt hs hS, show (bumpV (qsV t.toNat (sN l) l) (atK t.toNat (sN l) l j)).length = l.length by rw [bumpV_len, qsV_len]]
       refine done1 71 (by simp only [resCs, resC]; trivial) ?_ (by simp [Ja, Jb, Jc]) (by simp [QY, QX]) (by rfl) trivial rfl rfl ?_ (by simp [flatDs, Jc])
       ·simp only [QD, QE, resA, JZ, QR, QP, JD, QQ, Qd, Qc, JP]; rfl
       ·rfl
theorem rSplitF (t : Int) (l : List Int) (hl : l.length ≤ 1000000) : ACalls Tryz.prog 86 [iv t, ints l] [] (.tp [.d (ints (splitV t l)), .d (iv (splitE t l))]) :=
 (rSplit_ t l hl).freezeT (by simp [frzOk, frzOkL])
end Go.Proofs.YtjkfadaedgidpaaGreat
