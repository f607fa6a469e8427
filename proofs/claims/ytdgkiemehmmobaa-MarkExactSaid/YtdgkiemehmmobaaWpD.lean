import Derived.Test.YtdgkiemehmmobaaSpecO
import Derived.Test.YtdgkiemehmmobaaAbsS
import Derived.Test.YtdgkiemehmmobaaWpA
namespace Go.Proofs.Ytdgkiemehmmobaa
open Go.RowKit
set_option linter.unusedVariables false
set_option linter.unusedSimpArgs false
theorem F_off107_0 : offT Try.prog 107 0 = some 0 := by kernel_rfl
theorem F_off33_0 : offT Try.prog 33 0 = some 0 := by kernel_rfl
theorem F_off115_0 : offT Try.prog 115 0 = some 0 := by kernel_rfl
theorem F_off107_1 : offT Try.prog 107 1 = some 1 := by kernel_rfl
theorem F_off107_2 : offT Try.prog 107 2 = some 2 := by kernel_rfl
theorem F_go80 : goFn Try.prog 80 := ⟨_, Try.func80, rfl, rfl⟩
theorem F_off115_1 : offT Try.prog 115 1 = some 1 := by kernel_rfl
theorem F_off115_2 : offT Try.prog 115 2 = some 2 := by kernel_rfl
theorem F_off115_3 : offT Try.prog 115 3 = some 3 := by kernel_rfl
theorem F_sl36 : sliceT Try.prog 36 = some 107 := by kernel_rfl
theorem F_sz107 : szT Try.prog 107 = 3 := by kernel_rfl
theorem F_ok107 : tyOk Try.prog 107 = true := by kernel_rfl
theorem F_ag107 : aggT Try.prog 107 = true := by kernel_rfl
theorem F_zero107 : zeroT Try.prog 107 = some [(.int .i64 0), (.int .i64 0), (.int .i64 0)] := by kernel_rfl
theorem F_go58 : goFn Try.prog 58 := ⟨_, Try.func58, rfl, rfl⟩
theorem F_go57 : goFn Try.prog 57 := ⟨_, Try.func57, rfl, rfl⟩
theorem F_off33_6 : offT Try.prog 33 6 = some 6 := by kernel_rfl
theorem F_ok31 : tyOk Try.prog 31 = true := by kernel_rfl
theorem F_ag31 : aggT Try.prog 31 = true := by kernel_rfl
theorem F_sz31 : szT Try.prog 31 = 6 := by kernel_rfl
theorem F_arr31 : arrT Try.prog 31 = some (6, 3) := by kernel_rfl
theorem F_off33_1 : offT Try.prog 33 1 = some 1 := by kernel_rfl
theorem F_off33_2 : offT Try.prog 33 2 = some 2 := by kernel_rfl
theorem F_off33_3 : offT Try.prog 33 3 = some 3 := by kernel_rfl
theorem F_sl37 : sliceT Try.prog 37 = some 33 := by kernel_rfl
theorem F_sz33 : szT Try.prog 33 = 12 := by kernel_rfl
theorem F_ok33 : tyOk Try.prog 33 = true := by kernel_rfl
theorem F_ag33 : aggT Try.prog 33 = true := by kernel_rfl
theorem F_zero33 : zeroT Try.prog 33 = some [(.int .i64 0), (.int .i64 0), (.int .i64 0), (.int .i64 0), (.int .i64 0), (.int .i64 0), (.int .i64 0), (.int .i64 0), (.int .i64 0), (.int .i64 0), (.int .i64 0), (.int .i64 0)] := by kernel_rfl
theorem F_go61 : goFn Try.prog 61 := ⟨_, Try.func61, rfl, rfl⟩
theorem F_go60 : goFn Try.prog 60 := ⟨_, Try.func60, rfl, rfl⟩
theorem F_sl38 : sliceT Try.prog 38 = some 115 := by kernel_rfl
theorem F_sz115 : szT Try.prog 115 = 4 := by kernel_rfl
theorem F_ok115 : tyOk Try.prog 115 = true := by kernel_rfl
theorem F_ag115 : aggT Try.prog 115 = true := by kernel_rfl
theorem F_zero115 : zeroT Try.prog 115 = some [(.int .i64 0), (.int .i64 0), (.int .i64 0), (.int .i64 0)] := by kernel_rfl
theorem F_go64 : goFn Try.prog 64 := ⟨_, Try.func64, rfl, rfl⟩
theorem F_go63 : goFn Try.prog 63 := ⟨_, Try.func63, rfl, rfl⟩
theorem F_off40_0 : offT Try.prog 40 0 = some 0 := by kernel_rfl
theorem F_ok36 : tyOk Try.prog 36 = true := by kernel_rfl
theorem F_ag36 : aggT Try.prog 36 = false := by kernel_rfl
theorem F_sz36 : szT Try.prog 36 = 1 := by kernel_rfl
theorem F_off40_1 : offT Try.prog 40 1 = some 1 := by kernel_rfl
theorem F_ok37 : tyOk Try.prog 37 = true := by kernel_rfl
theorem F_ag37 : aggT Try.prog 37 = false := by kernel_rfl
theorem F_sz37 : szT Try.prog 37 = 1 := by kernel_rfl
theorem F_off40_2 : offT Try.prog 40 2 = some 2 := by kernel_rfl
theorem F_ok38 : tyOk Try.prog 38 = true := by kernel_rfl
theorem F_ag38 : aggT Try.prog 38 = false := by kernel_rfl
theorem F_sz38 : szT Try.prog 38 = 1 := by kernel_rfl
theorem F_go56 : goFn Try.prog 56 := ⟨_, Try.func56, rfl, rfl⟩
theorem F_go59 : goFn Try.prog 59 := ⟨_, Try.func59, rfl, rfl⟩
theorem F_go62 : goFn Try.prog 62 := ⟨_, Try.func62, rfl, rfl⟩
theorem F_go82 : goFn Try.prog 82 := ⟨_, Try.func82, rfl, rfl⟩
theorem F_ok40 : tyOk Try.prog 40 = true := by kernel_rfl
theorem F_ag40 : aggT Try.prog 40 = true := by kernel_rfl
theorem F_sz40 : szT Try.prog 40 = 3 := by kernel_rfl
theorem F_off25_0 : offT Try.prog 25 0 = some 0 := by kernel_rfl
theorem F_off23_1 : offT Try.prog 23 1 = some 1 := by kernel_rfl
theorem F_go69 : goFn Try.prog 69 := ⟨_, Try.func69, rfl, rfl⟩
theorem F_go10 : goFn Try.prog 10 := ⟨_, Try.func10, rfl, rfl⟩
theorem inR_ (n lo hi : Int) : ACalls Try.prog 80 [iv n, iv lo, iv hi] [] (bv (inR n lo hi)) := by
  refine acalls_S (rs := [.tmp 6]) Try.func80 rfl rfl 15 [(0, .d (iv n)), (1, .d (iv lo)), (2, .d (iv hi))] rfl (by simp) rfl ?_
  refine awp_seq fun K0 hK0 => ?_
  refine awp_plain F_mixed [some 6] rfl ?_
  simp only [zzK, Nat.reduceLT, Nat.reduceLeDiff, Nat.reduceBEq, evS_assign, zz6, Nat.reduceEqDiff, ↓reduceIte]
  refine hK0 _ ?_; try clear hK0 K0
  refine awp_keepL [0, 1, 2] ?_
  simp only [zzJ, Nat.reduceBEq]
  refine awp_seq fun K0 hK0 => ?_
  refine awp_plain F_mixed [some 7, some 8, some 9, some 10, some 11, some 12, some 13, some 14, some 6] rfl ?_
  simp only [zzK, Nat.reduceLT, Nat.reduceLeDiff, Nat.reduceBEq, Nat.reduceSub, S_getD, zz5, and_imp, imp_and, imp_self, and_self, evS_move, zz21, gr_v, zz31, b_leq, pure_leq, zz13, pickK_l, pickK_r, evS_assign, zz6, Nat.reduceEqDiff, ↓reduceIte]
  refine hK0 _ ?_; try clear hK0 K0
  refine awp_keepL [6] ?_
  simp only [zzJ, Nat.reduceBEq]
  refine awp_ret ?_
  simp only [zz6, Nat.reduceEqDiff, ↓reduceIte]
  refine done0 (by simp only [resCs, resC]; trivial) ?_ (by simp [flatA, flatAs, flatD]) (by simp [AV.ids, AV.idsL])
  simp only [List.map_cons, List.map_nil, resA, S_getD, Nat.reduceLT, Nat.reduceLeDiff, look_cons, Nat.reduceBEq, cond_true, cond_false, resAll]
  rfl
theorem noMem_ (m : MemV) : ACalls Try.prog 57 [.agg (memC m)] [] (.d (iv m.no)) := by
  refine acalls_S (rs := [.tmp 2]) Try.func57 rfl rfl 5 [(0, .d (.agg (memC m)))] rfl (by simp) rfl ?_
  refine awp_seq fun K0 hK0 => ?_
  refine awp_plain F_mixed [some 1, some 2] rfl ?_
  simp only [zzK, Nat.reduceLT, Nat.reduceLeDiff, Nat.reduceBEq, zz35, newRow1, zz1, zzG, zzD, zzC, Option.map_some, yyE, reduceCtorEq, Nat.reduceAdd, Nat.zero_add, zzH, evS_assign, memC, zz6, Nat.reduceEqDiff, ↓reduceIte]
  refine hK0 _ ?_; try clear hK0 K0
  refine awp_keepL [1] ?_
  simp only [zzJ, Nat.reduceBEq]
  refine awp_seq fun K0 hK0 => ?_
  refine awp_plain F_mixed [some 3, some 4, some 2] rfl ?_
  simp only [zzK, Nat.reduceLT, Nat.reduceLeDiff, Nat.reduceBEq, zz19, zz23, F_off107_0, zzH, Nat.zero_add, Nat.reduceAdd, F_ok3, F_ag3, F_sz3, zz8, zzD, zzC, Option.map_some, yyE, reduceCtorEq, evS_assign, zz6, Nat.reduceEqDiff, ↓reduceIte]
  refine hK0 _ ?_; try clear hK0 K0
  refine awp_keepL [2] ?_
  simp only [zzJ, Nat.reduceBEq]
  refine awp_ret ?_
  simp only [zz6, Nat.reduceEqDiff, ↓reduceIte]
  refine done0 (by simp only [resCs, resC]; trivial) ?_ (by simp [flatA, flatAs, flatD]) (by simp [AV.ids, AV.idsL])
  simp only [List.map_cons, List.map_nil, resA, S_getD, Nat.reduceLT, Nat.reduceLeDiff, look_cons, Nat.reduceBEq, cond_true, cond_false, resAll]
  
theorem noInst_ (m : InstV) : ACalls Try.prog 60 [.agg (instC m)] [] (.d (iv m.no)) := by
  refine acalls_S (rs := [.tmp 2]) Try.func60 rfl rfl 5 [(0, .d (.agg (instC m)))] rfl (by simp) rfl ?_
  refine awp_seq fun K0 hK0 => ?_
  refine awp_plain F_mixed [some 1, some 2] rfl ?_
  simp only [zzK, Nat.reduceLT, Nat.reduceLeDiff, Nat.reduceBEq, zz35, newRow1, zz1, zzG, zzD, zzC, Option.map_some, yyE, reduceCtorEq, Nat.reduceAdd, Nat.zero_add, zzH, evS_assign, instC, zz6, Nat.reduceEqDiff, ↓reduceIte]
  refine hK0 _ ?_; try clear hK0 K0
  refine awp_keepL [1] ?_
  simp only [zzJ, Nat.reduceBEq]
  refine awp_seq fun K0 hK0 => ?_
  refine awp_plain F_mixed [some 3, some 4, some 2] rfl ?_
  simp only [zzK, Nat.reduceLT, Nat.reduceLeDiff, Nat.reduceBEq, zz19, zz23, F_off33_0, zzH, Nat.zero_add, Nat.reduceAdd, F_ok3, F_ag3, F_sz3, zz8, zzD, zzC, Option.map_some, yyE, reduceCtorEq, evS_assign, zz6, Nat.reduceEqDiff, ↓reduceIte]
  refine hK0 _ ?_; try clear hK0 K0
  refine awp_keepL [2] ?_
  simp only [zzJ, Nat.reduceBEq]
  refine awp_ret ?_
  simp only [zz6, Nat.reduceEqDiff, ↓reduceIte]
  refine done0 (by simp only [resCs, resC]; trivial) ?_ (by simp [flatA, flatAs, flatD]) (by simp [AV.ids, AV.idsL])
  simp only [List.map_cons, List.map_nil, resA, S_getD, Nat.reduceLT, Nat.reduceLeDiff, look_cons, Nat.reduceBEq, cond_true, cond_false, resAll]
  
theorem noAsset_ (m : AssetV) : ACalls Try.prog 63 [.agg (assetC m)] [] (.d (iv m.no)) := by
  refine acalls_S (rs := [.tmp 2]) Try.func63 rfl rfl 5 [(0, .d (.agg (assetC m)))] rfl (by simp) rfl ?_
  refine awp_seq fun K0 hK0 => ?_
  refine awp_plain F_mixed [some 1, some 2] rfl ?_
  simp only [zzK, Nat.reduceLT, Nat.reduceLeDiff, Nat.reduceBEq, zz35, newRow1, zz1, zzG, zzD, zzC, Option.map_some, yyE, reduceCtorEq, Nat.reduceAdd, Nat.zero_add, zzH, evS_assign, assetC, zz6, Nat.reduceEqDiff, ↓reduceIte]
  refine hK0 _ ?_; try clear hK0 K0
  refine awp_keepL [1] ?_
  simp only [zzJ, Nat.reduceBEq]
  refine awp_seq fun K0 hK0 => ?_
  refine awp_plain F_mixed [some 3, some 4, some 2] rfl ?_
  simp only [zzK, Nat.reduceLT, Nat.reduceLeDiff, Nat.reduceBEq, zz19, zz23, F_off115_0, zzH, Nat.zero_add, Nat.reduceAdd, F_ok3, F_ag3, F_sz3, zz8, zzD, zzC, Option.map_some, yyE, reduceCtorEq, evS_assign, zz6, Nat.reduceEqDiff, ↓reduceIte]
  refine hK0 _ ?_; try clear hK0 K0
  refine awp_keepL [2] ?_
  simp only [zzJ, Nat.reduceBEq]
  refine awp_ret ?_
  simp only [zz6, Nat.reduceEqDiff, ↓reduceIte]
  refine done0 (by simp only [resCs, resC]; trivial) ?_ (by simp [flatA, flatAs, flatD]) (by simp [AV.ids, AV.idsL])
  simp only [List.map_cons, List.map_nil, resA, S_getD, Nat.reduceLT, Nat.reduceLeDiff, look_cons, Nat.reduceBEq, cond_true, cond_false, resAll]
  
theorem memOk_ (m : MemV) : ACalls Try.prog 58 [.agg (memC m)] [] (bv (memOk m)) := by
  refine acalls_S (rs := [.tmp 2]) Try.func58 rfl rfl 22 [(0, .d (.agg (memC m)))] rfl (by simp) rfl ?_
  refine awp_seq fun K0 hK0 => ?_
  refine awp_plain F_mixed [some 1, some 2] rfl ?_
  simp only [zzK, Nat.reduceLT, Nat.reduceLeDiff, Nat.reduceBEq, zz35, newRow1, zz1, zzG, zzD, zzC, Option.map_some, yyE, reduceCtorEq, Nat.reduceAdd, Nat.zero_add, zzH, evS_assign, memC, zz6, Nat.reduceEqDiff, ↓reduceIte]
  refine hK0 _ ?_; try clear hK0 K0
  refine awp_keepL [1] ?_
  simp only [zzJ, Nat.reduceBEq]
  refine awp_seq fun K0 hK0 => ?_
  refine awp_plain F_mixed [some 3, some 4, some 5, some 6, some 7, some 8, some 9, some 10, some 11, some 12, some 13, some 14, some 15, some 16, some 17, some 18, some 19, some 20, some 21, some 2] rfl ?_
  simp only [zzK, Nat.reduceLT, Nat.reduceLeDiff, Nat.reduceBEq, Nat.reduceSub, S_getD, zz5, and_imp, imp_and, imp_self, zz19, zz23, F_off107_0, zzH, Nat.zero_add, Nat.reduceAdd, F_ok3, F_ag3, F_sz3, zz8, zzD, zzC, Option.map_some, yyE, reduceCtorEq, evS_call, evC_value, evS_move, F_off107_1, zz13, pickK_l, pickK_r, F_off107_2, F_sl103, F_zero3, zz3, newRow1, zz1, zzG, maxLen_le, Nat.reduceMul, zz21, gr_v, zz31, evS_assign, ints, List.map_cons, zz6, Nat.reduceEqDiff, ↓reduceIte]
  refine call_go F_go80 (fun hG => inR_ m.no 1 16) (by simp [AV.ids, AV.idsL]) (by simp) ?_
  simp only [zzK, Nat.reduceLT, Nat.reduceLeDiff, Nat.reduceBEq, Nat.reduceSub, S_getD, zz5, and_imp, imp_and, imp_self, zz19, zz23, F_off107_0, zzH, Nat.zero_add, Nat.reduceAdd, F_ok3, F_ag3, F_sz3, zz8, zzD, zzC, Option.map_some, yyE, reduceCtorEq, evS_call, evC_value, evS_move, F_off107_1, zz13, pickK_l, pickK_r, F_off107_2, F_sl103, F_zero3, zz3, newRow1, zz1, zzG, maxLen_le, Nat.reduceMul, zz21, gr_v, zz31, evS_assign, ints, List.map_cons, zz6, Nat.reduceEqDiff, ↓reduceIte, atsL, oksG, freeN, AV.ren, AV.renL, addRows, ORow.row, Nat.reduceMul, Nat.reduceAdd, zz9, Option.bind_some, Option.map_some, S_mem, yyF, List.length_cons, zz2]
  refine call_go F_go80 (fun hG => inR_ m.state 1 3) (by simp [AV.ids, AV.idsL]) (by simp) ?_
  simp only [zzK, Nat.reduceLT, Nat.reduceLeDiff, Nat.reduceBEq, Nat.reduceSub, S_getD, zz5, and_imp, imp_and, imp_self, zz19, zz23, F_off107_0, zzH, Nat.zero_add, Nat.reduceAdd, F_ok3, F_ag3, F_sz3, zz8, zzD, zzC, Option.map_some, yyE, reduceCtorEq, evS_call, evC_value, evS_move, F_off107_1, zz13, pickK_l, pickK_r, F_off107_2, F_sl103, F_zero3, zz3, newRow1, zz1, zzG, maxLen_le, Nat.reduceMul, zz21, gr_v, zz31, evS_assign, ints, List.map_cons, zz6, Nat.reduceEqDiff, ↓reduceIte, atsL, oksG, freeN, AV.ren, AV.renL, addRows, ORow.row, Nat.reduceMul, Nat.reduceAdd, zz9, Option.bind_some, Option.map_some, S_mem, yyF, List.length_cons, zz2]
  refine call_go F_go29 (fun hG => Right_ [m.need] (by simp)) (by simp [AV.ids, AV.idsL]) (by simp) ?_
  simp only [zzK, Nat.reduceLT, Nat.reduceLeDiff, Nat.reduceBEq, Nat.reduceSub, S_getD, zz5, and_imp, imp_and, imp_self, zz19, zz23, F_off107_0, zzH, Nat.zero_add, Nat.reduceAdd, F_ok3, F_ag3, F_sz3, zz8, zzD, zzC, Option.map_some, yyE, reduceCtorEq, evS_call, evC_value, evS_move, F_off107_1, zz13, pickK_l, pickK_r, F_off107_2, F_sl103, F_zero3, zz3, newRow1, zz1, zzG, maxLen_le, Nat.reduceMul, zz21, gr_v, zz31, evS_assign, ints, List.map_cons, zz6, Nat.reduceEqDiff, ↓reduceIte, atsL, oksG, freeN, AV.ren, AV.renL, addRows, ORow.row, Nat.reduceMul, Nat.reduceAdd, zz9, Option.bind_some, Option.map_some, S_mem, yyF, List.length_cons, zz2]
  refine hK0 _ ?_; try clear hK0 K0
  refine awp_keepL [2] ?_
  simp only [zzJ, Nat.reduceBEq]
  refine awp_ret ?_
  simp only [zz6, Nat.reduceEqDiff, ↓reduceIte]
  refine done0 (by simp only [resCs, resC]; trivial) ?_ (by simp [flatA, flatAs, flatD]) (by simp [AV.ids, AV.idsL])
  simp only [List.map_cons, List.map_nil, resA, S_getD, Nat.reduceLT, Nat.reduceLeDiff, look_cons, Nat.reduceBEq, cond_true, cond_false, resAll]
  rfl
theorem assetOk_ (m : AssetV) : ACalls Try.prog 64 [.agg (assetC m)] [] (bv (assetOk m)) := by
  refine acalls_S (rs := [.tmp 2]) Try.func64 rfl rfl 21 [(0, .d (.agg (assetC m)))] rfl (by simp) rfl ?_
  refine awp_seq fun K0 hK0 => ?_
  refine awp_plain F_mixed [some 1, some 2] rfl ?_
  simp only [zzK, Nat.reduceLT, Nat.reduceLeDiff, Nat.reduceBEq, zz35, newRow1, zz1, zzG, zzD, zzC, Option.map_some, yyE, reduceCtorEq, Nat.reduceAdd, Nat.zero_add, zzH, evS_assign, assetC, zz6, Nat.reduceEqDiff, ↓reduceIte]
  refine hK0 _ ?_; try clear hK0 K0
  refine awp_keepL [1] ?_
  simp only [zzJ, Nat.reduceBEq]
  refine awp_seq fun K0 hK0 => ?_
  refine awp_plain F_mixed [some 3, some 4, some 5, some 6, some 7, some 8, some 9, some 10, some 11, some 12, some 13, some 14, some 15, some 16, some 17, some 18, some 19, some 20, some 2] rfl ?_
  simp only [zzK, Nat.reduceLT, Nat.reduceLeDiff, Nat.reduceBEq, Nat.reduceSub, S_getD, zz5, and_imp, imp_and, imp_self, zz19, zz23, F_off115_0, zzH, Nat.zero_add, Nat.reduceAdd, F_ok3, F_ag3, F_sz3, zz8, zzD, zzC, Option.map_some, yyE, reduceCtorEq, evS_call, evC_value, evS_move, F_off115_1, zz13, pickK_l, pickK_r, F_off115_2, F_off115_3, evS_assign, zz6, Nat.reduceEqDiff, ↓reduceIte]
  refine call_go F_go80 (fun hG => inR_ m.no 1 6) (by simp [AV.ids, AV.idsL]) (by simp) ?_
  simp only [zzK, Nat.reduceLT, Nat.reduceLeDiff, Nat.reduceBEq, Nat.reduceSub, S_getD, zz5, and_imp, imp_and, imp_self, zz19, zz23, F_off115_0, zzH, Nat.zero_add, Nat.reduceAdd, F_ok3, F_ag3, F_sz3, zz8, zzD, zzC, Option.map_some, yyE, reduceCtorEq, evS_call, evC_value, evS_move, F_off115_1, zz13, pickK_l, pickK_r, F_off115_2, F_off115_3, evS_assign, zz6, Nat.reduceEqDiff, ↓reduceIte, atsL, oksG, freeN, AV.ren, AV.renL, addRows, ORow.row, Nat.reduceMul, Nat.reduceAdd, zz9, Option.bind_some, Option.map_some, S_mem, yyF, List.length_cons, zz2]
  refine call_go F_go80 (fun hG => inR_ m.cur 0 2) (by simp [AV.ids, AV.idsL]) (by simp) ?_
  simp only [zzK, Nat.reduceLT, Nat.reduceLeDiff, Nat.reduceBEq, Nat.reduceSub, S_getD, zz5, and_imp, imp_and, imp_self, zz19, zz23, F_off115_0, zzH, Nat.zero_add, Nat.reduceAdd, F_ok3, F_ag3, F_sz3, zz8, zzD, zzC, Option.map_some, yyE, reduceCtorEq, evS_call, evC_value, evS_move, F_off115_1, zz13, pickK_l, pickK_r, F_off115_2, F_off115_3, evS_assign, zz6, Nat.reduceEqDiff, ↓reduceIte, atsL, oksG, freeN, AV.ren, AV.renL, addRows, ORow.row, Nat.reduceMul, Nat.reduceAdd, zz9, Option.bind_some, Option.map_some, S_mem, yyF, List.length_cons, zz2]
  refine call_go F_go80 (fun hG => inR_ m.price 1 1073741824) (by simp [AV.ids, AV.idsL]) (by simp) ?_
  simp only [zzK, Nat.reduceLT, Nat.reduceLeDiff, Nat.reduceBEq, Nat.reduceSub, S_getD, zz5, and_imp, imp_and, imp_self, zz19, zz23, F_off115_0, zzH, Nat.zero_add, Nat.reduceAdd, F_ok3, F_ag3, F_sz3, zz8, zzD, zzC, Option.map_some, yyE, reduceCtorEq, evS_call, evC_value, evS_move, F_off115_1, zz13, pickK_l, pickK_r, F_off115_2, F_off115_3, evS_assign, zz6, Nat.reduceEqDiff, ↓reduceIte, atsL, oksG, freeN, AV.ren, AV.renL, addRows, ORow.row, Nat.reduceMul, Nat.reduceAdd, zz9, Option.bind_some, Option.map_some, S_mem, yyF, List.length_cons, zz2]
  refine call_go F_go80 (fun hG => inR_ m.cut 0 10000) (by simp [AV.ids, AV.idsL]) (by simp) ?_
  simp only [zzK, Nat.reduceLT, Nat.reduceLeDiff, Nat.reduceBEq, Nat.reduceSub, S_getD, zz5, and_imp, imp_and, imp_self, zz19, zz23, F_off115_0, zzH, Nat.zero_add, Nat.reduceAdd, F_ok3, F_ag3, F_sz3, zz8, zzD, zzC, Option.map_some, yyE, reduceCtorEq, evS_call, evC_value, evS_move, F_off115_1, zz13, pickK_l, pickK_r, F_off115_2, F_off115_3, evS_assign, zz6, Nat.reduceEqDiff, ↓reduceIte, atsL, oksG, freeN, AV.ren, AV.renL, addRows, ORow.row, Nat.reduceMul, Nat.reduceAdd, zz9, Option.bind_some, Option.map_some, S_mem, yyF, List.length_cons, zz2]
  refine hK0 _ ?_; try clear hK0 K0
  refine awp_keepL [2] ?_
  simp only [zzJ, Nat.reduceBEq]
  refine awp_ret ?_
  simp only [zz6, Nat.reduceEqDiff, ↓reduceIte]
  refine done0 (by simp only [resCs, resC]; trivial) ?_ (by simp [flatA, flatAs, flatD]) (by simp [AV.ids, AV.idsL])
  simp only [List.map_cons, List.map_nil, resA, S_getD, Nat.reduceLT, Nat.reduceLeDiff, look_cons, Nat.reduceBEq, cond_true, cond_false, resAll]
  rfl
theorem risesM_ (l : List MemV) (hl : l.length < 4611686018427387904) : ACalls Try.prog 56 [memsD l, fnD 57, fnD 58] [] (bv (chk memOk MemV.no none l)) := by
  refine acalls_S (rs := [.tmp 6]) Try.func56 rfl rfl 38 [(0, .d (memsD l)), (1, .d (fnD 57)), (2, .d (fnD 58))] rfl (by simp) rfl ?_
  refine awp_seq fun K0 hK0 => ?_
  refine awp_plain F_mixed [some 6] rfl ?_
  simp only [zzK, Nat.reduceLT, Nat.reduceLeDiff, Nat.reduceBEq, evS_assign, zz6, Nat.reduceEqDiff, ↓reduceIte]
  refine hK0 _ ?_; try clear hK0 K0
  refine awp_keepL [0, 1, 2] ?_
  simp only [zzJ, Nat.reduceBEq]
  refine awp_seq fun K0 hK0 => ?_
  refine awp_seq fun K1 hK1 => ?_
  refine awp_plain F_mixed [some 9, some 10, some 11] rfl ?_
  simp only [zzK, Nat.reduceLT, Nat.reduceLeDiff, Nat.reduceBEq, evS_move, evS_call, zz12, F_sl36, Option.isSome_some, memsD, len_map, zz6, Nat.reduceEqDiff, ↓reduceIte]
  refine hK1 _ ?_; try clear hK1 K1
  refine awp_keepL [0, 1, 2, 9, 10, 11] ?_
  simp only [zzJ, Nat.reduceBEq]
  refine awp_block ?_
  refine awp_loop (fun m s => ∃ pre post : List MemV, l = pre ++ post ∧ chk memOk MemV.no none l = chk memOk MemV.no pre.getLast? post ∧ m = post.length ∧ s = S 38 [(0, .d (memsD l)), (1, .d (fnD 57)), (2, .d (fnD 58)), (9, .d (memsD l)), (10, .d (iv l.length)), (11, .d (iv pre.length))] []) l.length _ (le_S0 (l' := [(0, .d (memsD l)), (1, .d (fnD 57)), (2, .d (fnD 58)), (9, .d (memsD l)), (10, .d (iv l.length)), (11, .d (iv ([] : List MemV).length))]) ?_ ?_) ⟨[], l, rfl, rfl, rfl, rfl⟩ ?_
  · simp only [leL, look_cons, Nat.reduceBEq, cond_true, cond_false, memsD, len_map, List.length_nil]; trivial
  · simp [wfV, AV.ids]
  rintro m s ⟨pre, post, rfl, hck, rfl, rfl⟩
  refine awp_seq fun K2 hK2 => ?_
  refine awp_plain F_mixed [some 12] rfl ?_
  simp only [zzK, Nat.reduceLT, Nat.reduceLeDiff, Nat.reduceBEq, zz21, gr_v, zz22, zz6, Nat.reduceEqDiff, ↓reduceIte]
  refine hK2 _ ?_; try clear hK2 K2
  refine awp_keepL [0, 1, 2, 9, 10, 11, 12] ?_
  simp only [zzJ, Nat.reduceBEq]
  refine awp_seq fun K2 hK2 => ?_
  refine awp_condS _ (by decide) (by simp only [look_cons, Nat.reduceBEq, cond_true, cond_false]; rfl) ?_ ?_
  · intro hb
    obtain ⟨x, post, rfl⟩ := more_of hb; clear hb
    have hp : pre.length < 4611686018427387904 := by simp at hl; omega
    have hpg := prev_get memC pre post x [] hp
    refine awp_skip ?_
    simp only [zz6, Nat.reduceEqDiff, ↓reduceIte]
    refine hK2 _ ?_; try clear hK2 K2
    refine awp_keepL [0, 1, 2, 9, 10, 11] ?_
    simp only [zzJ, Nat.reduceBEq]
    refine awp_seq fun K2 hK2 => ?_
    refine awp_block ?_
    refine awp_seq fun K3 hK3 => ?_
    refine awp_plain F_mixed [some 13, some 14, some 15, some 8, some 7, none] rfl ?_
    simp only [zzK, Nat.reduceLT, Nat.reduceLeDiff, Nat.reduceBEq, evS_move, evS_indexAddr, zz23, zz24, F_sl36, F_sz107, Option.map_some, zzC, yyE, reduceCtorEq, F_ok107, F_ag107, zz8, zzD, Nat.reduceAdd, Nat.zero_add, zzH, zz32, newRow1, F_zero107, zz10, evS_assign, zz18, splice, List.append_nil, zz1, zzG, memsD, memC, getD_mid, len_map, lt_mid, ge_mid, zz6, Nat.reduceEqDiff, ↓reduceIte]
    refine hK3 _ ?_; try clear hK3 K3
    refine awp_keepL [0, 1, 2, 7, 8, 9, 10, 11] ?_
    simp only [zzJ, Nat.reduceBEq]
    refine awp_seq fun K3 hK3 => ?_
    refine awp_draw F_mixed [some 16, some 17, some 18, some 19, some 20, some 21, some 22, some 23, some 24, some 25, some 26, some 27, some 28, some 29, some 30, some 31, some 32, some 33, some 34, some 35, some 36] rfl (by kernel_rfl) ?_
    simp only [zzK, Nat.reduceLT, Nat.reduceLeDiff, Nat.reduceBEq, Nat.reduceSub, S_getD, zz5, and_imp, imp_and, imp_self, evS_move, F_ok107, F_ag107, F_sz107, zz8, zz23, zzD, Nat.reduceAdd, Nat.zero_add, zzH, zzC, Option.map_some, yyE, reduceCtorEq, evS_call, evC_value, zz29, gr_v, zz30, zz21, zz25, zz33, evS_indexAddr, zz24, F_sl36, zz31, zz13, pickK_l, pickK_r, fnD, memsD, memC, len_map, hpg, D.agg.injEq, zz6, Nat.reduceEqDiff, ↓reduceIte]
    refine call_goT ?_ ?_ F_go58 (fun hG => memOk_ x) (by simp [AV.ids, AV.idsL]) (by simp) ?_
    · decide
    · simp only [look_cons, Nat.reduceBEq, cond_true, cond_false, bare_d, bare_wh, fnD]
    simp only [zzK, Nat.reduceLT, Nat.reduceLeDiff, Nat.reduceBEq, Nat.reduceSub, S_getD, zz5, and_imp, imp_and, imp_self, evS_move, F_ok107, F_ag107, F_sz107, zz8, zz23, zzD, Nat.reduceAdd, Nat.zero_add, zzH, zzC, Option.map_some, yyE, reduceCtorEq, evS_call, evC_value, zz29, gr_v, zz30, zz21, zz25, zz33, evS_indexAddr, zz24, F_sl36, zz31, zz13, pickK_l, pickK_r, fnD, memsD, memC, len_map, hpg, D.agg.injEq, zz6, Nat.reduceEqDiff, ↓reduceIte, Nat.reduceSub, S_getD, Gp_some, and_imp, imp_and, imp_self, atsL, oksG, freeN, AV.ren, AV.renL, addRows, ORow.row, Nat.reduceMul, Nat.reduceAdd, zz9, Option.bind_some, Option.map_some, S_mem, yyF, List.length_cons, zz2]
    refine ⟨⟨fun _ hp2 => prev_ok pre hp hp2, fun _ _ => prev_lt pre post x hp⟩, ?_⟩
    refine call_goT ?_ ?_ F_go57 (fun hG => noMem_ (lastOr x pre)) (by simp [AV.ids, AV.idsL]) (by simp) ?_
    · decide
    · simp only [look_cons, Nat.reduceBEq, cond_true, cond_false, bare_d, bare_wh, fnD]
    simp only [zzK, Nat.reduceLT, Nat.reduceLeDiff, Nat.reduceBEq, Nat.reduceSub, S_getD, zz5, and_imp, imp_and, imp_self, evS_move, F_ok107, F_ag107, F_sz107, zz8, zz23, zzD, Nat.reduceAdd, Nat.zero_add, zzH, zzC, Option.map_some, yyE, reduceCtorEq, evS_call, evC_value, zz29, gr_v, zz30, zz21, zz25, zz33, evS_indexAddr, zz24, F_sl36, zz31, zz13, pickK_l, pickK_r, fnD, memsD, memC, len_map, hpg, D.agg.injEq, zz6, Nat.reduceEqDiff, ↓reduceIte, Nat.reduceSub, S_getD, Gp_some, and_imp, imp_and, imp_self, atsL, oksG, freeN, AV.ren, AV.renL, addRows, ORow.row, Nat.reduceMul, Nat.reduceAdd, zz9, Option.bind_some, Option.map_some, S_mem, yyF, List.length_cons, zz2]
    refine call_goT ?_ ?_ F_go57 (fun hG => noMem_ x) (by simp [AV.ids, AV.idsL]) (by simp) ?_
    · decide
    · simp only [look_cons, Nat.reduceBEq, cond_true, cond_false, bare_d, bare_wh, fnD]
    simp only [zzK, Nat.reduceLT, Nat.reduceLeDiff, Nat.reduceBEq, Nat.reduceSub, S_getD, zz5, and_imp, imp_and, imp_self, evS_move, F_ok107, F_ag107, F_sz107, zz8, zz23, zzD, Nat.reduceAdd, Nat.zero_add, zzH, zzC, Option.map_some, yyE, reduceCtorEq, evS_call, evC_value, zz29, gr_v, zz30, zz21, zz25, zz33, evS_indexAddr, zz24, F_sl36, zz31, zz13, pickK_l, pickK_r, fnD, memsD, memC, len_map, hpg, D.agg.injEq, zz6, Nat.reduceEqDiff, ↓reduceIte, Nat.reduceSub, S_getD, Gp_some, and_imp, imp_and, imp_self, atsL, oksG, freeN, AV.ren, AV.renL, addRows, ORow.row, Nat.reduceMul, Nat.reduceAdd, zz9, Option.bind_some, Option.map_some, S_mem, yyF, List.length_cons, zz2]
    refine hK3 _ ?_; try clear hK3 K3
    refine awp_keepL [0, 1, 2, 9, 10, 11, 36] ?_
    simp only [zzJ, Nat.reduceBEq]
    refine awp_condS _ (by decide) (by simp only [look_cons, Nat.reduceBEq, cond_true, cond_false]; rfl) ?_ ?_
    · intro hb
      refine awp_seq fun K4 hK4 => ?_
      refine awp_plain F_mixed [some 6] rfl ?_
      simp only [zzK, Nat.reduceLT, Nat.reduceLeDiff, Nat.reduceBEq, evS_assign, zz6, Nat.reduceEqDiff, ↓reduceIte]
      refine hK4 _ ?_; try clear hK4 K4
      refine awp_keepL [6] ?_
      simp only [zzJ, Nat.reduceBEq]
      refine awp_ret ?_
      simp only [zz6, Nat.reduceEqDiff, ↓reduceIte]
      refine done0 (by simp only [resCs, resC]; trivial) ?_ (by simp [flatA, flatAs, flatD]) (by simp [AV.ids, AV.idsL])
      simp only [List.map_cons, List.map_nil, resA, S_getD, Nat.reduceLT, Nat.reduceLeDiff, look_cons, Nat.reduceBEq, cond_true, cond_false, resAll]
      rw [hck, chk_step, hb]; simp
    · intro hb
      refine awp_skip ?_
      simp only [zz6, Nat.reduceEqDiff, ↓reduceIte]
      refine hK2 _ ?_; try clear hK2 K2
      refine awp_keepL [0, 1, 2, 9, 10, 11] ?_
      simp only [zzJ, Nat.reduceBEq]
      refine awp_plain F_mixed [some 37, some 11] rfl ?_
      simp only [zzK, Nat.reduceLT, Nat.reduceLeDiff, Nat.reduceBEq, zz21, gr_v, zz26, evS_move, zz6, Nat.reduceEqDiff, ↓reduceIte]
      refine ⟨post.length, _, by simp, le_S0 (l' := [(0, .d (memsD (pre ++ x :: post))), (1, .d (fnD 57)), (2, .d (fnD 58)), (9, .d (memsD (pre ++ x :: post))), (10, .d (iv (pre ++ x :: post).length)), (11, .d (iv (pre ++ [x]).length))]) ?_ ?_, pre ++ [x], post, by simp, by rw [hck, chk_step, hb]; simp, rfl, rfl⟩
      · simp only [leL, look_cons, Nat.reduceBEq, cond_true, cond_false, wrap_len pre x (by simp at hl; omega), memsD, fnD]; trivial
      · simp [wfV, AV.ids]
  · intro hb
    obtain rfl := none_of hb; clear hb
    refine awp_exit ?_
    simp only [zz6, Nat.reduceEqDiff, ↓reduceIte]
    refine hK0 _ ?_; try clear hK0 K0
    refine awp_keepL [] ?_
    simp only [zzJ, Nat.reduceBEq]
    refine awp_seq fun K0 hK0 => ?_
    refine awp_plain F_mixed [some 6] rfl ?_
    simp only [zzK, Nat.reduceLT, Nat.reduceLeDiff, Nat.reduceBEq, evS_assign, zz6, Nat.reduceEqDiff, ↓reduceIte]
    refine hK0 _ ?_; try clear hK0 K0
    refine awp_keepL [6] ?_
    simp only [zzJ, Nat.reduceBEq]
    refine awp_ret ?_
    simp only [zz6, Nat.reduceEqDiff, ↓reduceIte]
    refine done0 (by simp only [resCs, resC]; trivial) ?_ (by simp [flatA, flatAs, flatD]) (by simp [AV.ids, AV.idsL])
    simp only [List.map_cons, List.map_nil, resA, S_getD, Nat.reduceLT, Nat.reduceLeDiff, look_cons, Nat.reduceBEq, cond_true, cond_false, resAll]
    rw [hck]; rfl
theorem instOk_ (i : InstV) : ACalls Try.prog 61 [.agg (instC i)] [] (bv (instOk i)) := by
  refine acalls_S (rs := [.tmp 2]) Try.func61 rfl rfl 42 [(0, .d (.agg (instC i)))] rfl (by simp) rfl ?_
  refine awp_seq fun K0 hK0 => ?_
  refine awp_plain F_mixed [some 1, some 2] rfl ?_
  simp only [zzK, Nat.reduceLT, Nat.reduceLeDiff, Nat.reduceBEq, zz35, newRow1, zz1, zzG, zzD, zzC, Option.map_some, yyE, reduceCtorEq, Nat.reduceAdd, Nat.zero_add, zzH, evS_assign, instC, zz6, Nat.reduceEqDiff, ↓reduceIte]
  refine hK0 _ ?_; try clear hK0 K0
  refine awp_keepL [1] ?_
  simp only [zzJ, Nat.reduceBEq]
  refine awp_seq fun K0 hK0 => ?_
  refine awp_seq fun K1 hK1 => ?_
  refine awp_plain F_mixed [some 5, some 6, some 7] rfl ?_
  simp only [zzK, Nat.reduceLT, Nat.reduceLeDiff, Nat.reduceBEq, zz19, zz23, F_off33_6, zzH, Nat.zero_add, Nat.reduceAdd, F_ok31, F_ag31, F_sz31, zz8, zzD, zzC, Option.map_some, yyE, reduceCtorEq, evS_move, zz6, Nat.reduceEqDiff, ↓reduceIte]
  refine hK1 _ ?_; try clear hK1 K1
  refine awp_keepL [1, 6, 7] ?_
  simp only [zzJ, Nat.reduceBEq]
  refine awp_block ?_
  refine awp_loop (fun m s => (m = 6 ∧ s = S 42 [(1, .ptr 1 0 0), (6, .ag [.d (iv i.s0), .d (iv i.s1), .d (iv i.s2), .d (iv i.s3), .d (iv i.s4), .d (iv i.s5)]), (7, .d (iv 0))] [(1, (⟨True, 33, 12, true, false, 1, [[.d (iv i.no), .d (iv i.cur), .d (iv i.mult), .d (iv i.add), .d (iv i.set), .d (iv i.price), .d (iv i.s0), .d (iv i.s1), .d (iv i.s2), .d (iv i.s3), .d (iv i.s4), .d (iv i.s5)]]⟩ : ARow))]) ∨ (m = 5 ∧ shOk i.s0 = true ∧ s = S 42 [(1, .ptr 1 0 0), (6, .ag [.d (iv i.s0), .d (iv i.s1), .d (iv i.s2), .d (iv i.s3), .d (iv i.s4), .d (iv i.s5)]), (7, .d (iv 1))] [(1, (⟨True, 33, 12, true, false, 1, [[.d (iv i.no), .d (iv i.cur), .d (iv i.mult), .d (iv i.add), .d (iv i.set), .d (iv i.price), .d (iv i.s0), .d (iv i.s1), .d (iv i.s2), .d (iv i.s3), .d (iv i.s4), .d (iv i.s5)]]⟩ : ARow))]) ∨ (m = 4 ∧ shOk i.s0 = true ∧ shOk i.s1 = true ∧ s = S 42 [(1, .ptr 1 0 0), (6, .ag [.d (iv i.s0), .d (iv i.s1), .d (iv i.s2), .d (iv i.s3), .d (iv i.s4), .d (iv i.s5)]), (7, .d (iv 2))] [(1, (⟨True, 33, 12, true, false, 1, [[.d (iv i.no), .d (iv i.cur), .d (iv i.mult), .d (iv i.add), .d (iv i.set), .d (iv i.price), .d (iv i.s0), .d (iv i.s1), .d (iv i.s2), .d (iv i.s3), .d (iv i.s4), .d (iv i.s5)]]⟩ : ARow))]) ∨ (m = 3 ∧ shOk i.s0 = true ∧ shOk i.s1 = true ∧ shOk i.s2 = true ∧ s = S 42 [(1, .ptr 1 0 0), (6, .ag [.d (iv i.s0), .d (iv i.s1), .d (iv i.s2), .d (iv i.s3), .d (iv i.s4), .d (iv i.s5)]), (7, .d (iv 3))] [(1, (⟨True, 33, 12, true, false, 1, [[.d (iv i.no), .d (iv i.cur), .d (iv i.mult), .d (iv i.add), .d (iv i.set), .d (iv i.price), .d (iv i.s0), .d (iv i.s1), .d (iv i.s2), .d (iv i.s3), .d (iv i.s4), .d (iv i.s5)]]⟩ : ARow))]) ∨ (m = 2 ∧ shOk i.s0 = true ∧ shOk i.s1 = true ∧ shOk i.s2 = true ∧ shOk i.s3 = true ∧ s = S 42 [(1, .ptr 1 0 0), (6, .ag [.d (iv i.s0), .d (iv i.s1), .d (iv i.s2), .d (iv i.s3), .d (iv i.s4), .d (iv i.s5)]), (7, .d (iv 4))] [(1, (⟨True, 33, 12, true, false, 1, [[.d (iv i.no), .d (iv i.cur), .d (iv i.mult), .d (iv i.add), .d (iv i.set), .d (iv i.price), .d (iv i.s0), .d (iv i.s1), .d (iv i.s2), .d (iv i.s3), .d (iv i.s4), .d (iv i.s5)]]⟩ : ARow))]) ∨ (m = 1 ∧ shOk i.s0 = true ∧ shOk i.s1 = true ∧ shOk i.s2 = true ∧ shOk i.s3 = true ∧ shOk i.s4 = true ∧ s = S 42 [(1, .ptr 1 0 0), (6, .ag [.d (iv i.s0), .d (iv i.s1), .d (iv i.s2), .d (iv i.s3), .d (iv i.s4), .d (iv i.s5)]), (7, .d (iv 5))] [(1, (⟨True, 33, 12, true, false, 1, [[.d (iv i.no), .d (iv i.cur), .d (iv i.mult), .d (iv i.add), .d (iv i.set), .d (iv i.price), .d (iv i.s0), .d (iv i.s1), .d (iv i.s2), .d (iv i.s3), .d (iv i.s4), .d (iv i.s5)]]⟩ : ARow))]) ∨ (m = 0 ∧ shOk i.s0 = true ∧ shOk i.s1 = true ∧ shOk i.s2 = true ∧ shOk i.s3 = true ∧ shOk i.s4 = true ∧ shOk i.s5 = true ∧ s = S 42 [(1, .ptr 1 0 0), (6, .ag [.d (iv i.s0), .d (iv i.s1), .d (iv i.s2), .d (iv i.s3), .d (iv i.s4), .d (iv i.s5)]), (7, .d (iv 6))] [(1, (⟨True, 33, 12, true, false, 1, [[.d (iv i.no), .d (iv i.cur), .d (iv i.mult), .d (iv i.add), .d (iv i.set), .d (iv i.price), .d (iv i.s0), .d (iv i.s1), .d (iv i.s2), .d (iv i.s3), .d (iv i.s4), .d (iv i.s5)]]⟩ : ARow))])) 6 _ (le_SK id [] rfl (l' := [(1, .ptr 1 0 0), (6, .ag [.d (iv i.s0), .d (iv i.s1), .d (iv i.s2), .d (iv i.s3), .d (iv i.s4), .d (iv i.s5)]), (7, .d (iv 0))]) (m' := [(1, (⟨True, 33, 12, true, false, 1, [[.d (iv i.no), .d (iv i.cur), .d (iv i.mult), .d (iv i.add), .d (iv i.set), .d (iv i.price), .d (iv i.s0), .d (iv i.s1), .d (iv i.s2), .d (iv i.s3), .d (iv i.s4), .d (iv i.s5)]]⟩ : ARow))]) ?_ ?_ ?_ ?_) (.inl (⟨rfl, rfl⟩)) ?_
  · simp only [leV, look_cons, Nat.reduceBEq, cond_true, cond_false]; exact ⟨VLe.refl _, VLe.refl _, VLe.refl _, trivial⟩
  · exact ⟨fun _ => ⟨_, rfl, ⟨id, rfl, rfl, fun _ => rfl, id, .inl, VLess.refl _⟩⟩, fun h => by simp at h, trivial⟩
  · simp [wfV, AV.ids, AV.idsL, lookR]
  · simp [wfR, AV.idsL, AV.ids]
  rintro m s (⟨rfl, rfl⟩ | ⟨rfl, h0, rfl⟩ | ⟨rfl, h0, h1, rfl⟩ | ⟨rfl, h0, h1, h2, rfl⟩ | ⟨rfl, h0, h1, h2, h3, rfl⟩ | ⟨rfl, h0, h1, h2, h3, h4, rfl⟩ | ⟨rfl, h0, h1, h2, h3, h4, h5, rfl⟩)
  · skip
    refine awp_seq fun K2 hK2 => ?_
    refine awp_plain F_mixed [some 8] rfl ?_
    simp only [zzK, Nat.reduceLT, Nat.reduceLeDiff, Nat.reduceBEq, zz21, gr_v, zz22, zz6, Nat.reduceEqDiff, ↓reduceIte]
    refine hK2 _ ?_; try clear hK2 K2
    refine awp_keepL [1, 6, 7, 8] ?_
    simp only [zzJ, Nat.reduceBEq]
    refine awp_seq fun K2 hK2 => ?_
    refine awp_condS _ (by decide) (by simp only [look_cons, Nat.reduceBEq, cond_true, cond_false]; rfl) ?_ ?_
    · intro hb
      clear hb
      refine awp_skip ?_
      simp only [zz6, Nat.reduceEqDiff, ↓reduceIte]
      refine hK2 _ ?_; try clear hK2 K2
      refine awp_keepL [1, 6, 7] ?_
      simp only [zzJ, Nat.reduceBEq]
      refine awp_seq fun K2 hK2 => ?_
      refine awp_block ?_
      refine awp_seq fun K3 hK3 => ?_
      refine awp_plain F_mixed [some 9, some 4] rfl ?_
      simp only [zzK, Nat.reduceLT, Nat.reduceLeDiff, Nat.reduceBEq, evS_index, evIv_int, ixB_some, ixV_ag, ixV_agg, F_arr31, F_ok3, F_ag3, F_sz3, zzG, zzD, Nat.reduceAdd, Nat.zero_add, zzH, evS_assign, Int.reduceToNat, Int.reduceLT, Int.reduceLE, cast6, zz6, Nat.reduceEqDiff, ↓reduceIte]
      refine hK3 _ ?_; try clear hK3 K3
      refine awp_keepL [1, 4, 6, 7] ?_
      simp only [zzJ, Nat.reduceBEq]
      refine awp_seq fun K3 hK3 => ?_
      refine awp_plain F_mixed [some 10, some 11, some 12] rfl ?_
      simp only [zzK, Nat.reduceLT, Nat.reduceLeDiff, Nat.reduceBEq, evS_move, evS_call, evC_value, zz29, gr_v, zz30, zz6, Nat.reduceEqDiff, ↓reduceIte]
      refine call_go F_go80 (fun hG => inR_ i.s0 (-1073741824) 1073741824) (by simp [AV.ids, AV.idsL]) (by simp) ?_
      simp only [zzK, Nat.reduceLT, Nat.reduceLeDiff, Nat.reduceBEq, evS_move, evS_call, evC_value, zz29, gr_v, zz30, zz6, Nat.reduceEqDiff, ↓reduceIte, atsL, oksG, freeN, AV.ren, AV.renL, addRows, ORow.row, Nat.reduceMul, Nat.reduceAdd, zz9, Option.bind_some, Option.map_some, zzC, yyF, zzD, zz2]
      refine hK3 _ ?_; try clear hK3 K3
      refine awp_keepL [1, 6, 7, 12] ?_
      simp only [zzJ, Nat.reduceBEq]
      refine awp_condS _ (by decide) (by simp only [look_cons, Nat.reduceBEq, cond_true, cond_false]; rfl) ?_ ?_
      · intro hb
        simp only [Bool.not_eq_true'] at hb
        refine awp_seq fun K4 hK4 => ?_
        refine awp_plain F_mixed [some 2] rfl ?_
        simp only [zzK, Nat.reduceLT, Nat.reduceLeDiff, Nat.reduceBEq, evS_assign, zz6, Nat.reduceEqDiff, ↓reduceIte]
        refine hK4 _ ?_; try clear hK4 K4
        refine awp_keepL [2] ?_
        simp only [zzJ, Nat.reduceBEq]
        refine awp_ret ?_
        simp only [zz6, Nat.reduceEqDiff, ↓reduceIte]
        refine done0 (by simp only [resCs, resC]; trivial) ?_ (by simp [flatA, flatAs, flatD]) (by simp [AV.ids, AV.idsL])
        simp only [List.map_cons, List.map_nil, resA, S_getD, Nat.reduceLT, Nat.reduceLeDiff, look_cons, Nat.reduceBEq, cond_true, cond_false, resAll]
        have e : instOk i = false := by simp [instOk, shOk, hb]
        rw [e]
      · intro hb
        simp only [Bool.not_eq_false'] at hb
        refine awp_skip ?_
        simp only [zz6, Nat.reduceEqDiff, ↓reduceIte]
        refine hK2 _ ?_; try clear hK2 K2
        refine awp_keepL [1, 6, 7] ?_
        simp only [zzJ, Nat.reduceBEq]
        refine awp_plain F_mixed [some 13, some 7] rfl ?_
        simp only [zzK, Nat.reduceLT, Nat.reduceLeDiff, Nat.reduceBEq, zz21, gr_v, zz26, evS_move, zz6, Nat.reduceEqDiff, ↓reduceIte]
        refine ⟨5, _, by decide, le_SK id [] rfl (l' := [(1, .ptr 1 0 0), (6, .ag [.d (iv i.s0), .d (iv i.s1), .d (iv i.s2), .d (iv i.s3), .d (iv i.s4), .d (iv i.s5)]), (7, .d (iv 1))]) (m' := [(1, (⟨True, 33, 12, true, false, 1, [[.d (iv i.no), .d (iv i.cur), .d (iv i.mult), .d (iv i.add), .d (iv i.set), .d (iv i.price), .d (iv i.s0), .d (iv i.s1), .d (iv i.s2), .d (iv i.s3), .d (iv i.s4), .d (iv i.s5)]]⟩ : ARow))]) ?_ ?_ ?_ ?_, .inr (.inl (⟨rfl, hb, rfl⟩))⟩
        · simp only [leV, look_cons, Nat.reduceBEq, cond_true, cond_false]; exact ⟨VLe.refl _, VLe.refl _, VLe.refl _, trivial⟩
        · exact ⟨fun _ => ⟨_, rfl, ⟨id, rfl, rfl, fun _ => rfl, id, .inl, VLess.refl _⟩⟩, fun h => by simp at h, trivial⟩
        · simp [wfV, AV.ids, AV.idsL, lookR]
        · simp [wfR, AV.idsL, AV.ids]
    · intro hb
      simp at hb
  · skip
    refine awp_seq fun K2 hK2 => ?_
    refine awp_plain F_mixed [some 8] rfl ?_
    simp only [zzK, Nat.reduceLT, Nat.reduceLeDiff, Nat.reduceBEq, zz21, gr_v, zz22, zz6, Nat.reduceEqDiff, ↓reduceIte]
    refine hK2 _ ?_; try clear hK2 K2
    refine awp_keepL [1, 6, 7, 8] ?_
    simp only [zzJ, Nat.reduceBEq]
    refine awp_seq fun K2 hK2 => ?_
    refine awp_condS _ (by decide) (by simp only [look_cons, Nat.reduceBEq, cond_true, cond_false]; rfl) ?_ ?_
    · intro hb
      clear hb
      refine awp_skip ?_
      simp only [zz6, Nat.reduceEqDiff, ↓reduceIte]
      refine hK2 _ ?_; try clear hK2 K2
      refine awp_keepL [1, 6, 7] ?_
      simp only [zzJ, Nat.reduceBEq]
      refine awp_seq fun K2 hK2 => ?_
      refine awp_block ?_
      refine awp_seq fun K3 hK3 => ?_
      refine awp_plain F_mixed [some 9, some 4] rfl ?_
      simp only [zzK, Nat.reduceLT, Nat.reduceLeDiff, Nat.reduceBEq, evS_index, evIv_int, ixB_some, ixV_ag, ixV_agg, F_arr31, F_ok3, F_ag3, F_sz3, zzG, zzD, Nat.reduceAdd, Nat.zero_add, zzH, evS_assign, Int.reduceToNat, Int.reduceLT, Int.reduceLE, cast6, zz6, Nat.reduceEqDiff, ↓reduceIte]
      refine hK3 _ ?_; try clear hK3 K3
      refine awp_keepL [1, 4, 6, 7] ?_
      simp only [zzJ, Nat.reduceBEq]
      refine awp_seq fun K3 hK3 => ?_
      refine awp_plain F_mixed [some 10, some 11, some 12] rfl ?_
      simp only [zzK, Nat.reduceLT, Nat.reduceLeDiff, Nat.reduceBEq, evS_move, evS_call, evC_value, zz29, gr_v, zz30, zz6, Nat.reduceEqDiff, ↓reduceIte]
      refine call_go F_go80 (fun hG => inR_ i.s1 (-1073741824) 1073741824) (by simp [AV.ids, AV.idsL]) (by simp) ?_
      simp only [zzK, Nat.reduceLT, Nat.reduceLeDiff, Nat.reduceBEq, evS_move, evS_call, evC_value, zz29, gr_v, zz30, zz6, Nat.reduceEqDiff, ↓reduceIte, atsL, oksG, freeN, AV.ren, AV.renL, addRows, ORow.row, Nat.reduceMul, Nat.reduceAdd, zz9, Option.bind_some, Option.map_some, zzC, yyF, zzD, zz2]
      refine hK3 _ ?_; try clear hK3 K3
      refine awp_keepL [1, 6, 7, 12] ?_
      simp only [zzJ, Nat.reduceBEq]
      refine awp_condS _ (by decide) (by simp only [look_cons, Nat.reduceBEq, cond_true, cond_false]; rfl) ?_ ?_
      · intro hb
        simp only [Bool.not_eq_true'] at hb
        refine awp_seq fun K4 hK4 => ?_
        refine awp_plain F_mixed [some 2] rfl ?_
        simp only [zzK, Nat.reduceLT, Nat.reduceLeDiff, Nat.reduceBEq, evS_assign, zz6, Nat.reduceEqDiff, ↓reduceIte]
        refine hK4 _ ?_; try clear hK4 K4
        refine awp_keepL [2] ?_
        simp only [zzJ, Nat.reduceBEq]
        refine awp_ret ?_
        simp only [zz6, Nat.reduceEqDiff, ↓reduceIte]
        refine done0 (by simp only [resCs, resC]; trivial) ?_ (by simp [flatA, flatAs, flatD]) (by simp [AV.ids, AV.idsL])
        simp only [List.map_cons, List.map_nil, resA, S_getD, Nat.reduceLT, Nat.reduceLeDiff, look_cons, Nat.reduceBEq, cond_true, cond_false, resAll]
        have e : instOk i = false := by simp [instOk, shOk, hb]
        rw [e]
      · intro hb
        simp only [Bool.not_eq_false'] at hb
        refine awp_skip ?_
        simp only [zz6, Nat.reduceEqDiff, ↓reduceIte]
        refine hK2 _ ?_; try clear hK2 K2
        refine awp_keepL [1, 6, 7] ?_
        simp only [zzJ, Nat.reduceBEq]
        refine awp_plain F_mixed [some 13, some 7] rfl ?_
        simp only [zzK, Nat.reduceLT, Nat.reduceLeDiff, Nat.reduceBEq, zz21, gr_v, zz26, evS_move, zz6, Nat.reduceEqDiff, ↓reduceIte]
        refine ⟨4, _, by decide, le_SK id [] rfl (l' := [(1, .ptr 1 0 0), (6, .ag [.d (iv i.s0), .d (iv i.s1), .d (iv i.s2), .d (iv i.s3), .d (iv i.s4), .d (iv i.s5)]), (7, .d (iv 2))]) (m' := [(1, (⟨True, 33, 12, true, false, 1, [[.d (iv i.no), .d (iv i.cur), .d (iv i.mult), .d (iv i.add), .d (iv i.set), .d (iv i.price), .d (iv i.s0), .d (iv i.s1), .d (iv i.s2), .d (iv i.s3), .d (iv i.s4), .d (iv i.s5)]]⟩ : ARow))]) ?_ ?_ ?_ ?_, .inr (.inr (.inl (⟨rfl, h0, hb, rfl⟩)))⟩
        · simp only [leV, look_cons, Nat.reduceBEq, cond_true, cond_false]; exact ⟨VLe.refl _, VLe.refl _, VLe.refl _, trivial⟩
        · exact ⟨fun _ => ⟨_, rfl, ⟨id, rfl, rfl, fun _ => rfl, id, .inl, VLess.refl _⟩⟩, fun h => by simp at h, trivial⟩
        · simp [wfV, AV.ids, AV.idsL, lookR]
        · simp [wfR, AV.idsL, AV.ids]
    · intro hb
      simp at hb
  · skip
    refine awp_seq fun K2 hK2 => ?_
    refine awp_plain F_mixed [some 8] rfl ?_
    simp only [zzK, Nat.reduceLT, Nat.reduceLeDiff, Nat.reduceBEq, zz21, gr_v, zz22, zz6, Nat.reduceEqDiff, ↓reduceIte]
    refine hK2 _ ?_; try clear hK2 K2
    refine awp_keepL [1, 6, 7, 8] ?_
    simp only [zzJ, Nat.reduceBEq]
    refine awp_seq fun K2 hK2 => ?_
    refine awp_condS _ (by decide) (by simp only [look_cons, Nat.reduceBEq, cond_true, cond_false]; rfl) ?_ ?_
    · intro hb
      clear hb
      refine awp_skip ?_
      simp only [zz6, Nat.reduceEqDiff, ↓reduceIte]
      refine hK2 _ ?_; try clear hK2 K2
      refine awp_keepL [1, 6, 7] ?_
      simp only [zzJ, Nat.reduceBEq]
      refine awp_seq fun K2 hK2 => ?_
      refine awp_block ?_
      refine awp_seq fun K3 hK3 => ?_
      refine awp_plain F_mixed [some 9, some 4] rfl ?_
      simp only [zzK, Nat.reduceLT, Nat.reduceLeDiff, Nat.reduceBEq, evS_index, evIv_int, ixB_some, ixV_ag, ixV_agg, F_arr31, F_ok3, F_ag3, F_sz3, zzG, zzD, Nat.reduceAdd, Nat.zero_add, zzH, evS_assign, Int.reduceToNat, Int.reduceLT, Int.reduceLE, cast6, zz6, Nat.reduceEqDiff, ↓reduceIte]
      refine hK3 _ ?_; try clear hK3 K3
      refine awp_keepL [1, 4, 6, 7] ?_
      simp only [zzJ, Nat.reduceBEq]
      refine awp_seq fun K3 hK3 => ?_
      refine awp_plain F_mixed [some 10, some 11, some 12] rfl ?_
      simp only [zzK, Nat.reduceLT, Nat.reduceLeDiff, Nat.reduceBEq, evS_move, evS_call, evC_value, zz29, gr_v, zz30, zz6, Nat.reduceEqDiff, ↓reduceIte]
      refine call_go F_go80 (fun hG => inR_ i.s2 (-1073741824) 1073741824) (by simp [AV.ids, AV.idsL]) (by simp) ?_
      simp only [zzK, Nat.reduceLT, Nat.reduceLeDiff, Nat.reduceBEq, evS_move, evS_call, evC_value, zz29, gr_v, zz30, zz6, Nat.reduceEqDiff, ↓reduceIte, atsL, oksG, freeN, AV.ren, AV.renL, addRows, ORow.row, Nat.reduceMul, Nat.reduceAdd, zz9, Option.bind_some, Option.map_some, zzC, yyF, zzD, zz2]
      refine hK3 _ ?_; try clear hK3 K3
      refine awp_keepL [1, 6, 7, 12] ?_
      simp only [zzJ, Nat.reduceBEq]
      refine awp_condS _ (by decide) (by simp only [look_cons, Nat.reduceBEq, cond_true, cond_false]; rfl) ?_ ?_
      · intro hb
        simp only [Bool.not_eq_true'] at hb
        refine awp_seq fun K4 hK4 => ?_
        refine awp_plain F_mixed [some 2] rfl ?_
        simp only [zzK, Nat.reduceLT, Nat.reduceLeDiff, Nat.reduceBEq, evS_assign, zz6, Nat.reduceEqDiff, ↓reduceIte]
        refine hK4 _ ?_; try clear hK4 K4
        refine awp_keepL [2] ?_
        simp only [zzJ, Nat.reduceBEq]
        refine awp_ret ?_
        simp only [zz6, Nat.reduceEqDiff, ↓reduceIte]
        refine done0 (by simp only [resCs, resC]; trivial) ?_ (by simp [flatA, flatAs, flatD]) (by simp [AV.ids, AV.idsL])
        simp only [List.map_cons, List.map_nil, resA, S_getD, Nat.reduceLT, Nat.reduceLeDiff, look_cons, Nat.reduceBEq, cond_true, cond_false, resAll]
        have e : instOk i = false := by simp [instOk, shOk, hb]
        rw [e]
      · intro hb
        simp only [Bool.not_eq_false'] at hb
        refine awp_skip ?_
        simp only [zz6, Nat.reduceEqDiff, ↓reduceIte]
        refine hK2 _ ?_; try clear hK2 K2
        refine awp_keepL [1, 6, 7] ?_
        simp only [zzJ, Nat.reduceBEq]
        refine awp_plain F_mixed [some 13, some 7] rfl ?_
        simp only [zzK, Nat.reduceLT, Nat.reduceLeDiff, Nat.reduceBEq, zz21, gr_v, zz26, evS_move, zz6, Nat.reduceEqDiff, ↓reduceIte]
        refine ⟨3, _, by decide, le_SK id [] rfl (l' := [(1, .ptr 1 0 0), (6, .ag [.d (iv i.s0), .d (iv i.s1), .d (iv i.s2), .d (iv i.s3), .d (iv i.s4), .d (iv i.s5)]), (7, .d (iv 3))]) (m' := [(1, (⟨True, 33, 12, true, false, 1, [[.d (iv i.no), .d (iv i.cur), .d (iv i.mult), .d (iv i.add), .d (iv i.set), .d (iv i.price), .d (iv i.s0), .d (iv i.s1), .d (iv i.s2), .d (iv i.s3), .d (iv i.s4), .d (iv i.s5)]]⟩ : ARow))]) ?_ ?_ ?_ ?_, .inr (.inr (.inr (.inl (⟨rfl, h0, h1, hb, rfl⟩))))⟩
        · simp only [leV, look_cons, Nat.reduceBEq, cond_true, cond_false]; exact ⟨VLe.refl _, VLe.refl _, VLe.refl _, trivial⟩
        · exact ⟨fun _ => ⟨_, rfl, ⟨id, rfl, rfl, fun _ => rfl, id, .inl, VLess.refl _⟩⟩, fun h => by simp at h, trivial⟩
        · simp [wfV, AV.ids, AV.idsL, lookR]
        · simp [wfR, AV.idsL, AV.ids]
    · intro hb
      simp at hb
  · skip
    refine awp_seq fun K2 hK2 => ?_
    refine awp_plain F_mixed [some 8] rfl ?_
    simp only [zzK, Nat.reduceLT, Nat.reduceLeDiff, Nat.reduceBEq, zz21, gr_v, zz22, zz6, Nat.reduceEqDiff, ↓reduceIte]
    refine hK2 _ ?_; try clear hK2 K2
    refine awp_keepL [1, 6, 7, 8] ?_
    simp only [zzJ, Nat.reduceBEq]
    refine awp_seq fun K2 hK2 => ?_
    refine awp_condS _ (by decide) (by simp only [look_cons, Nat.reduceBEq, cond_true, cond_false]; rfl) ?_ ?_
    · intro hb
      clear hb
      refine awp_skip ?_
      simp only [zz6, Nat.reduceEqDiff, ↓reduceIte]
      refine hK2 _ ?_; try clear hK2 K2
      refine awp_keepL [1, 6, 7] ?_
      simp only [zzJ, Nat.reduceBEq]
      refine awp_seq fun K2 hK2 => ?_
      refine awp_block ?_
      refine awp_seq fun K3 hK3 => ?_
      refine awp_plain F_mixed [some 9, some 4] rfl ?_
      simp only [zzK, Nat.reduceLT, Nat.reduceLeDiff, Nat.reduceBEq, evS_index, evIv_int, ixB_some, ixV_ag, ixV_agg, F_arr31, F_ok3, F_ag3, F_sz3, zzG, zzD, Nat.reduceAdd, Nat.zero_add, zzH, evS_assign, Int.reduceToNat, Int.reduceLT, Int.reduceLE, cast6, zz6, Nat.reduceEqDiff, ↓reduceIte]
      refine hK3 _ ?_; try clear hK3 K3
      refine awp_keepL [1, 4, 6, 7] ?_
      simp only [zzJ, Nat.reduceBEq]
      refine awp_seq fun K3 hK3 => ?_
      refine awp_plain F_mixed [some 10, some 11, some 12] rfl ?_
      simp only [zzK, Nat.reduceLT, Nat.reduceLeDiff, Nat.reduceBEq, evS_move, evS_call, evC_value, zz29, gr_v, zz30, zz6, Nat.reduceEqDiff, ↓reduceIte]
      refine call_go F_go80 (fun hG => inR_ i.s3 (-1073741824) 1073741824) (by simp [AV.ids, AV.idsL]) (by simp) ?_
      simp only [zzK, Nat.reduceLT, Nat.reduceLeDiff, Nat.reduceBEq, evS_move, evS_call, evC_value, zz29, gr_v, zz30, zz6, Nat.reduceEqDiff, ↓reduceIte, atsL, oksG, freeN, AV.ren, AV.renL, addRows, ORow.row, Nat.reduceMul, Nat.reduceAdd, zz9, Option.bind_some, Option.map_some, zzC, yyF, zzD, zz2]
      refine hK3 _ ?_; try clear hK3 K3
      refine awp_keepL [1, 6, 7, 12] ?_
      simp only [zzJ, Nat.reduceBEq]
      refine awp_condS _ (by decide) (by simp only [look_cons, Nat.reduceBEq, cond_true, cond_false]; rfl) ?_ ?_
      · intro hb
        simp only [Bool.not_eq_true'] at hb
        refine awp_seq fun K4 hK4 => ?_
        refine awp_plain F_mixed [some 2] rfl ?_
        simp only [zzK, Nat.reduceLT, Nat.reduceLeDiff, Nat.reduceBEq, evS_assign, zz6, Nat.reduceEqDiff, ↓reduceIte]
        refine hK4 _ ?_; try clear hK4 K4
        refine awp_keepL [2] ?_
        simp only [zzJ, Nat.reduceBEq]
        refine awp_ret ?_
        simp only [zz6, Nat.reduceEqDiff, ↓reduceIte]
        refine done0 (by simp only [resCs, resC]; trivial) ?_ (by simp [flatA, flatAs, flatD]) (by simp [AV.ids, AV.idsL])
        simp only [List.map_cons, List.map_nil, resA, S_getD, Nat.reduceLT, Nat.reduceLeDiff, look_cons, Nat.reduceBEq, cond_true, cond_false, resAll]
        have e : instOk i = false := by simp [instOk, shOk, hb]
        rw [e]
      · intro hb
        simp only [Bool.not_eq_false'] at hb
        refine awp_skip ?_
        simp only [zz6, Nat.reduceEqDiff, ↓reduceIte]
        refine hK2 _ ?_; try clear hK2 K2
        refine awp_keepL [1, 6, 7] ?_
        simp only [zzJ, Nat.reduceBEq]
        refine awp_plain F_mixed [some 13, some 7] rfl ?_
        simp only [zzK, Nat.reduceLT, Nat.reduceLeDiff, Nat.reduceBEq, zz21, gr_v, zz26, evS_move, zz6, Nat.reduceEqDiff, ↓reduceIte]
        refine ⟨2, _, by decide, le_SK id [] rfl (l' := [(1, .ptr 1 0 0), (6, .ag [.d (iv i.s0), .d (iv i.s1), .d (iv i.s2), .d (iv i.s3), .d (iv i.s4), .d (iv i.s5)]), (7, .d (iv 4))]) (m' := [(1, (⟨True, 33, 12, true, false, 1, [[.d (iv i.no), .d (iv i.cur), .d (iv i.mult), .d (iv i.add), .d (iv i.set), .d (iv i.price), .d (iv i.s0), .d (iv i.s1), .d (iv i.s2), .d (iv i.s3), .d (iv i.s4), .d (iv i.s5)]]⟩ : ARow))]) ?_ ?_ ?_ ?_, .inr (.inr (.inr (.inr (.inl (⟨rfl, h0, h1, h2, hb, rfl⟩)))))⟩
        · simp only [leV, look_cons, Nat.reduceBEq, cond_true, cond_false]; exact ⟨VLe.refl _, VLe.refl _, VLe.refl _, trivial⟩
        · exact ⟨fun _ => ⟨_, rfl, ⟨id, rfl, rfl, fun _ => rfl, id, .inl, VLess.refl _⟩⟩, fun h => by simp at h, trivial⟩
        · simp [wfV, AV.ids, AV.idsL, lookR]
        · simp [wfR, AV.idsL, AV.ids]
    · intro hb
      simp at hb
  · skip
    refine awp_seq fun K2 hK2 => ?_
    refine awp_plain F_mixed [some 8] rfl ?_
    simp only [zzK, Nat.reduceLT, Nat.reduceLeDiff, Nat.reduceBEq, zz21, gr_v, zz22, zz6, Nat.reduceEqDiff, ↓reduceIte]
    refine hK2 _ ?_; try clear hK2 K2
    refine awp_keepL [1, 6, 7, 8] ?_
    simp only [zzJ, Nat.reduceBEq]
    refine awp_seq fun K2 hK2 => ?_
    refine awp_condS _ (by decide) (by simp only [look_cons, Nat.reduceBEq, cond_true, cond_false]; rfl) ?_ ?_
    · intro hb
      clear hb
      refine awp_skip ?_
      simp only [zz6, Nat.reduceEqDiff, ↓reduceIte]
      refine hK2 _ ?_; try clear hK2 K2
      refine awp_keepL [1, 6, 7] ?_
      simp only [zzJ, Nat.reduceBEq]
      refine awp_seq fun K2 hK2 => ?_
      refine awp_block ?_
      refine awp_seq fun K3 hK3 => ?_
      refine awp_plain F_mixed [some 9, some 4] rfl ?_
      simp only [zzK, Nat.reduceLT, Nat.reduceLeDiff, Nat.reduceBEq, evS_index, evIv_int, ixB_some, ixV_ag, ixV_agg, F_arr31, F_ok3, F_ag3, F_sz3, zzG, zzD, Nat.reduceAdd, Nat.zero_add, zzH, evS_assign, Int.reduceToNat, Int.reduceLT, Int.reduceLE, cast6, zz6, Nat.reduceEqDiff, ↓reduceIte]
      refine hK3 _ ?_; try clear hK3 K3
      refine awp_keepL [1, 4, 6, 7] ?_
      simp only [zzJ, Nat.reduceBEq]
      refine awp_seq fun K3 hK3 => ?_
      refine awp_plain F_mixed [some 10, some 11, some 12] rfl ?_
      simp only [zzK, Nat.reduceLT, Nat.reduceLeDiff, Nat.reduceBEq, evS_move, evS_call, evC_value, zz29, gr_v, zz30, zz6, Nat.reduceEqDiff, ↓reduceIte]
      refine call_go F_go80 (fun hG => inR_ i.s4 (-1073741824) 1073741824) (by simp [AV.ids, AV.idsL]) (by simp) ?_
      simp only [zzK, Nat.reduceLT, Nat.reduceLeDiff, Nat.reduceBEq, evS_move, evS_call, evC_value, zz29, gr_v, zz30, zz6, Nat.reduceEqDiff, ↓reduceIte, atsL, oksG, freeN, AV.ren, AV.renL, addRows, ORow.row, Nat.reduceMul, Nat.reduceAdd, zz9, Option.bind_some, Option.map_some, zzC, yyF, zzD, zz2]
      refine hK3 _ ?_; try clear hK3 K3
      refine awp_keepL [1, 6, 7, 12] ?_
      simp only [zzJ, Nat.reduceBEq]
      refine awp_condS _ (by decide) (by simp only [look_cons, Nat.reduceBEq, cond_true, cond_false]; rfl) ?_ ?_
      · intro hb
        simp only [Bool.not_eq_true'] at hb
        refine awp_seq fun K4 hK4 => ?_
        refine awp_plain F_mixed [some 2] rfl ?_
        simp only [zzK, Nat.reduceLT, Nat.reduceLeDiff, Nat.reduceBEq, evS_assign, zz6, Nat.reduceEqDiff, ↓reduceIte]
        refine hK4 _ ?_; try clear hK4 K4
        refine awp_keepL [2] ?_
        simp only [zzJ, Nat.reduceBEq]
        refine awp_ret ?_
        simp only [zz6, Nat.reduceEqDiff, ↓reduceIte]
        refine done0 (by simp only [resCs, resC]; trivial) ?_ (by simp [flatA, flatAs, flatD]) (by simp [AV.ids, AV.idsL])
        simp only [List.map_cons, List.map_nil, resA, S_getD, Nat.reduceLT, Nat.reduceLeDiff, look_cons, Nat.reduceBEq, cond_true, cond_false, resAll]
        have e : instOk i = false := by simp [instOk, shOk, hb]
        rw [e]
      · intro hb
        simp only [Bool.not_eq_false'] at hb
        refine awp_skip ?_
        simp only [zz6, Nat.reduceEqDiff, ↓reduceIte]
        refine hK2 _ ?_; try clear hK2 K2
        refine awp_keepL [1, 6, 7] ?_
        simp only [zzJ, Nat.reduceBEq]
        refine awp_plain F_mixed [some 13, some 7] rfl ?_
        simp only [zzK, Nat.reduceLT, Nat.reduceLeDiff, Nat.reduceBEq, zz21, gr_v, zz26, evS_move, zz6, Nat.reduceEqDiff, ↓reduceIte]
        refine ⟨1, _, by decide, le_SK id [] rfl (l' := [(1, .ptr 1 0 0), (6, .ag [.d (iv i.s0), .d (iv i.s1), .d (iv i.s2), .d (iv i.s3), .d (iv i.s4), .d (iv i.s5)]), (7, .d (iv 5))]) (m' := [(1, (⟨True, 33, 12, true, false, 1, [[.d (iv i.no), .d (iv i.cur), .d (iv i.mult), .d (iv i.add), .d (iv i.set), .d (iv i.price), .d (iv i.s0), .d (iv i.s1), .d (iv i.s2), .d (iv i.s3), .d (iv i.s4), .d (iv i.s5)]]⟩ : ARow))]) ?_ ?_ ?_ ?_, .inr (.inr (.inr (.inr (.inr (.inl (⟨rfl, h0, h1, h2, h3, hb, rfl⟩))))))⟩
        · simp only [leV, look_cons, Nat.reduceBEq, cond_true, cond_false]; exact ⟨VLe.refl _, VLe.refl _, VLe.refl _, trivial⟩
        · exact ⟨fun _ => ⟨_, rfl, ⟨id, rfl, rfl, fun _ => rfl, id, .inl, VLess.refl _⟩⟩, fun h => by simp at h, trivial⟩
        · simp [wfV, AV.ids, AV.idsL, lookR]
        · simp [wfR, AV.idsL, AV.ids]
    · intro hb
      simp at hb
  · skip
    refine awp_seq fun K2 hK2 => ?_
    refine awp_plain F_mixed [some 8] rfl ?_
    simp only [zzK, Nat.reduceLT, Nat.reduceLeDiff, Nat.reduceBEq, zz21, gr_v, zz22, zz6, Nat.reduceEqDiff, ↓reduceIte]
    refine hK2 _ ?_; try clear hK2 K2
    refine awp_keepL [1, 6, 7, 8] ?_
    simp only [zzJ, Nat.reduceBEq]
    refine awp_seq fun K2 hK2 => ?_
    refine awp_condS _ (by decide) (by simp only [look_cons, Nat.reduceBEq, cond_true, cond_false]; rfl) ?_ ?_
    · intro hb
      clear hb
      refine awp_skip ?_
      simp only [zz6, Nat.reduceEqDiff, ↓reduceIte]
      refine hK2 _ ?_; try clear hK2 K2
      refine awp_keepL [1, 6, 7] ?_
      simp only [zzJ, Nat.reduceBEq]
      refine awp_seq fun K2 hK2 => ?_
      refine awp_block ?_
      refine awp_seq fun K3 hK3 => ?_
      refine awp_plain F_mixed [some 9, some 4] rfl ?_
      simp only [zzK, Nat.reduceLT, Nat.reduceLeDiff, Nat.reduceBEq, evS_index, evIv_int, ixB_some, ixV_ag, ixV_agg, F_arr31, F_ok3, F_ag3, F_sz3, zzG, zzD, Nat.reduceAdd, Nat.zero_add, zzH, evS_assign, Int.reduceToNat, Int.reduceLT, Int.reduceLE, cast6, zz6, Nat.reduceEqDiff, ↓reduceIte]
      refine hK3 _ ?_; try clear hK3 K3
      refine awp_keepL [1, 4, 6, 7] ?_
      simp only [zzJ, Nat.reduceBEq]
      refine awp_seq fun K3 hK3 => ?_
      refine awp_plain F_mixed [some 10, some 11, some 12] rfl ?_
      simp only [zzK, Nat.reduceLT, Nat.reduceLeDiff, Nat.reduceBEq, evS_move, evS_call, evC_value, zz29, gr_v, zz30, zz6, Nat.reduceEqDiff, ↓reduceIte]
      refine call_go F_go80 (fun hG => inR_ i.s5 (-1073741824) 1073741824) (by simp [AV.ids, AV.idsL]) (by simp) ?_
      simp only [zzK, Nat.reduceLT, Nat.reduceLeDiff, Nat.reduceBEq, evS_move, evS_call, evC_value, zz29, gr_v, zz30, zz6, Nat.reduceEqDiff, ↓reduceIte, atsL, oksG, freeN, AV.ren, AV.renL, addRows, ORow.row, Nat.reduceMul, Nat.reduceAdd, zz9, Option.bind_some, Option.map_some, zzC, yyF, zzD, zz2]
      refine hK3 _ ?_; try clear hK3 K3
      refine awp_keepL [1, 6, 7, 12] ?_
      simp only [zzJ, Nat.reduceBEq]
      refine awp_condS _ (by decide) (by simp only [look_cons, Nat.reduceBEq, cond_true, cond_false]; rfl) ?_ ?_
      · intro hb
        simp only [Bool.not_eq_true'] at hb
        refine awp_seq fun K4 hK4 => ?_
        refine awp_plain F_mixed [some 2] rfl ?_
        simp only [zzK, Nat.reduceLT, Nat.reduceLeDiff, Nat.reduceBEq, evS_assign, zz6, Nat.reduceEqDiff, ↓reduceIte]
        refine hK4 _ ?_; try clear hK4 K4
        refine awp_keepL [2] ?_
        simp only [zzJ, Nat.reduceBEq]
        refine awp_ret ?_
        simp only [zz6, Nat.reduceEqDiff, ↓reduceIte]
        refine done0 (by simp only [resCs, resC]; trivial) ?_ (by simp [flatA, flatAs, flatD]) (by simp [AV.ids, AV.idsL])
        simp only [List.map_cons, List.map_nil, resA, S_getD, Nat.reduceLT, Nat.reduceLeDiff, look_cons, Nat.reduceBEq, cond_true, cond_false, resAll]
        have e : instOk i = false := by simp [instOk, shOk, hb]
        rw [e]
      · intro hb
        simp only [Bool.not_eq_false'] at hb
        refine awp_skip ?_
        simp only [zz6, Nat.reduceEqDiff, ↓reduceIte]
        refine hK2 _ ?_; try clear hK2 K2
        refine awp_keepL [1, 6, 7] ?_
        simp only [zzJ, Nat.reduceBEq]
        refine awp_plain F_mixed [some 13, some 7] rfl ?_
        simp only [zzK, Nat.reduceLT, Nat.reduceLeDiff, Nat.reduceBEq, zz21, gr_v, zz26, evS_move, zz6, Nat.reduceEqDiff, ↓reduceIte]
        refine ⟨0, _, by decide, le_SK id [] rfl (l' := [(1, .ptr 1 0 0), (6, .ag [.d (iv i.s0), .d (iv i.s1), .d (iv i.s2), .d (iv i.s3), .d (iv i.s4), .d (iv i.s5)]), (7, .d (iv 6))]) (m' := [(1, (⟨True, 33, 12, true, false, 1, [[.d (iv i.no), .d (iv i.cur), .d (iv i.mult), .d (iv i.add), .d (iv i.set), .d (iv i.price), .d (iv i.s0), .d (iv i.s1), .d (iv i.s2), .d (iv i.s3), .d (iv i.s4), .d (iv i.s5)]]⟩ : ARow))]) ?_ ?_ ?_ ?_, .inr (.inr (.inr (.inr (.inr (.inr (⟨rfl, h0, h1, h2, h3, h4, hb, rfl⟩))))))⟩
        · simp only [leV, look_cons, Nat.reduceBEq, cond_true, cond_false]; exact ⟨VLe.refl _, VLe.refl _, VLe.refl _, trivial⟩
        · exact ⟨fun _ => ⟨_, rfl, ⟨id, rfl, rfl, fun _ => rfl, id, .inl, VLess.refl _⟩⟩, fun h => by simp at h, trivial⟩
        · simp [wfV, AV.ids, AV.idsL, lookR]
        · simp [wfR, AV.idsL, AV.ids]
    · intro hb
      simp at hb
  · skip
    refine awp_seq fun K2 hK2 => ?_
    refine awp_plain F_mixed [some 8] rfl ?_
    simp only [zzK, Nat.reduceLT, Nat.reduceLeDiff, Nat.reduceBEq, zz21, gr_v, zz22, zz6, Nat.reduceEqDiff, ↓reduceIte]
    refine hK2 _ ?_; try clear hK2 K2
    refine awp_keepL [1, 6, 7, 8] ?_
    simp only [zzJ, Nat.reduceBEq]
    refine awp_seq fun K2 hK2 => ?_
    refine awp_condS _ (by decide) (by simp only [look_cons, Nat.reduceBEq, cond_true, cond_false]; rfl) ?_ ?_
    · intro hb
      simp at hb
    · intro hb
      clear hb
      refine awp_exit ?_
      simp only [zz6, Nat.reduceEqDiff, ↓reduceIte]
      refine hK0 _ ?_; try clear hK0 K0
      refine awp_keepL [1] ?_
      simp only [zzJ, Nat.reduceBEq]
      refine awp_seq fun K0 hK0 => ?_
      refine awp_plain F_mixed [some 14, some 15, some 16, some 17, some 18, some 19, some 20, some 21, some 22, some 23, some 24, some 25, some 26, some 27, some 28, some 29, some 30, some 31, some 32, some 33, some 34, some 35, some 36, some 37, some 38, some 39, some 40, some 41, some 2] rfl ?_
      simp only [zzK, Nat.reduceLT, Nat.reduceLeDiff, Nat.reduceBEq, Nat.reduceSub, S_getD, zz5, and_imp, imp_and, imp_self, zz19, zz23, F_off33_0, zzH, Nat.zero_add, Nat.reduceAdd, F_ok3, F_ag3, F_sz3, zz8, zzD, zzC, Option.map_some, yyE, reduceCtorEq, evS_call, evC_value, evS_move, F_off33_1, zz13, pickK_l, pickK_r, F_off33_2, F_off33_3, F_off33_4, F_off33_5, evS_assign, zz6, Nat.reduceEqDiff, ↓reduceIte]
      refine call_go F_go80 (fun hG => inR_ i.no 1 8) (by simp [AV.ids, AV.idsL]) (by simp) ?_
      simp only [zzK, Nat.reduceLT, Nat.reduceLeDiff, Nat.reduceBEq, Nat.reduceSub, S_getD, zz5, and_imp, imp_and, imp_self, zz19, zz23, F_off33_0, zzH, Nat.zero_add, Nat.reduceAdd, F_ok3, F_ag3, F_sz3, zz8, zzD, zzC, Option.map_some, yyE, reduceCtorEq, evS_call, evC_value, evS_move, F_off33_1, zz13, pickK_l, pickK_r, F_off33_2, F_off33_3, F_off33_4, F_off33_5, evS_assign, zz6, Nat.reduceEqDiff, ↓reduceIte, atsL, oksG, freeN, AV.ren, AV.renL, addRows, ORow.row, Nat.reduceMul, Nat.reduceAdd, zz9, Option.bind_some, Option.map_some, S_mem, yyF, List.length_cons, zz2]
      refine call_go F_go80 (fun hG => inR_ i.cur 0 2) (by simp [AV.ids, AV.idsL]) (by simp) ?_
      simp only [zzK, Nat.reduceLT, Nat.reduceLeDiff, Nat.reduceBEq, Nat.reduceSub, S_getD, zz5, and_imp, imp_and, imp_self, zz19, zz23, F_off33_0, zzH, Nat.zero_add, Nat.reduceAdd, F_ok3, F_ag3, F_sz3, zz8, zzD, zzC, Option.map_some, yyE, reduceCtorEq, evS_call, evC_value, evS_move, F_off33_1, zz13, pickK_l, pickK_r, F_off33_2, F_off33_3, F_off33_4, F_off33_5, evS_assign, zz6, Nat.reduceEqDiff, ↓reduceIte, atsL, oksG, freeN, AV.ren, AV.renL, addRows, ORow.row, Nat.reduceMul, Nat.reduceAdd, zz9, Option.bind_some, Option.map_some, S_mem, yyF, List.length_cons, zz2]
      refine call_go F_go80 (fun hG => inR_ i.mult 1 1024) (by simp [AV.ids, AV.idsL]) (by simp) ?_
      simp only [zzK, Nat.reduceLT, Nat.reduceLeDiff, Nat.reduceBEq, Nat.reduceSub, S_getD, zz5, and_imp, imp_and, imp_self, zz19, zz23, F_off33_0, zzH, Nat.zero_add, Nat.reduceAdd, F_ok3, F_ag3, F_sz3, zz8, zzD, zzC, Option.map_some, yyE, reduceCtorEq, evS_call, evC_value, evS_move, F_off33_1, zz13, pickK_l, pickK_r, F_off33_2, F_off33_3, F_off33_4, F_off33_5, evS_assign, zz6, Nat.reduceEqDiff, ↓reduceIte, atsL, oksG, freeN, AV.ren, AV.renL, addRows, ORow.row, Nat.reduceMul, Nat.reduceAdd, zz9, Option.bind_some, Option.map_some, S_mem, yyF, List.length_cons, zz2]
      refine call_go F_go80 (fun hG => inR_ i.add 0 1073741824) (by simp [AV.ids, AV.idsL]) (by simp) ?_
      simp only [zzK, Nat.reduceLT, Nat.reduceLeDiff, Nat.reduceBEq, Nat.reduceSub, S_getD, zz5, and_imp, imp_and, imp_self, zz19, zz23, F_off33_0, zzH, Nat.zero_add, Nat.reduceAdd, F_ok3, F_ag3, F_sz3, zz8, zzD, zzC, Option.map_some, yyE, reduceCtorEq, evS_call, evC_value, evS_move, F_off33_1, zz13, pickK_l, pickK_r, F_off33_2, F_off33_3, F_off33_4, F_off33_5, evS_assign, zz6, Nat.reduceEqDiff, ↓reduceIte, atsL, oksG, freeN, AV.ren, AV.renL, addRows, ORow.row, Nat.reduceMul, Nat.reduceAdd, zz9, Option.bind_some, Option.map_some, S_mem, yyF, List.length_cons, zz2]
      refine call_go F_go80 (fun hG => inR_ i.set 0 1073741824) (by simp [AV.ids, AV.idsL]) (by simp) ?_
      simp only [zzK, Nat.reduceLT, Nat.reduceLeDiff, Nat.reduceBEq, Nat.reduceSub, S_getD, zz5, and_imp, imp_and, imp_self, zz19, zz23, F_off33_0, zzH, Nat.zero_add, Nat.reduceAdd, F_ok3, F_ag3, F_sz3, zz8, zzD, zzC, Option.map_some, yyE, reduceCtorEq, evS_call, evC_value, evS_move, F_off33_1, zz13, pickK_l, pickK_r, F_off33_2, F_off33_3, F_off33_4, F_off33_5, evS_assign, zz6, Nat.reduceEqDiff, ↓reduceIte, atsL, oksG, freeN, AV.ren, AV.renL, addRows, ORow.row, Nat.reduceMul, Nat.reduceAdd, zz9, Option.bind_some, Option.map_some, S_mem, yyF, List.length_cons, zz2]
      refine call_go F_go80 (fun hG => inR_ i.price 0 1073741824) (by simp [AV.ids, AV.idsL]) (by simp) ?_
      simp only [zzK, Nat.reduceLT, Nat.reduceLeDiff, Nat.reduceBEq, Nat.reduceSub, S_getD, zz5, and_imp, imp_and, imp_self, zz19, zz23, F_off33_0, zzH, Nat.zero_add, Nat.reduceAdd, F_ok3, F_ag3, F_sz3, zz8, zzD, zzC, Option.map_some, yyE, reduceCtorEq, evS_call, evC_value, evS_move, F_off33_1, zz13, pickK_l, pickK_r, F_off33_2, F_off33_3, F_off33_4, F_off33_5, evS_assign, zz6, Nat.reduceEqDiff, ↓reduceIte, atsL, oksG, freeN, AV.ren, AV.renL, addRows, ORow.row, Nat.reduceMul, Nat.reduceAdd, zz9, Option.bind_some, Option.map_some, S_mem, yyF, List.length_cons, zz2]
      refine hK0 _ ?_; try clear hK0 K0
      refine awp_keepL [2] ?_
      simp only [zzJ, Nat.reduceBEq]
      refine awp_ret ?_
      simp only [zz6, Nat.reduceEqDiff, ↓reduceIte]
      refine done0 (by simp only [resCs, resC]; trivial) ?_ (by simp [flatA, flatAs, flatD]) (by simp [AV.ids, AV.idsL])
      simp only [List.map_cons, List.map_nil, resA, S_getD, Nat.reduceLT, Nat.reduceLeDiff, look_cons, Nat.reduceBEq, cond_true, cond_false, resAll]
      simp only [instOk, h0, h1, h2, h3, h4, h5, Bool.true_and]
theorem risesI_ (l : List InstV) (hl : l.length < 4611686018427387904) : ACalls Try.prog 59 [instsD l, fnD 60, fnD 61] [] (bv (chk instOk InstV.no none l)) := by
  refine acalls_S (rs := [.tmp 6]) Try.func59 rfl rfl 38 [(0, .d (instsD l)), (1, .d (fnD 60)), (2, .d (fnD 61))] rfl (by simp) rfl ?_
  refine awp_seq fun K0 hK0 => ?_
  refine awp_plain F_mixed [some 6] rfl ?_
  simp only [zzK, Nat.reduceLT, Nat.reduceLeDiff, Nat.reduceBEq, evS_assign, zz6, Nat.reduceEqDiff, ↓reduceIte]
  refine hK0 _ ?_; try clear hK0 K0
  refine awp_keepL [0, 1, 2] ?_
  simp only [zzJ, Nat.reduceBEq]
  refine awp_seq fun K0 hK0 => ?_
  refine awp_seq fun K1 hK1 => ?_
  refine awp_plain F_mixed [some 9, some 10, some 11] rfl ?_
  simp only [zzK, Nat.reduceLT, Nat.reduceLeDiff, Nat.reduceBEq, evS_move, evS_call, zz12, F_sl37, Option.isSome_some, instsD, len_map, zz6, Nat.reduceEqDiff, ↓reduceIte]
  refine hK1 _ ?_; try clear hK1 K1
  refine awp_keepL [0, 1, 2, 9, 10, 11] ?_
  simp only [zzJ, Nat.reduceBEq]
  refine awp_block ?_
  refine awp_loop (fun m s => ∃ pre post : List InstV, l = pre ++ post ∧ chk instOk InstV.no none l = chk instOk InstV.no pre.getLast? post ∧ m = post.length ∧ s = S 38 [(0, .d (instsD l)), (1, .d (fnD 60)), (2, .d (fnD 61)), (9, .d (instsD l)), (10, .d (iv l.length)), (11, .d (iv pre.length))] []) l.length _ (le_S0 (l' := [(0, .d (instsD l)), (1, .d (fnD 60)), (2, .d (fnD 61)), (9, .d (instsD l)), (10, .d (iv l.length)), (11, .d (iv ([] : List InstV).length))]) ?_ ?_) ⟨[], l, rfl, rfl, rfl, rfl⟩ ?_
  · simp only [leL, look_cons, Nat.reduceBEq, cond_true, cond_false, instsD, len_map, List.length_nil]; trivial
  · simp [wfV, AV.ids]
  rintro m s ⟨pre, post, rfl, hck, rfl, rfl⟩
  refine awp_seq fun K2 hK2 => ?_
  refine awp_plain F_mixed [some 12] rfl ?_
  simp only [zzK, Nat.reduceLT, Nat.reduceLeDiff, Nat.reduceBEq, zz21, gr_v, zz22, zz6, Nat.reduceEqDiff, ↓reduceIte]
  refine hK2 _ ?_; try clear hK2 K2
  refine awp_keepL [0, 1, 2, 9, 10, 11, 12] ?_
  simp only [zzJ, Nat.reduceBEq]
  refine awp_seq fun K2 hK2 => ?_
  refine awp_condS _ (by decide) (by simp only [look_cons, Nat.reduceBEq, cond_true, cond_false]; rfl) ?_ ?_
  · intro hb
    obtain ⟨x, post, rfl⟩ := more_of hb; clear hb
    have hp : pre.length < 4611686018427387904 := by simp at hl; omega
    have hpg := prev_get instC pre post x [] hp
    refine awp_skip ?_
    simp only [zz6, Nat.reduceEqDiff, ↓reduceIte]
    refine hK2 _ ?_; try clear hK2 K2
    refine awp_keepL [0, 1, 2, 9, 10, 11] ?_
    simp only [zzJ, Nat.reduceBEq]
    refine awp_seq fun K2 hK2 => ?_
    refine awp_block ?_
    refine awp_seq fun K3 hK3 => ?_
    refine awp_plain F_mixed [some 13, some 14, some 15, some 8, some 7, none] rfl ?_
    simp only [zzK, Nat.reduceLT, Nat.reduceLeDiff, Nat.reduceBEq, evS_move, evS_indexAddr, zz23, zz24, F_sl37, F_sz33, Option.map_some, zzC, yyE, reduceCtorEq, F_ok33, F_ag33, zz8, zzD, Nat.reduceAdd, Nat.zero_add, zzH, zz32, newRow1, F_zero33, zz10, evS_assign, zz18, splice, List.append_nil, zz1, zzG, instsD, instC, getD_mid, len_map, lt_mid, ge_mid, zz6, Nat.reduceEqDiff, ↓reduceIte]
    refine hK3 _ ?_; try clear hK3 K3
    refine awp_keepL [0, 1, 2, 7, 8, 9, 10, 11] ?_
    simp only [zzJ, Nat.reduceBEq]
    refine awp_seq fun K3 hK3 => ?_
    refine awp_draw F_mixed [some 16, some 17, some 18, some 19, some 20, some 21, some 22, some 23, some 24, some 25, some 26, some 27, some 28, some 29, some 30, some 31, some 32, some 33, some 34, some 35, some 36] rfl (by kernel_rfl) ?_
    simp only [zzK, Nat.reduceLT, Nat.reduceLeDiff, Nat.reduceBEq, Nat.reduceSub, S_getD, zz5, and_imp, imp_and, imp_self, evS_move, F_ok33, F_ag33, F_sz33, zz8, zz23, zzD, Nat.reduceAdd, Nat.zero_add, zzH, zzC, Option.map_some, yyE, reduceCtorEq, evS_call, evC_value, zz29, gr_v, zz30, zz21, zz25, zz33, evS_indexAddr, zz24, F_sl37, zz31, zz13, pickK_l, pickK_r, fnD, instsD, instC, len_map, hpg, D.agg.injEq, zz6, Nat.reduceEqDiff, ↓reduceIte]
    refine call_goT ?_ ?_ F_go61 (fun hG => instOk_ x) (by simp [AV.ids, AV.idsL]) (by simp) ?_
    · decide
    · simp only [look_cons, Nat.reduceBEq, cond_true, cond_false, bare_d, bare_wh, fnD]
    simp only [zzK, Nat.reduceLT, Nat.reduceLeDiff, Nat.reduceBEq, Nat.reduceSub, S_getD, zz5, and_imp, imp_and, imp_self, evS_move, F_ok33, F_ag33, F_sz33, zz8, zz23, zzD, Nat.reduceAdd, Nat.zero_add, zzH, zzC, Option.map_some, yyE, reduceCtorEq, evS_call, evC_value, zz29, gr_v, zz30, zz21, zz25, zz33, evS_indexAddr, zz24, F_sl37, zz31, zz13, pickK_l, pickK_r, fnD, instsD, instC, len_map, hpg, D.agg.injEq, zz6, Nat.reduceEqDiff, ↓reduceIte, Nat.reduceSub, S_getD, Gp_some, and_imp, imp_and, imp_self, atsL, oksG, freeN, AV.ren, AV.renL, addRows, ORow.row, Nat.reduceMul, Nat.reduceAdd, zz9, Option.bind_some, Option.map_some, S_mem, yyF, List.length_cons, zz2]
    refine ⟨⟨fun _ hp2 => prev_ok pre hp hp2, fun _ _ => prev_lt pre post x hp⟩, ?_⟩
    refine call_goT ?_ ?_ F_go60 (fun hG => noInst_ (lastOr x pre)) (by simp [AV.ids, AV.idsL]) (by simp) ?_
    · decide
    · simp only [look_cons, Nat.reduceBEq, cond_true, cond_false, bare_d, bare_wh, fnD]
    simp only [zzK, Nat.reduceLT, Nat.reduceLeDiff, Nat.reduceBEq, Nat.reduceSub, S_getD, zz5, and_imp, imp_and, imp_self, evS_move, F_ok33, F_ag33, F_sz33, zz8, zz23, zzD, Nat.reduceAdd, Nat.zero_add, zzH, zzC, Option.map_some, yyE, reduceCtorEq, evS_call, evC_value, zz29, gr_v, zz30, zz21, zz25, zz33, evS_indexAddr, zz24, F_sl37, zz31, zz13, pickK_l, pickK_r, fnD, instsD, instC, len_map, hpg, D.agg.injEq, zz6, Nat.reduceEqDiff, ↓reduceIte, Nat.reduceSub, S_getD, Gp_some, and_imp, imp_and, imp_self, atsL, oksG, freeN, AV.ren, AV.renL, addRows, ORow.row, Nat.reduceMul, Nat.reduceAdd, zz9, Option.bind_some, Option.map_some, S_mem, yyF, List.length_cons, zz2]
    refine call_goT ?_ ?_ F_go60 (fun hG => noInst_ x) (by simp [AV.ids, AV.idsL]) (by simp) ?_
    · decide
    · simp only [look_cons, Nat.reduceBEq, cond_true, cond_false, bare_d, bare_wh, fnD]
    simp only [zzK, Nat.reduceLT, Nat.reduceLeDiff, Nat.reduceBEq, Nat.reduceSub, S_getD, zz5, and_imp, imp_and, imp_self, evS_move, F_ok33, F_ag33, F_sz33, zz8, zz23, zzD, Nat.reduceAdd, Nat.zero_add, zzH, zzC, Option.map_some, yyE, reduceCtorEq, evS_call, evC_value, zz29, gr_v, zz30, zz21, zz25, zz33, evS_indexAddr, zz24, F_sl37, zz31, zz13, pickK_l, pickK_r, fnD, instsD, instC, len_map, hpg, D.agg.injEq, zz6, Nat.reduceEqDiff, ↓reduceIte, Nat.reduceSub, S_getD, Gp_some, and_imp, imp_and, imp_self, atsL, oksG, freeN, AV.ren, AV.renL, addRows, ORow.row, Nat.reduceMul, Nat.reduceAdd, zz9, Option.bind_some, Option.map_some, S_mem, yyF, List.length_cons, zz2]
    refine hK3 _ ?_; try clear hK3 K3
    refine awp_keepL [0, 1, 2, 9, 10, 11, 36] ?_
    simp only [zzJ, Nat.reduceBEq]
    refine awp_condS _ (by decide) (by simp only [look_cons, Nat.reduceBEq, cond_true, cond_false]; rfl) ?_ ?_
    · intro hb
      refine awp_seq fun K4 hK4 => ?_
      refine awp_plain F_mixed [some 6] rfl ?_
      simp only [zzK, Nat.reduceLT, Nat.reduceLeDiff, Nat.reduceBEq, evS_assign, zz6, Nat.reduceEqDiff, ↓reduceIte]
      refine hK4 _ ?_; try clear hK4 K4
      refine awp_keepL [6] ?_
      simp only [zzJ, Nat.reduceBEq]
      refine awp_ret ?_
      simp only [zz6, Nat.reduceEqDiff, ↓reduceIte]
      refine done0 (by simp only [resCs, resC]; trivial) ?_ (by simp [flatA, flatAs, flatD]) (by simp [AV.ids, AV.idsL])
      simp only [List.map_cons, List.map_nil, resA, S_getD, Nat.reduceLT, Nat.reduceLeDiff, look_cons, Nat.reduceBEq, cond_true, cond_false, resAll]
      rw [hck, chk_step, hb]; simp
    · intro hb
      refine awp_skip ?_
      simp only [zz6, Nat.reduceEqDiff, ↓reduceIte]
      refine hK2 _ ?_; try clear hK2 K2
      refine awp_keepL [0, 1, 2, 9, 10, 11] ?_
      simp only [zzJ, Nat.reduceBEq]
      refine awp_plain F_mixed [some 37, some 11] rfl ?_
      simp only [zzK, Nat.reduceLT, Nat.reduceLeDiff, Nat.reduceBEq, zz21, gr_v, zz26, evS_move, zz6, Nat.reduceEqDiff, ↓reduceIte]
      refine ⟨post.length, _, by simp, le_S0 (l' := [(0, .d (instsD (pre ++ x :: post))), (1, .d (fnD 60)), (2, .d (fnD 61)), (9, .d (instsD (pre ++ x :: post))), (10, .d (iv (pre ++ x :: post).length)), (11, .d (iv (pre ++ [x]).length))]) ?_ ?_, pre ++ [x], post, by simp, by rw [hck, chk_step, hb]; simp, rfl, rfl⟩
      · simp only [leL, look_cons, Nat.reduceBEq, cond_true, cond_false, wrap_len pre x (by simp at hl; omega), instsD, fnD]; trivial
      · simp [wfV, AV.ids]
  · intro hb
    obtain rfl := none_of hb; clear hb
    refine awp_exit ?_
    simp only [zz6, Nat.reduceEqDiff, ↓reduceIte]
    refine hK0 _ ?_; try clear hK0 K0
    refine awp_keepL [] ?_
    simp only [zzJ, Nat.reduceBEq]
    refine awp_seq fun K0 hK0 => ?_
    refine awp_plain F_mixed [some 6] rfl ?_
    simp only [zzK, Nat.reduceLT, Nat.reduceLeDiff, Nat.reduceBEq, evS_assign, zz6, Nat.reduceEqDiff, ↓reduceIte]
    refine hK0 _ ?_; try clear hK0 K0
    refine awp_keepL [6] ?_
    simp only [zzJ, Nat.reduceBEq]
    refine awp_ret ?_
    simp only [zz6, Nat.reduceEqDiff, ↓reduceIte]
    refine done0 (by simp only [resCs, resC]; trivial) ?_ (by simp [flatA, flatAs, flatD]) (by simp [AV.ids, AV.idsL])
    simp only [List.map_cons, List.map_nil, resA, S_getD, Nat.reduceLT, Nat.reduceLeDiff, look_cons, Nat.reduceBEq, cond_true, cond_false, resAll]
    rw [hck]; rfl
theorem risesA_ (l : List AssetV) (hl : l.length < 4611686018427387904) : ACalls Try.prog 62 [assetsD l, fnD 63, fnD 64] [] (bv (chk assetOk AssetV.no none l)) := by
  refine acalls_S (rs := [.tmp 6]) Try.func62 rfl rfl 38 [(0, .d (assetsD l)), (1, .d (fnD 63)), (2, .d (fnD 64))] rfl (by simp) rfl ?_
  refine awp_seq fun K0 hK0 => ?_
  refine awp_plain F_mixed [some 6] rfl ?_
  simp only [zzK, Nat.reduceLT, Nat.reduceLeDiff, Nat.reduceBEq, evS_assign, zz6, Nat.reduceEqDiff, ↓reduceIte]
  refine hK0 _ ?_; try clear hK0 K0
  refine awp_keepL [0, 1, 2] ?_
  simp only [zzJ, Nat.reduceBEq]
  refine awp_seq fun K0 hK0 => ?_
  refine awp_seq fun K1 hK1 => ?_
  refine awp_plain F_mixed [some 9, some 10, some 11] rfl ?_
  simp only [zzK, Nat.reduceLT, Nat.reduceLeDiff, Nat.reduceBEq, evS_move, evS_call, zz12, F_sl38, Option.isSome_some, assetsD, len_map, zz6, Nat.reduceEqDiff, ↓reduceIte]
  refine hK1 _ ?_; try clear hK1 K1
  refine awp_keepL [0, 1, 2, 9, 10, 11] ?_
  simp only [zzJ, Nat.reduceBEq]
  refine awp_block ?_
  refine awp_loop (fun m s => ∃ pre post : List AssetV, l = pre ++ post ∧ chk assetOk AssetV.no none l = chk assetOk AssetV.no pre.getLast? post ∧ m = post.length ∧ s = S 38 [(0, .d (assetsD l)), (1, .d (fnD 63)), (2, .d (fnD 64)), (9, .d (assetsD l)), (10, .d (iv l.length)), (11, .d (iv pre.length))] []) l.length _ (le_S0 (l' := [(0, .d (assetsD l)), (1, .d (fnD 63)), (2, .d (fnD 64)), (9, .d (assetsD l)), (10, .d (iv l.length)), (11, .d (iv ([] : List AssetV).length))]) ?_ ?_) ⟨[], l, rfl, rfl, rfl, rfl⟩ ?_
  · simp only [leL, look_cons, Nat.reduceBEq, cond_true, cond_false, assetsD, len_map, List.length_nil]; trivial
  · simp [wfV, AV.ids]
  rintro m s ⟨pre, post, rfl, hck, rfl, rfl⟩
  refine awp_seq fun K2 hK2 => ?_
  refine awp_plain F_mixed [some 12] rfl ?_
  simp only [zzK, Nat.reduceLT, Nat.reduceLeDiff, Nat.reduceBEq, zz21, gr_v, zz22, zz6, Nat.reduceEqDiff, ↓reduceIte]
  refine hK2 _ ?_; try clear hK2 K2
  refine awp_keepL [0, 1, 2, 9, 10, 11, 12] ?_
  simp only [zzJ, Nat.reduceBEq]
  refine awp_seq fun K2 hK2 => ?_
  refine awp_condS _ (by decide) (by simp only [look_cons, Nat.reduceBEq, cond_true, cond_false]; rfl) ?_ ?_
  · intro hb
    obtain ⟨x, post, rfl⟩ := more_of hb; clear hb
    have hp : pre.length < 4611686018427387904 := by simp at hl; omega
    have hpg := prev_get assetC pre post x [] hp
    refine awp_skip ?_
    simp only [zz6, Nat.reduceEqDiff, ↓reduceIte]
    refine hK2 _ ?_; try clear hK2 K2
    refine awp_keepL [0, 1, 2, 9, 10, 11] ?_
    simp only [zzJ, Nat.reduceBEq]
    refine awp_seq fun K2 hK2 => ?_
    refine awp_block ?_
    refine awp_seq fun K3 hK3 => ?_
    refine awp_plain F_mixed [some 13, some 14, some 15, some 8, some 7, none] rfl ?_
    simp only [zzK, Nat.reduceLT, Nat.reduceLeDiff, Nat.reduceBEq, evS_move, evS_indexAddr, zz23, zz24, F_sl38, F_sz115, Option.map_some, zzC, yyE, reduceCtorEq, F_ok115, F_ag115, zz8, zzD, Nat.reduceAdd, Nat.zero_add, zzH, zz32, newRow1, F_zero115, zz10, evS_assign, zz18, splice, List.append_nil, zz1, zzG, assetsD, assetC, getD_mid, len_map, lt_mid, ge_mid, zz6, Nat.reduceEqDiff, ↓reduceIte]
    refine hK3 _ ?_; try clear hK3 K3
    refine awp_keepL [0, 1, 2, 7, 8, 9, 10, 11] ?_
    simp only [zzJ, Nat.reduceBEq]
    refine awp_seq fun K3 hK3 => ?_
    refine awp_draw F_mixed [some 16, some 17, some 18, some 19, some 20, some 21, some 22, some 23, some 24, some 25, some 26, some 27, some 28, some 29, some 30, some 31, some 32, some 33, some 34, some 35, some 36] rfl (by kernel_rfl) ?_
    simp only [zzK, Nat.reduceLT, Nat.reduceLeDiff, Nat.reduceBEq, Nat.reduceSub, S_getD, zz5, and_imp, imp_and, imp_self, evS_move, F_ok115, F_ag115, F_sz115, zz8, zz23, zzD, Nat.reduceAdd, Nat.zero_add, zzH, zzC, Option.map_some, yyE, reduceCtorEq, evS_call, evC_value, zz29, gr_v, zz30, zz21, zz25, zz33, evS_indexAddr, zz24, F_sl38, zz31, zz13, pickK_l, pickK_r, fnD, assetsD, assetC, len_map, hpg, D.agg.injEq, zz6, Nat.reduceEqDiff, ↓reduceIte]
    refine call_goT ?_ ?_ F_go64 (fun hG => assetOk_ x) (by simp [AV.ids, AV.idsL]) (by simp) ?_
    · decide
    · simp only [look_cons, Nat.reduceBEq, cond_true, cond_false, bare_d, bare_wh, fnD]
    simp only [zzK, Nat.reduceLT, Nat.reduceLeDiff, Nat.reduceBEq, Nat.reduceSub, S_getD, zz5, and_imp, imp_and, imp_self, evS_move, F_ok115, F_ag115, F_sz115, zz8, zz23, zzD, Nat.reduceAdd, Nat.zero_add, zzH, zzC, Option.map_some, yyE, reduceCtorEq, evS_call, evC_value, zz29, gr_v, zz30, zz21, zz25, zz33, evS_indexAddr, zz24, F_sl38, zz31, zz13, pickK_l, pickK_r, fnD, assetsD, assetC, len_map, hpg, D.agg.injEq, zz6, Nat.reduceEqDiff, ↓reduceIte, Nat.reduceSub, S_getD, Gp_some, and_imp, imp_and, imp_self, atsL, oksG, freeN, AV.ren, AV.renL, addRows, ORow.row, Nat.reduceMul, Nat.reduceAdd, zz9, Option.bind_some, Option.map_some, S_mem, yyF, List.length_cons, zz2]
    refine ⟨⟨fun _ hp2 => prev_ok pre hp hp2, fun _ _ => prev_lt pre post x hp⟩, ?_⟩
    refine call_goT ?_ ?_ F_go63 (fun hG => noAsset_ (lastOr x pre)) (by simp [AV.ids, AV.idsL]) (by simp) ?_
    · decide
    · simp only [look_cons, Nat.reduceBEq, cond_true, cond_false, bare_d, bare_wh, fnD]
    simp only [zzK, Nat.reduceLT, Nat.reduceLeDiff, Nat.reduceBEq, Nat.reduceSub, S_getD, zz5, and_imp, imp_and, imp_self, evS_move, F_ok115, F_ag115, F_sz115, zz8, zz23, zzD, Nat.reduceAdd, Nat.zero_add, zzH, zzC, Option.map_some, yyE, reduceCtorEq, evS_call, evC_value, zz29, gr_v, zz30, zz21, zz25, zz33, evS_indexAddr, zz24, F_sl38, zz31, zz13, pickK_l, pickK_r, fnD, assetsD, assetC, len_map, hpg, D.agg.injEq, zz6, Nat.reduceEqDiff, ↓reduceIte, Nat.reduceSub, S_getD, Gp_some, and_imp, imp_and, imp_self, atsL, oksG, freeN, AV.ren, AV.renL, addRows, ORow.row, Nat.reduceMul, Nat.reduceAdd, zz9, Option.bind_some, Option.map_some, S_mem, yyF, List.length_cons, zz2]
    refine call_goT ?_ ?_ F_go63 (fun hG => noAsset_ x) (by simp [AV.ids, AV.idsL]) (by simp) ?_
    · decide
    · simp only [look_cons, Nat.reduceBEq, cond_true, cond_false, bare_d, bare_wh, fnD]
    simp only [zzK, Nat.reduceLT, Nat.reduceLeDiff, Nat.reduceBEq, Nat.reduceSub, S_getD, zz5, and_imp, imp_and, imp_self, evS_move, F_ok115, F_ag115, F_sz115, zz8, zz23, zzD, Nat.reduceAdd, Nat.zero_add, zzH, zzC, Option.map_some, yyE, reduceCtorEq, evS_call, evC_value, zz29, gr_v, zz30, zz21, zz25, zz33, evS_indexAddr, zz24, F_sl38, zz31, zz13, pickK_l, pickK_r, fnD, assetsD, assetC, len_map, hpg, D.agg.injEq, zz6, Nat.reduceEqDiff, ↓reduceIte, Nat.reduceSub, S_getD, Gp_some, and_imp, imp_and, imp_self, atsL, oksG, freeN, AV.ren, AV.renL, addRows, ORow.row, Nat.reduceMul, Nat.reduceAdd, zz9, Option.bind_some, Option.map_some, S_mem, yyF, List.length_cons, zz2]
    refine hK3 _ ?_; try clear hK3 K3
    refine awp_keepL [0, 1, 2, 9, 10, 11, 36] ?_
    simp only [zzJ, Nat.reduceBEq]
    refine awp_condS _ (by decide) (by simp only [look_cons, Nat.reduceBEq, cond_true, cond_false]; rfl) ?_ ?_
    · intro hb
      refine awp_seq fun K4 hK4 => ?_
      refine awp_plain F_mixed [some 6] rfl ?_
      simp only [zzK, Nat.reduceLT, Nat.reduceLeDiff, Nat.reduceBEq, evS_assign, zz6, Nat.reduceEqDiff, ↓reduceIte]
      refine hK4 _ ?_; try clear hK4 K4
      refine awp_keepL [6] ?_
      simp only [zzJ, Nat.reduceBEq]
      refine awp_ret ?_
      simp only [zz6, Nat.reduceEqDiff, ↓reduceIte]
      refine done0 (by simp only [resCs, resC]; trivial) ?_ (by simp [flatA, flatAs, flatD]) (by simp [AV.ids, AV.idsL])
      simp only [List.map_cons, List.map_nil, resA, S_getD, Nat.reduceLT, Nat.reduceLeDiff, look_cons, Nat.reduceBEq, cond_true, cond_false, resAll]
      rw [hck, chk_step, hb]; simp
    · intro hb
      refine awp_skip ?_
      simp only [zz6, Nat.reduceEqDiff, ↓reduceIte]
      refine hK2 _ ?_; try clear hK2 K2
      refine awp_keepL [0, 1, 2, 9, 10, 11] ?_
      simp only [zzJ, Nat.reduceBEq]
      refine awp_plain F_mixed [some 37, some 11] rfl ?_
      simp only [zzK, Nat.reduceLT, Nat.reduceLeDiff, Nat.reduceBEq, zz21, gr_v, zz26, evS_move, zz6, Nat.reduceEqDiff, ↓reduceIte]
      refine ⟨post.length, _, by simp, le_S0 (l' := [(0, .d (assetsD (pre ++ x :: post))), (1, .d (fnD 63)), (2, .d (fnD 64)), (9, .d (assetsD (pre ++ x :: post))), (10, .d (iv (pre ++ x :: post).length)), (11, .d (iv (pre ++ [x]).length))]) ?_ ?_, pre ++ [x], post, by simp, by rw [hck, chk_step, hb]; simp, rfl, rfl⟩
      · simp only [leL, look_cons, Nat.reduceBEq, cond_true, cond_false, wrap_len pre x (by simp at hl; omega), assetsD, fnD]; trivial
      · simp [wfV, AV.ids]
  · intro hb
    obtain rfl := none_of hb; clear hb
    refine awp_exit ?_
    simp only [zz6, Nat.reduceEqDiff, ↓reduceIte]
    refine hK0 _ ?_; try clear hK0 K0
    refine awp_keepL [] ?_
    simp only [zzJ, Nat.reduceBEq]
    refine awp_seq fun K0 hK0 => ?_
    refine awp_plain F_mixed [some 6] rfl ?_
    simp only [zzK, Nat.reduceLT, Nat.reduceLeDiff, Nat.reduceBEq, evS_assign, zz6, Nat.reduceEqDiff, ↓reduceIte]
    refine hK0 _ ?_; try clear hK0 K0
    refine awp_keepL [6] ?_
    simp only [zzJ, Nat.reduceBEq]
    refine awp_ret ?_
    simp only [zz6, Nat.reduceEqDiff, ↓reduceIte]
    refine done0 (by simp only [resCs, resC]; trivial) ?_ (by simp [flatA, flatAs, flatD]) (by simp [AV.ids, AV.idsL])
    simp only [List.map_cons, List.map_nil, resA, S_getD, Nat.reduceLT, Nat.reduceLeDiff, look_cons, Nat.reduceBEq, cond_true, cond_false, resAll]
    rw [hck]; rfl
theorem check_ (r : RollV) (h : r.Small) : ACalls Try.prog 37 [.agg (rollC r)] [] (.d (iv (rollE r))) := by
  refine acalls_S (rs := [.tmp 2]) Try.func37 rfl rfl 19 [(0, .d (.agg (rollC r)))] rfl (by simp) rfl ?_
  refine awp_seq fun K0 hK0 => ?_
  refine awp_plain F_mixed [some 1, some 2] rfl ?_
  simp only [zzK, Nat.reduceLT, Nat.reduceLeDiff, Nat.reduceBEq, zz35, newRow1, zz1, zzG, zzD, zzC, Option.map_some, yyE, reduceCtorEq, Nat.reduceAdd, Nat.zero_add, zzH, evS_assign, rollC, memsD, instsD, assetsD, zz6, Nat.reduceEqDiff, ↓reduceIte]
  refine hK0 _ ?_; try clear hK0 K0
  refine awp_keepL [1] ?_
  simp only [zzJ, Nat.reduceBEq]
  refine awp_seq fun K0 hK0 => ?_
  refine awp_seq fun K1 hK1 => ?_
  refine awp_plain F_mixed [some 3, some 4, some 5, some 6, some 7, some 8, some 9, some 10, some 11, some 12, some 13, some 14, some 15, some 16, some 17, some 18] rfl ?_
  simp only [zzK, Nat.reduceLT, Nat.reduceLeDiff, Nat.reduceBEq, Nat.reduceSub, S_getD, zz5, and_imp, imp_and, imp_self, zz19, zz23, F_off40_0, zzH, Nat.zero_add, Nat.reduceAdd, F_ok36, F_ag36, F_sz36, zz8, zzD, zzC, Option.map_some, yyE, reduceCtorEq, evS_call, evC_value, zz29, gr_v, zz30, evS_move, F_off40_1, F_ok37, F_ag37, F_sz37, zz13, pickK_l, pickK_r, F_off40_2, F_ok38, F_ag38, F_sz38, memsD, instsD, assetsD, fnD, zz6, Nat.reduceEqDiff, ↓reduceIte]
  refine call_go F_go56 (fun hG => risesM_ r.mems (by have := h.mems; omega)) (by simp [AV.ids, AV.idsL]) (by simp) ?_
  simp only [zzK, Nat.reduceLT, Nat.reduceLeDiff, Nat.reduceBEq, Nat.reduceSub, S_getD, zz5, and_imp, imp_and, imp_self, zz19, zz23, F_off40_0, zzH, Nat.zero_add, Nat.reduceAdd, F_ok36, F_ag36, F_sz36, zz8, zzD, zzC, Option.map_some, yyE, reduceCtorEq, evS_call, evC_value, zz29, gr_v, zz30, evS_move, F_off40_1, F_ok37, F_ag37, F_sz37, zz13, pickK_l, pickK_r, F_off40_2, F_ok38, F_ag38, F_sz38, memsD, instsD, assetsD, fnD, zz6, Nat.reduceEqDiff, ↓reduceIte, atsL, oksG, freeN, AV.ren, AV.renL, addRows, ORow.row, Nat.reduceMul, Nat.reduceAdd, zz9, Option.bind_some, Option.map_some, S_mem, yyF, List.length_cons, zz2]
  refine call_go F_go59 (fun hG => risesI_ r.insts (by have := h.insts; omega)) (by simp [AV.ids, AV.idsL]) (by simp) ?_
  simp only [zzK, Nat.reduceLT, Nat.reduceLeDiff, Nat.reduceBEq, Nat.reduceSub, S_getD, zz5, and_imp, imp_and, imp_self, zz19, zz23, F_off40_0, zzH, Nat.zero_add, Nat.reduceAdd, F_ok36, F_ag36, F_sz36, zz8, zzD, zzC, Option.map_some, yyE, reduceCtorEq, evS_call, evC_value, zz29, gr_v, zz30, evS_move, F_off40_1, F_ok37, F_ag37, F_sz37, zz13, pickK_l, pickK_r, F_off40_2, F_ok38, F_ag38, F_sz38, memsD, instsD, assetsD, fnD, zz6, Nat.reduceEqDiff, ↓reduceIte, atsL, oksG, freeN, AV.ren, AV.renL, addRows, ORow.row, Nat.reduceMul, Nat.reduceAdd, zz9, Option.bind_some, Option.map_some, S_mem, yyF, List.length_cons, zz2]
  refine call_go F_go62 (fun hG => risesA_ r.assets (by have := h.assets; omega)) (by simp [AV.ids, AV.idsL]) (by simp) ?_
  simp only [zzK, Nat.reduceLT, Nat.reduceLeDiff, Nat.reduceBEq, Nat.reduceSub, S_getD, zz5, and_imp, imp_and, imp_self, zz19, zz23, F_off40_0, zzH, Nat.zero_add, Nat.reduceAdd, F_ok36, F_ag36, F_sz36, zz8, zzD, zzC, Option.map_some, yyE, reduceCtorEq, evS_call, evC_value, zz29, gr_v, zz30, evS_move, F_off40_1, F_ok37, F_ag37, F_sz37, zz13, pickK_l, pickK_r, F_off40_2, F_ok38, F_ag38, F_sz38, memsD, instsD, assetsD, fnD, zz6, Nat.reduceEqDiff, ↓reduceIte, atsL, oksG, freeN, AV.ren, AV.renL, addRows, ORow.row, Nat.reduceMul, Nat.reduceAdd, zz9, Option.bind_some, Option.map_some, S_mem, yyF, List.length_cons, zz2]
  refine hK1 _ ?_; try clear hK1 K1
  refine awp_keepL [18] ?_
  simp only [zzJ, Nat.reduceBEq]
  refine awp_condS _ (by decide) (by simp only [look_cons, Nat.reduceBEq, cond_true, cond_false]; rfl) ?_ ?_
  · intro hb
    refine awp_seq fun K2 hK2 => ?_
    refine awp_plain F_mixed [some 2] rfl ?_
    simp only [zzK, Nat.reduceLT, Nat.reduceLeDiff, Nat.reduceBEq, evS_assign, zz6, Nat.reduceEqDiff, ↓reduceIte]
    refine hK2 _ ?_; try clear hK2 K2
    refine awp_keepL [2] ?_
    simp only [zzJ, Nat.reduceBEq]
    refine awp_ret ?_
    simp only [zz6, Nat.reduceEqDiff, ↓reduceIte]
    refine done0 (by simp only [resCs, resC]; trivial) ?_ (by simp [flatA, flatAs, flatD]) (by simp [AV.ids, AV.idsL])
    simp only [List.map_cons, List.map_nil, resA, S_getD, Nat.reduceLT, Nat.reduceLeDiff, look_cons, Nat.reduceBEq, cond_true, cond_false, resAll]
    have e : rollOk r = false := by
      cases hk : rollOk r
      · rfl
      · simp [rollOk] at hk; simp [hk] at hb
    simp only [rollE, e, cond_false]
  · intro hb
    refine awp_skip ?_
    simp only [zz6, Nat.reduceEqDiff, ↓reduceIte]
    refine hK0 _ ?_; try clear hK0 K0
    refine awp_keepL [] ?_
    simp only [zzJ, Nat.reduceBEq]
    refine awp_seq fun K0 hK0 => ?_
    refine awp_plain F_mixed [some 2] rfl ?_
    simp only [zzK, Nat.reduceLT, Nat.reduceLeDiff, Nat.reduceBEq, evS_assign, zz6, Nat.reduceEqDiff, ↓reduceIte]
    refine hK0 _ ?_; try clear hK0 K0
    refine awp_keepL [2] ?_
    simp only [zzJ, Nat.reduceBEq]
    refine awp_ret ?_
    simp only [zz6, Nat.reduceEqDiff, ↓reduceIte]
    refine done0 (by simp only [resCs, resC]; trivial) ?_ (by simp [flatA, flatAs, flatD]) (by simp [AV.ids, AV.idsL])
    simp only [List.map_cons, List.map_nil, resA, S_getD, Nat.reduceLT, Nat.reduceLeDiff, look_cons, Nat.reduceBEq, cond_true, cond_false, resAll]
    have e : rollOk r = true := by simp only [Bool.or_eq_false_iff, Bool.not_eq_false'] at hb; simp [rollOk, hb]
    simp only [rollE, e, cond_true]
theorem heavy_ (r : RollV) : ACalls Try.prog 11 [.agg (rollC r)] [] (bv (heavy r)) := by
  refine acalls_S (rs := [.tmp 2]) Try.func11 rfl rfl 19 [(0, .d (.agg (rollC r)))] rfl (by simp) rfl ?_
  refine awp_seq fun K0 hK0 => ?_
  refine awp_plain F_mixed [some 1, some 2] rfl ?_
  simp only [zzK, Nat.reduceLT, Nat.reduceLeDiff, Nat.reduceBEq, zz35, newRow1, zz1, zzG, zzD, zzC, Option.map_some, yyE, reduceCtorEq, Nat.reduceAdd, Nat.zero_add, zzH, evS_assign, rollC, memsD, instsD, assetsD, zz6, Nat.reduceEqDiff, ↓reduceIte]
  refine hK0 _ ?_; try clear hK0 K0
  refine awp_keepL [1] ?_
  simp only [zzJ, Nat.reduceBEq]
  refine awp_seq fun K0 hK0 => ?_
  refine awp_plain F_mixed [some 3, some 4, some 5, some 6, some 7, some 8, some 9, some 10, some 11, some 12, some 13, some 14, some 15, some 16, some 17, some 18, some 2] rfl ?_
  simp only [zzK, Nat.reduceLT, Nat.reduceLeDiff, Nat.reduceBEq, Nat.reduceSub, S_getD, zz5, and_imp, imp_and, imp_self, zz19, zz23, F_off40_0, zzH, Nat.zero_add, Nat.reduceAdd, F_ok36, F_ag36, F_sz36, zz8, zzD, zzC, Option.map_some, yyE, reduceCtorEq, evS_call, zz12, F_sl36, Option.isSome_some, zz21, gr_v, zz25, evS_move, F_off40_1, F_ok37, F_ag37, F_sz37, F_sl37, zz13, pickK_l, pickK_r, F_off40_2, F_ok38, F_ag38, F_sz38, F_sl38, evS_assign, memsD, instsD, assetsD, len_map, zz6, Nat.reduceEqDiff, ↓reduceIte]
  refine hK0 _ ?_; try clear hK0 K0
  refine awp_keepL [2] ?_
  simp only [zzJ, Nat.reduceBEq]
  refine awp_ret ?_
  simp only [zz6, Nat.reduceEqDiff, ↓reduceIte]
  refine done0 (by simp only [resCs, resC]; trivial) ?_ (by simp [flatA, flatAs, flatD]) (by simp [AV.ids, AV.idsL])
  simp only [List.map_cons, List.map_nil, resA, S_getD, Nat.reduceLT, Nat.reduceLeDiff, look_cons, Nat.reduceBEq, cond_true, cond_false, resAll]
  rfl
theorem findIn_ (l : List InstV) (n : Int) (hl : l.length ≤ 1000000) : ACalls Try.prog 82 [instsD l, fnD 60, iv n] [] (.tp [instA (findX InstV.no n zInst l), .d (iv (findI InstV.no n 0 l))]) := by
  refine acalls_S (rs := [.cell 6 33, .tmp 7]) Try.func82 rfl rfl 27 [(0, .d (instsD l)), (1, .d (fnD 60)), (2, .d (iv n))] rfl (by simp) rfl ?_
  refine awp_seq fun K0 hK0 => ?_
  refine awp_plain F_mixed [some 6, some 7] rfl ?_
  simp only [zzK, Nat.reduceLT, Nat.reduceLeDiff, Nat.reduceBEq, zz32, newRow1, F_zero33, zzC, Option.map_some, yyE, reduceCtorEq, zzD, Nat.reduceAdd, Nat.zero_add, zzH, zz10, evS_assign, zz6, Nat.reduceEqDiff, ↓reduceIte]
  refine hK0 _ ?_; try clear hK0 K0
  refine awp_keepL [0, 1, 2, 6] ?_
  simp only [zzJ, Nat.reduceBEq]
  refine awp_seq fun K0 hK0 => ?_
  refine awp_seq fun K1 hK1 => ?_
  refine awp_plain F_mixed [some 11, some 12, some 13] rfl ?_
  simp only [zzK, Nat.reduceLT, Nat.reduceLeDiff, Nat.reduceBEq, evS_move, evS_call, zz12, F_sl37, Option.isSome_some, instsD, len_map, zz6, Nat.reduceEqDiff, ↓reduceIte]
  refine hK1 _ ?_; try clear hK1 K1
  refine awp_keepL [1, 2, 6, 11, 12, 13] ?_
  simp only [zzJ, Nat.reduceBEq]
  refine awp_block ?_
  refine awp_loop (fun m s => ∃ pre post : List InstV, l = pre ++ post ∧ findX InstV.no n zInst l = findX InstV.no n zInst post ∧ findI InstV.no n 0 l = findI InstV.no n pre.length post ∧ m = post.length ∧ s = S 27 [(1, .d (fnD 60)), (2, .d (iv n)), (6, .ptr 6 0 0), (11, .d (instsD l)), (12, .d (iv l.length)), (13, .d (iv pre.length))] [(6, (⟨True, 33, 12, true, false, 6, [[.d (.v (.int .i64 0)), .d (.v (.int .i64 0)), .d (.v (.int .i64 0)), .d (.v (.int .i64 0)), .d (.v (.int .i64 0)), .d (.v (.int .i64 0)), .d (.v (.int .i64 0)), .d (.v (.int .i64 0)), .d (.v (.int .i64 0)), .d (.v (.int .i64 0)), .d (.v (.int .i64 0)), .d (.v (.int .i64 0))]]⟩ : ARow))]) l.length _ (le_SK id [] rfl (l' := [(1, .d (fnD 60)), (2, .d (iv n)), (6, .ptr 6 0 0), (11, .d (instsD l)), (12, .d (iv l.length)), (13, .d (iv ([] : List InstV).length))]) (m' := [(6, (⟨True, 33, 12, true, false, 6, [[.d (.v (.int .i64 0)), .d (.v (.int .i64 0)), .d (.v (.int .i64 0)), .d (.v (.int .i64 0)), .d (.v (.int .i64 0)), .d (.v (.int .i64 0)), .d (.v (.int .i64 0)), .d (.v (.int .i64 0)), .d (.v (.int .i64 0)), .d (.v (.int .i64 0)), .d (.v (.int .i64 0)), .d (.v (.int .i64 0))]]⟩ : ARow))]) ?_ ?_ ?_ ?_) ⟨[], l, rfl, rfl, rfl, rfl, rfl⟩ ?_
  · simp only [leV, look_cons, Nat.reduceBEq, cond_true, cond_false, instsD, len_map]; exact ⟨VLe.refl _, VLe.refl _, VLe.refl _, VLe.refl _, VLe.refl _, VLe.refl _, trivial⟩
  · exact ⟨fun _ => ⟨_, rfl, ⟨id, rfl, rfl, fun _ => rfl, id, .inl, VLess.refl _⟩⟩, fun h => by simp at h, trivial⟩
  · simp [wfV, AV.ids, lookR]
  · simp [wfR, AV.idsL, AV.ids]
  rintro m s ⟨pre, post, rfl, hfx, hfi, rfl, rfl⟩
  refine awp_seq fun K2 hK2 => ?_
  refine awp_plain F_mixed [some 14] rfl ?_
  simp only [zzK, Nat.reduceLT, Nat.reduceLeDiff, Nat.reduceBEq, zz21, gr_v, zz22, zz6, Nat.reduceEqDiff, ↓reduceIte]
  refine hK2 _ ?_; try clear hK2 K2
  refine awp_keepL [1, 2, 6, 11, 12, 13, 14] ?_
  simp only [zzJ, Nat.reduceBEq]
  refine awp_seq fun K2 hK2 => ?_
  refine awp_condS _ (by decide) (by simp only [look_cons, Nat.reduceBEq, cond_true, cond_false]; rfl) ?_ ?_
  · intro hb
    obtain ⟨x, post, rfl⟩ := more_of hb; clear hb
    refine awp_skip ?_
    simp only [zz6, Nat.reduceEqDiff, ↓reduceIte]
    refine hK2 _ ?_; try clear hK2 K2
    refine awp_keepL [1, 2, 6, 11, 12, 13] ?_
    simp only [zzJ, Nat.reduceBEq]
    refine awp_seq fun K2 hK2 => ?_
    refine awp_block ?_
    refine awp_seq fun K3 hK3 => ?_
    refine awp_plain F_mixed [some 15, some 16, some 17, some 9, some 8, none] rfl ?_
    simp only [zzK, Nat.reduceLT, Nat.reduceLeDiff, Nat.reduceBEq, evS_move, evS_indexAddr, zz23, zz24, F_sl37, F_sz33, Option.map_some, zzC, yyE, reduceCtorEq, F_ok33, F_ag33, zz8, zzD, Nat.reduceAdd, Nat.zero_add, zzH, zz32, newRow1, F_zero33, zz10, evS_assign, zz18, splice, List.append_nil, zz1, zzG, instsD, instC, getD_mid, len_map, lt_mid, ge_mid, zz6, Nat.reduceEqDiff, ↓reduceIte]
    refine hK3 _ ?_; try clear hK3 K3
    refine awp_keepL [1, 2, 6, 8, 9, 11, 12, 13] ?_
    simp only [zzJ, Nat.reduceBEq]
    refine awp_seq fun K3 hK3 => ?_
    refine awp_plain F_mixed [some 18, some 19, some 20, some 21, some 22] rfl ?_
    simp only [zzK, Nat.reduceLT, Nat.reduceLeDiff, Nat.reduceBEq, evS_move, F_ok33, F_ag33, F_sz33, zz8, zz23, zzD, Nat.reduceAdd, Nat.zero_add, zzH, zzC, Option.map_some, yyE, reduceCtorEq, evS_call, evC_value, zz21, gr_v, zz34, fnD, instC, D.agg.injEq, zz6, Nat.reduceEqDiff, ↓reduceIte]
    refine call_goT ?_ ?_ F_go60 (fun hG => noInst_ x) (by simp [AV.ids, AV.idsL]) (by simp) ?_
    · decide
    · simp only [look_cons, Nat.reduceBEq, cond_true, cond_false, bare_d, bare_wh, fnD]
    simp only [zzK, Nat.reduceLT, Nat.reduceLeDiff, Nat.reduceBEq, evS_move, F_ok33, F_ag33, F_sz33, zz8, zz23, zzD, Nat.reduceAdd, Nat.zero_add, zzH, zzC, Option.map_some, yyE, reduceCtorEq, evS_call, evC_value, zz21, gr_v, zz34, fnD, instC, D.agg.injEq, zz6, Nat.reduceEqDiff, ↓reduceIte, Nat.reduceSub, S_getD, zz5, and_imp, imp_and, imp_self, atsL, oksG, freeN, AV.ren, AV.renL, addRows, ORow.row, Nat.reduceMul, Nat.reduceAdd, zz9, Option.bind_some, Option.map_some, S_mem, yyF, List.length_cons, zz2]
    refine hK3 _ ?_; try clear hK3 K3
    refine awp_keepL [1, 2, 6, 8, 9, 11, 12, 13, 22] ?_
    simp only [zzJ, Nat.reduceBEq]
    refine awp_condS _ (by decide) (by simp only [look_cons, Nat.reduceBEq, cond_true, cond_false]; rfl) ?_ ?_
    · intro hb
      refine awp_seq fun K4 hK4 => ?_
      refine awp_plain F_mixed [some 23, some 24, none, some 7] rfl ?_
      simp only [zzK, Nat.reduceLT, Nat.reduceLeDiff, Nat.reduceBEq, F_ok33, F_ag33, F_sz33, zz8, zz23, zzD, Nat.reduceAdd, Nat.zero_add, zzH, zzC, Option.map_some, yyE, reduceCtorEq, evS_move, zz18, splice, List.append_nil, zz1, zzG, evS_assign, zz6, Nat.reduceEqDiff, ↓reduceIte]
      refine hK4 _ ?_; try clear hK4 K4
      refine awp_keepL [6, 7] ?_
      simp only [zzJ, Nat.reduceBEq]
      refine awp_ret ?_
      simp only [zz6, Nat.reduceEqDiff, ↓reduceIte]
      refine done0 (by simp [resCs, resC, S, List.getD, look_cons, lookR, F_ag33, F_sz33, F_ok33]) ?_ (by simp [flatA, flatAs, flatD, instA, instC]) (by simp [AV.ids, AV.idsL, instA, instC])
      simp only [List.map_cons, List.map_nil, resA, S_getD, S_mem, lookR_cons, lookR_nil, Nat.reduceLT, Nat.reduceLeDiff, look_cons, Nat.reduceBEq, cond_true, cond_false, resAll, List.getD_cons_zero, List.getD_cons_succ, List.drop_zero, List.drop_succ_cons, List.take_succ_cons, List.take_zero, F_ag33, F_sz33, F_ok33]
      rw [hfx, hfi, findX, findI, hb]; rfl
    · intro hb
      refine awp_skip ?_
      simp only [zz6, Nat.reduceEqDiff, ↓reduceIte]
      refine hK2 _ ?_; try clear hK2 K2
      refine awp_keepL [1, 2, 6, 11, 12, 13] ?_
      simp only [zzJ, Nat.reduceBEq]
      refine awp_plain F_mixed [some 25, some 13] rfl ?_
      simp only [zzK, Nat.reduceLT, Nat.reduceLeDiff, Nat.reduceBEq, zz21, gr_v, zz26, evS_move, zz6, Nat.reduceEqDiff, ↓reduceIte]
      refine ⟨post.length, _, by simp, le_SK id [] rfl (l' := [(1, .d (fnD 60)), (2, .d (iv n)), (6, .ptr 6 0 0), (11, .d (instsD (pre ++ x :: post))), (12, .d (iv (pre ++ x :: post).length)), (13, .d (iv (pre ++ [x]).length))]) (m' := [(6, (⟨True, 33, 12, true, false, 6, [[.d (.v (.int .i64 0)), .d (.v (.int .i64 0)), .d (.v (.int .i64 0)), .d (.v (.int .i64 0)), .d (.v (.int .i64 0)), .d (.v (.int .i64 0)), .d (.v (.int .i64 0)), .d (.v (.int .i64 0)), .d (.v (.int .i64 0)), .d (.v (.int .i64 0)), .d (.v (.int .i64 0)), .d (.v (.int .i64 0))]]⟩ : ARow))]) ?_ ?_ ?_ ?_, pre ++ [x], post, by simp, by rw [hfx, findX, hb]; rfl, by rw [hfi, findI, hb]; simp, rfl, rfl⟩
      · simp only [leV, look_cons, Nat.reduceBEq, cond_true, cond_false, instsD, fnD, len_map, wrap_len pre x (by simp at hl; omega)]; exact ⟨VLe.refl _, VLe.refl _, VLe.refl _, VLe.refl _, VLe.refl _, VLe.refl _, trivial⟩
      · exact ⟨fun _ => ⟨_, rfl, ⟨id, rfl, rfl, fun _ => rfl, id, .inl, VLess.refl _⟩⟩, fun h => by simp at h, trivial⟩
      · simp [wfV, AV.ids, lookR]
      · simp [wfR, AV.idsL, AV.ids]
  · intro hb
    obtain rfl := none_of hb; clear hb
    refine awp_exit ?_
    simp only [zz6, Nat.reduceEqDiff, ↓reduceIte]
    refine hK0 _ ?_; try clear hK0 K0
    refine awp_keepL [6] ?_
    simp only [zzJ, Nat.reduceBEq]
    refine awp_seq fun K0 hK0 => ?_
    refine awp_plain F_mixed [some 10] rfl ?_
    simp only [zzK, Nat.reduceLT, Nat.reduceLeDiff, Nat.reduceBEq, zz32, newRow1, F_zero33, zzC, Option.map_some, yyE, reduceCtorEq, zzD, Nat.reduceAdd, Nat.zero_add, zzH, zz10, zz6, Nat.reduceEqDiff, ↓reduceIte]
    refine hK0 _ ?_; try clear hK0 K0
    refine awp_keepL [6, 10] ?_
    simp only [zzJ, Nat.reduceBEq]
    refine awp_seq fun K0 hK0 => ?_
    refine awp_plain F_mixed [some 26, none, some 7] rfl ?_
    simp only [zzK, Nat.reduceLT, Nat.reduceLeDiff, Nat.reduceBEq, F_ok33, F_ag33, F_sz33, zz8, zz23, zzD, Nat.reduceAdd, Nat.zero_add, zzH, zzC, Option.map_some, yyE, reduceCtorEq, zz18, splice, List.append_nil, zz1, zzG, evS_assign, zz6, Nat.reduceEqDiff, ↓reduceIte]
    refine hK0 _ ?_; try clear hK0 K0
    refine awp_keepL [6, 7] ?_
    simp only [zzJ, Nat.reduceBEq]
    refine awp_ret ?_
    simp only [zz6, Nat.reduceEqDiff, ↓reduceIte]
    refine done0 (by simp [resCs, resC, S, List.getD, look_cons, lookR, F_ag33, F_sz33, F_ok33]) ?_ (by simp [flatA, flatAs, flatD, instA, instC]) (by simp [AV.ids, AV.idsL, instA, instC])
    simp only [List.map_cons, List.map_nil, resA, S_getD, S_mem, lookR_cons, lookR_nil, Nat.reduceLT, Nat.reduceLeDiff, look_cons, Nat.reduceBEq, cond_true, cond_false, resAll, List.getD_cons_zero, List.getD_cons_succ, List.drop_zero, List.drop_succ_cons, List.take_succ_cons, List.take_zero, F_ag33, F_sz33, F_ok33]
    rw [hfx, hfi]; rfl
theorem tInst_ (r : RollV) (n : Int) (h : r.Small) : ACalls Try.prog 69 [.agg (rollC r), iv n] [] (.tp [instA (findX InstV.no n zInst r.insts), bv (hasX InstV.no n r.insts)]) := by
  refine acalls_S (rs := [.cell 4 33, .tmp 5]) Try.func69 rfl rfl 18 [(0, .d (.agg (rollC r))), (1, .d (iv n))] rfl (by simp) rfl ?_
  refine awp_seq fun K0 hK0 => ?_
  refine awp_plain F_mixed [some 2, some 4, some 5] rfl ?_
  simp only [zzK, Nat.reduceLT, Nat.reduceLeDiff, Nat.reduceBEq, zz35, newRow1, zz1, zzG, zzD, zzC, Option.map_some, yyE, reduceCtorEq, Nat.reduceAdd, Nat.zero_add, zzH, zz32, F_zero33, zz10, evS_assign, rollC, memsD, instsD, assetsD, zz6, Nat.reduceEqDiff, ↓reduceIte]
  refine hK0 _ ?_; try clear hK0 K0
  refine awp_keepL [1, 2, 4] ?_
  simp only [zzJ, Nat.reduceBEq]
  refine awp_seq fun K0 hK0 => ?_
  refine awp_plain F_mixed [some 9, some 10, some 11, some 12, some 8, some 13, some 14, some 6, none, some 7] rfl ?_
  simp only [zzK, Nat.reduceLT, Nat.reduceLeDiff, Nat.reduceBEq, zz19, zz23, F_off40_1, zzH, Nat.zero_add, Nat.reduceAdd, F_ok37, F_ag37, F_sz37, zz8, zzD, zzC, Option.map_some, yyE, reduceCtorEq, evS_move, evS_call, evC_value, zz14, zz32, newRow1, F_zero33, zz10, zz18, F_ok33, F_sz33, splice, List.append_nil, zz1, zzG, evS_assign, memsD, instsD, assetsD, fnD, instA, instC, List.map_cons, zz6, Nat.reduceEqDiff, ↓reduceIte]
  refine call_go F_go82 (fun hG => findIn_ r.insts n h.insts) (by simp [AV.ids, AV.idsL, instA, instC]) (by simp) ?_
  simp only [zzK, Nat.reduceLT, Nat.reduceLeDiff, Nat.reduceBEq, zz19, zz23, F_off40_1, zzH, Nat.zero_add, Nat.reduceAdd, F_ok37, F_ag37, F_sz37, zz8, zzD, zzC, Option.map_some, yyE, reduceCtorEq, evS_move, evS_call, evC_value, zz14, zz32, newRow1, F_zero33, zz10, zz18, F_ok33, F_sz33, splice, List.append_nil, zz1, zzG, evS_assign, memsD, instsD, assetsD, fnD, instA, instC, List.map_cons, zz6, Nat.reduceEqDiff, ↓reduceIte, atsL, oksG, freeN, AV.ren, AV.renL, addRows, ORow.row, Nat.reduceMul, Nat.reduceAdd, zz9, Option.bind_some, Option.map_some, S_mem, yyF, List.length_cons, zz2]
  refine hK0 _ ?_; try clear hK0 K0
  refine awp_keepL [4, 6, 7] ?_
  simp only [zzJ, Nat.reduceBEq]
  refine awp_seq fun K0 hK0 => ?_
  refine awp_plain F_mixed [some 15, some 16, some 17, none, some 5] rfl ?_
  simp only [zzK, Nat.reduceLT, Nat.reduceLeDiff, Nat.reduceBEq, F_ok33, F_ag33, F_sz33, zz8, zz23, zzD, Nat.reduceAdd, Nat.zero_add, zzH, zzC, Option.map_some, yyE, reduceCtorEq, evS_move, zz21, gr_v, zz31, zz18, splice, List.append_nil, zz1, zzG, evS_assign, zz6, Nat.reduceEqDiff, ↓reduceIte]
  refine hK0 _ ?_; try clear hK0 K0
  refine awp_keepL [4, 5] ?_
  simp only [zzJ, Nat.reduceBEq]
  refine awp_ret ?_
  simp only [zz6, Nat.reduceEqDiff, ↓reduceIte]
  refine done0 (by simp [resCs, resC, S, List.getD, look_cons, lookR, F_ag33, F_sz33, F_ok33]) ?_ (by simp [flatA, flatAs, flatD, instA, instC]) (by simp [AV.ids, AV.idsL, instA, instC])
  simp only [List.map_cons, List.map_nil, resA, S_getD, S_mem, lookR_cons, lookR_nil, Nat.reduceLT, Nat.reduceLeDiff, look_cons, Nat.reduceBEq, cond_true, cond_false, resAll, List.getD_cons_zero, List.getD_cons_succ, List.drop_zero, List.drop_succ_cons, List.take_succ_cons, List.take_zero, F_ag33, F_sz33, F_ok33]
  rw [findI_has]; rfl
theorem price_ (r : RollV) (p : PosV) (h : r.Small) : ACalls Try.prog 39 [.agg (rollC r), .agg (posC p)] [] (.tp [instA (iOf r p), .d (iv (mkV r p)), .d (iv (mkE r p))]) := by
  refine acalls_S (rs := [.cell 4 33, .tmp 5, .tmp 6]) Try.func39 rfl rfl 38 [(0, .d (.agg (rollC r))), (1, .d (.agg (posC p)))] rfl (by simp) rfl ?_
  refine awp_seq fun K0 hK0 => ?_
  refine awp_plain F_mixed [some 2, some 3, some 4, some 5, some 6] rfl ?_
  simp only [zzK, Nat.reduceLT, Nat.reduceLeDiff, Nat.reduceBEq, zz35, newRow1, zz1, zzG, zzD, zzC, Option.map_some, yyE, reduceCtorEq, Nat.reduceAdd, Nat.zero_add, zzH, zz32, F_zero33, zz10, evS_assign, rollC, memsD, instsD, assetsD, posC, zz6, Nat.reduceEqDiff, ↓reduceIte]
  refine hK0 _ ?_; try clear hK0 K0
  refine awp_keepL [2, 3, 4] ?_
  simp only [zzJ, Nat.reduceBEq]
  refine awp_seq fun K0 hK0 => ?_
  refine awp_plain F_mixed [some 12, some 13, some 14, some 15, some 16, some 11, some 17, some 18, some 7, none, some 8] rfl ?_
  simp only [zzK, Nat.reduceLT, Nat.reduceLeDiff, Nat.reduceBEq, F_ok40, F_ag40, F_sz40, zz8, zz23, zzD, Nat.reduceAdd, Nat.zero_add, zzH, zzC, Option.map_some, yyE, reduceCtorEq, zz19, F_off25_0, F_off23_1, F_ok3, F_ag3, F_sz3, evS_call, evC_value, evS_move, zz14, zz32, newRow1, F_zero33, zz10, zz18, F_ok33, F_sz33, splice, List.append_nil, zz1, zzG, evS_assign, memsD, instsD, assetsD, rollC, D.agg.injEq, memA, memC, instA, instC, List.map_cons, iOf, zz6, Nat.reduceEqDiff, ↓reduceIte]
  refine call_go F_go69 (fun hG => tInst_ r p.inst h) (by simp [AV.ids, AV.idsL, instA, instC]) (by simp) ?_
  simp only [zzK, Nat.reduceLT, Nat.reduceLeDiff, Nat.reduceBEq, F_ok40, F_ag40, F_sz40, zz8, zz23, zzD, Nat.reduceAdd, Nat.zero_add, zzH, zzC, Option.map_some, yyE, reduceCtorEq, zz19, F_off25_0, F_off23_1, F_ok3, F_ag3, F_sz3, evS_call, evC_value, evS_move, zz14, zz32, newRow1, F_zero33, zz10, zz18, F_ok33, F_sz33, splice, List.append_nil, zz1, zzG, evS_assign, memsD, instsD, assetsD, rollC, D.agg.injEq, memA, memC, instA, instC, List.map_cons, iOf, zz6, Nat.reduceEqDiff, ↓reduceIte, atsL, oksG, freeN, AV.ren, AV.renL, addRows, ORow.row, Nat.reduceMul, Nat.reduceAdd, zz9, Option.bind_some, Option.map_some, S_mem, yyF, List.length_cons, zz2]
  refine hK0 _ ?_; try clear hK0 K0
  refine awp_keepL [3, 4, 7, 8] ?_
  simp only [zzJ, Nat.reduceBEq]
  refine awp_seq fun K0 hK0 => ?_
  refine awp_seq fun K1 hK1 => ?_
  refine awp_plain F_mixed [some 19, some 20] rfl ?_
  simp only [zzK, Nat.reduceLT, Nat.reduceLeDiff, Nat.reduceBEq, evS_move, zz29, gr_v, zz30, zz6, Nat.reduceEqDiff, ↓reduceIte]
  refine hK1 _ ?_; try clear hK1 K1
  refine awp_keepL [3, 4, 7, 20] ?_
  simp only [zzJ, Nat.reduceBEq]
  refine awp_condS _ (by decide) (by simp only [look_cons, Nat.reduceBEq, cond_true, cond_false]; rfl) ?_ ?_
  · intro hb
    have hs : isOf r p = false := by simpa only [isOf, Bool.not_eq_true'] using hb
    clear hb
    refine awp_seq fun K2 hK2 => ?_
    refine awp_plain F_mixed [some 21, none, some 5, some 6] rfl ?_
    simp only [zzK, Nat.reduceLT, Nat.reduceLeDiff, Nat.reduceBEq, F_ok33, F_ag33, F_sz33, zz8, zz23, zzD, Nat.reduceAdd, Nat.zero_add, zzH, zzC, Option.map_some, yyE, reduceCtorEq, zz18, splice, List.append_nil, zz1, zzG, evS_assign, zz6, Nat.reduceEqDiff, ↓reduceIte]
    refine hK2 _ ?_; try clear hK2 K2
    refine awp_keepL [4, 5, 6] ?_
    simp only [zzJ, Nat.reduceBEq]
    refine awp_ret ?_
    simp only [zz6, Nat.reduceEqDiff, ↓reduceIte]
    refine done0 (by simp [resCs, resC, S, List.getD, look_cons, lookR, F_ag33, F_sz33, F_ok33]) ?_ (by simp [flatA, flatAs, flatD, instA, instC]) (by simp [AV.ids, AV.idsL, instA, instC])
    simp only [List.map_cons, List.map_nil, resA, S_getD, S_mem, lookR_cons, lookR_nil, Nat.reduceLT, Nat.reduceLeDiff, look_cons, Nat.reduceBEq, cond_true, cond_false, resAll, List.getD_cons_zero, List.getD_cons_succ, List.drop_zero, List.drop_succ_cons, List.take_succ_cons, List.take_zero, F_ag33, F_sz33, F_ok33]
    rw [mkV_no hs, mkE_no hs]; rfl
  · intro hb
    have hs : isOf r p = true := by simpa only [isOf, Bool.not_eq_false'] using hb
    clear hb
    refine awp_skip ?_
    simp only [zz6, Nat.reduceEqDiff, ↓reduceIte]
    refine hK0 _ ?_; try clear hK0 K0
    refine awp_keepL [3, 4, 7] ?_
    simp only [zzJ, Nat.reduceBEq]
    refine awp_seq fun K0 hK0 => ?_
    refine awp_plain F_mixed [some 23, some 24, some 22, some 25, some 26, some 9, some 10] rfl ?_
    simp only [zzK, Nat.reduceLT, Nat.reduceLeDiff, Nat.reduceBEq, F_ok33, F_ag33, F_sz33, zz8, zz23, zzD, Nat.reduceAdd, Nat.zero_add, zzH, zzC, Option.map_some, yyE, reduceCtorEq, evS_call, evC_value, evS_move, zz14, evS_assign, instC, D.agg.injEq, zz6, Nat.reduceEqDiff, ↓reduceIte]
    refine call_go F_go10 (fun hG => Price_ (findX InstV.no p.inst zInst r.insts)) (by simp [AV.ids, AV.idsL, instC]) (by simp) ?_
    simp only [zzK, Nat.reduceLT, Nat.reduceLeDiff, Nat.reduceBEq, F_ok33, F_ag33, F_sz33, zz8, zz23, zzD, Nat.reduceAdd, Nat.zero_add, zzH, zzC, Option.map_some, yyE, reduceCtorEq, evS_call, evC_value, evS_move, zz14, evS_assign, instC, D.agg.injEq, zz6, Nat.reduceEqDiff, ↓reduceIte, atsL, oksG, freeN, AV.ren, AV.renL, addRows, ORow.row, Nat.reduceMul, Nat.reduceAdd, zz9, Option.bind_some, Option.map_some, S_mem, yyF, List.length_cons, zz2]
    refine hK0 _ ?_; try clear hK0 K0
    refine awp_keepL [3, 4, 7, 9, 10] ?_
    simp only [zzJ, Nat.reduceBEq]
    refine awp_seq fun K0 hK0 => ?_
    refine awp_seq fun K1 hK1 => ?_
    refine awp_plain F_mixed [some 27, some 28, some 29, some 30, some 31, some 32, some 33] rfl ?_
    simp only [zzK, Nat.reduceLT, Nat.reduceLeDiff, Nat.reduceBEq, Nat.reduceSub, S_getD, zz5, and_imp, imp_and, imp_self, evS_move, zz21, gr_v, zz28, zz19, zz23, F_off25_1, zzH, Nat.zero_add, Nat.reduceAdd, F_ok3, F_ag3, F_sz3, zz8, zzD, zzC, Option.map_some, yyE, reduceCtorEq, zz34, zz13, pickK_l, pickK_r, zz6, Nat.reduceEqDiff, ↓reduceIte]
    refine hK1 _ ?_; try clear hK1 K1
    refine awp_keepL [4, 7, 9, 10, 33] ?_
    simp only [zzJ, Nat.reduceBEq]
    refine awp_condS _ (by decide) (by simp only [look_cons, Nat.reduceBEq, cond_true, cond_false]; rfl) ?_ ?_
    · intro hb
      refine awp_seq fun K2 hK2 => ?_
      refine awp_plain F_mixed [some 34, none, some 5, some 6] rfl ?_
      simp only [zzK, Nat.reduceLT, Nat.reduceLeDiff, Nat.reduceBEq, F_ok33, F_ag33, F_sz33, zz8, zz23, zzD, Nat.reduceAdd, Nat.zero_add, zzH, zzC, Option.map_some, yyE, reduceCtorEq, zz18, splice, List.append_nil, zz1, zzG, evS_assign, zz6, Nat.reduceEqDiff, ↓reduceIte]
      refine hK2 _ ?_; try clear hK2 K2
      refine awp_keepL [4, 5, 6] ?_
      simp only [zzJ, Nat.reduceBEq]
      refine awp_ret ?_
      simp only [zz6, Nat.reduceEqDiff, ↓reduceIte]
      refine done0 (by simp [resCs, resC, S, List.getD, look_cons, lookR, F_ag33, F_sz33, F_ok33]) ?_ (by simp [flatA, flatAs, flatD, instA, instC]) (by simp [AV.ids, AV.idsL, instA, instC])
      simp only [List.map_cons, List.map_nil, resA, S_getD, S_mem, lookR_cons, lookR_nil, Nat.reduceLT, Nat.reduceLeDiff, look_cons, Nat.reduceBEq, cond_true, cond_false, resAll, List.getD_cons_zero, List.getD_cons_succ, List.drop_zero, List.drop_succ_cons, List.take_succ_cons, List.take_zero, F_ag33, F_sz33, F_ok33]
      have e : mkV r p = 0 := priceV_no (by simp only [Bool.and_eq_true] at hb; exact hb.1)
      have e2 : mkE r p = 0 := by simp only [mkE, iOf, hs, hb, cond_true]
      rw [e, e2]; rfl
    · intro hb
      refine awp_skip ?_
      simp only [zz6, Nat.reduceEqDiff, ↓reduceIte]
      refine hK0 _ ?_; try clear hK0 K0
      refine awp_keepL [4, 7, 9, 10] ?_
      simp only [zzJ, Nat.reduceBEq]
      refine awp_seq fun K0 hK0 => ?_
      refine awp_plain F_mixed [some 35, some 36, some 37, none, some 5, some 6] rfl ?_
      simp only [zzK, Nat.reduceLT, Nat.reduceLeDiff, Nat.reduceBEq, F_ok33, F_ag33, F_sz33, zz8, zz23, zzD, Nat.reduceAdd, Nat.zero_add, zzH, zzC, Option.map_some, yyE, reduceCtorEq, evS_move, zz18, splice, List.append_nil, zz1, zzG, evS_assign, zz6, Nat.reduceEqDiff, ↓reduceIte]
      refine hK0 _ ?_; try clear hK0 K0
      refine awp_keepL [4, 5, 6] ?_
      simp only [zzJ, Nat.reduceBEq]
      refine awp_ret ?_
      simp only [zz6, Nat.reduceEqDiff, ↓reduceIte]
      refine done0 (by simp [resCs, resC, S, List.getD, look_cons, lookR, F_ag33, F_sz33, F_ok33]) ?_ (by simp [flatA, flatAs, flatD, instA, instC]) (by simp [AV.ids, AV.idsL, instA, instC])
      simp only [List.map_cons, List.map_nil, resA, S_getD, S_mem, lookR_cons, lookR_nil, Nat.reduceLT, Nat.reduceLeDiff, look_cons, Nat.reduceBEq, cond_true, cond_false, resAll, List.getD_cons_zero, List.getD_cons_succ, List.drop_zero, List.drop_succ_cons, List.take_succ_cons, List.take_zero, F_ag33, F_sz33, F_ok33]
      have e2 : mkE r p = priceE (findX InstV.no p.inst zInst r.insts) := by simp only [mkE, iOf, hs, hb, cond_true, cond_false]
      rw [e2]; rfl
end Go.Proofs.Ytdgkiemehmmobaa
