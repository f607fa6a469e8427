/- Openers: arguments of the laws, opened. No condition. -/
import Derived.Test.YtopifbpibkpmmaaAbsS
import Derived.Test.YtopifbpibkpmmaaSpecTP
import Derived.Carry
namespace Go.Proofs.Ytopifbpibkpmmaa
open Go.ChangeShapes Go.WideShapes Go.ChangeAt Go.RowKit
set_option linter.unusedVariables false
set_option linter.unusedSimpArgs false
set_option linter.constructorNameAsVariable false
theorem trodAll_five {H : Type} {enc : TypeId × Value → H} {P : Program} {w : World} {base : Nat} {spare : Nat → Bool} {held : Bool} {t0 t1 t2 t3 t4 : TypeId} {args : Array Value} {ds : List (DataW H)} {ps : List MemPlace} (h : DataW.TrodAll enc P w base spare held [t0, t1, t2, t3, t4] args.toList ds ps) :
  ∃ v0 v1 v2 v3 v4 d0 d1 d2 d3 d4 p0 p1 p2 p3 p4, args = #[v0, v1, v2, v3, v4] ∧ ds = [d0, d1, d2, d3, d4] ∧ ps = p0 ++ p1 ++ p2 ++ p3 ++ p4 ∧ DataW.Trod enc P w base spare held t0 v0 d0 p0 ∧ DataW.Trod enc P w base spare held t1 v1 d1 p1 ∧ DataW.Trod enc P w base spare held t2 v2 d2 p2 ∧ DataW.Trod enc P w base spare held t3 v3 d3 p3 ∧ DataW.Trod enc P w base spare held t4 v4 d4 p4 := by
 obtain ⟨v0, vs, d0, ds0, p0, q0, hargs, rfl, rfl, hd0, hrest⟩ := trodAll_cons h
 obtain ⟨v1, vs1, d1, ds1, p1, q1, rfl, rfl, rfl, hd1, hrest⟩ := trodAll_cons hrest
 obtain ⟨v2, vs2, d2, ds2, p2, q2, rfl, rfl, rfl, hd2, hrest⟩ := trodAll_cons hrest
 obtain ⟨v3, vs3, d3, ds3, p3, q3, rfl, rfl, rfl, hd3, hrest⟩ := trodAll_cons hrest
 obtain ⟨v4, vs4, d4, ds4, p4, q4, rfl, rfl, rfl, hd4, hrest⟩ := trodAll_cons hrest
 obtain ⟨rfl, rfl, rfl⟩ := trodAll_nil hrest
 exact ⟨v0, v1, v2, v3, v4, d0, d1, d2, d3, d4, p0, p1, p2, p3, p4, by cases args; simp_all, rfl, by simp, hd0, hd1, hd2, hd3, hd4⟩
theorem trodAll_six {H : Type} {enc : TypeId × Value → H} {P : Program} {w : World} {base : Nat} {spare : Nat → Bool} {held : Bool} {t0 t1 t2 t3 t4 t5 : TypeId} {args : Array Value} {ds : List (DataW H)} {ps : List MemPlace} (h : DataW.TrodAll enc P w base spare held [t0, t1, t2, t3, t4, t5] args.toList ds ps) :
  ∃ v0 v1 v2 v3 v4 v5 d0 d1 d2 d3 d4 d5 p0 p1 p2 p3 p4 p5, args = #[v0, v1, v2, v3, v4, v5] ∧ ds = [d0, d1, d2, d3, d4, d5] ∧ ps = p0 ++ p1 ++ p2 ++ p3 ++ p4 ++ p5 ∧ DataW.Trod enc P w base spare held t0 v0 d0 p0 ∧ DataW.Trod enc P w base spare held t1 v1 d1 p1 ∧ DataW.Trod enc P w base spare held t2 v2 d2 p2 ∧ DataW.Trod enc P w base spare held t3 v3 d3 p3 ∧ DataW.Trod enc P w base spare held t4 v4 d4 p4 ∧ DataW.Trod enc P w base spare held t5 v5 d5 p5 := by
 obtain ⟨v0, vs, d0, ds0, p0, q0, hargs, rfl, rfl, hd0, hrest⟩ := trodAll_cons h
 obtain ⟨v1, vs1, d1, ds1, p1, q1, rfl, rfl, rfl, hd1, hrest⟩ := trodAll_cons hrest
 obtain ⟨v2, vs2, d2, ds2, p2, q2, rfl, rfl, rfl, hd2, hrest⟩ := trodAll_cons hrest
 obtain ⟨v3, vs3, d3, ds3, p3, q3, rfl, rfl, rfl, hd3, hrest⟩ := trodAll_cons hrest
 obtain ⟨v4, vs4, d4, ds4, p4, q4, rfl, rfl, rfl, hd4, hrest⟩ := trodAll_cons hrest
 obtain ⟨v5, vs5, d5, ds5, p5, q5, rfl, rfl, rfl, hd5, hrest⟩ := trodAll_cons hrest
 obtain ⟨rfl, rfl, rfl⟩ := trodAll_nil hrest
 exact ⟨v0, v1, v2, v3, v4, v5, d0, d1, d2, d3, d4, d5, p0, p1, p2, p3, p4, p5, by cases args; simp_all, rfl, by simp, hd0, hd1, hd2, hd3, hd4, hd5⟩
theorem own_ : ownKnob Try.prog.godebug = none := by kernel_rfl
theorem laid_ : laidOutB Try.prog = true := by kernel_rfl
set_option maxRecDepth 100000 in
theorem inv_trd {j : Nat} {cs : List D} (h : TC Try.prog (j + 2) 86 cs) : ∃ p, cs = tradeC p := by
 have g1 := tc_struct (k := j + 1) Try.underlying86 h
 simp only [Segs, List.map_cons, List.map_nil, List.replicate] at g1
 obtain ⟨_, _, rfl, h2, _, _, rfl, h3, _, _, rfl, h4, _, _, rfl, h5, _, _, rfl, h6, _, _, rfl, h7, _, _, rfl, h8, rfl⟩ := g1
 obtain ⟨n9, rfl, wn9⟩ := tc_int (k := j + 0) Try.underlying3 h2
 obtain ⟨n10, rfl, wn10⟩ := tc_int (k := j + 0) Try.underlying3 h3
 obtain ⟨n11, rfl, wn11⟩ := tc_int (k := j + 0) Try.underlying3 h4
 obtain ⟨n12, rfl, wn12⟩ := tc_int (k := j + 0) Try.underlying3 h5
 obtain ⟨n13, rfl, wn13⟩ := tc_int (k := j + 0) Try.underlying3 h6
 obtain ⟨n14, rfl, wn14⟩ := tc_int (k := j + 0) Try.underlying3 h7
 obtain ⟨b15, rfl⟩ := tc_bool (k := j + 0) Try.underlying4 h8
 exact ⟨⟨n9, n10, n11, n12, n13, n14, b15⟩, rfl⟩
theorem cells_trd : Try.prog.cellsOf 86 = 7 := by kernel_rfl
set_option maxRecDepth 100000 in
theorem inv_key {j : Nat} {cs : List D} (h : TC Try.prog (j + 2) 29 cs) : ∃ p, cs = keyK p := by
 have g1 := tc_struct (k := j + 1) Try.underlying29 h
 simp only [Segs, List.map_cons, List.map_nil, List.replicate] at g1
 obtain ⟨_, _, rfl, h2, _, _, rfl, h3, rfl⟩ := g1
 obtain ⟨n4, rfl, wn4⟩ := tc_int (k := j + 0) Try.underlying3 h2
 obtain ⟨n5, rfl, wn5⟩ := tc_int (k := j + 0) Try.underlying3 h3
 exact ⟨⟨n4, n5⟩, rfl⟩
theorem cells_key : Try.prog.cellsOf 29 = 2 := by kernel_rfl
set_option maxRecDepth 100000 in
theorem inv_act {j : Nat} {cs : List D} (h : TC Try.prog (j + 3) 88 cs) : ∃ p, cs = actC p := by
 have g1 := tc_struct (k := j + 2) Try.underlying88 h
 simp only [Segs, List.map_cons, List.map_nil, List.replicate] at g1
 obtain ⟨_, _, rfl, h2, _, _, rfl, h3, _, _, rfl, h4, _, _, rfl, h5, _, _, rfl, h6, rfl⟩ := g1
 obtain ⟨n7, rfl, wn7⟩ := tc_int (k := j + 1) Try.underlying3 h2
 obtain ⟨n8, rfl, wn8⟩ := tc_int (k := j + 1) Try.underlying3 h3
 obtain ⟨n9, rfl, wn9⟩ := tc_int (k := j + 1) Try.underlying3 h4
 obtain ⟨n10, rfl, wn10⟩ := tc_int (k := j + 1) Try.underlying3 h5
 have g11 := tc_struct (k := j + 1) Try.underlying86 h6
 simp only [Segs, List.map_cons, List.map_nil, List.replicate] at g11
 obtain ⟨_, _, rfl, h12, _, _, rfl, h13, _, _, rfl, h14, _, _, rfl, h15, _, _, rfl, h16, _, _, rfl, h17, _, _, rfl, h18, rfl⟩ := g11
 obtain ⟨n19, rfl, wn19⟩ := tc_int (k := j + 0) Try.underlying3 h12
 obtain ⟨n20, rfl, wn20⟩ := tc_int (k := j + 0) Try.underlying3 h13
 obtain ⟨n21, rfl, wn21⟩ := tc_int (k := j + 0) Try.underlying3 h14
 obtain ⟨n22, rfl, wn22⟩ := tc_int (k := j + 0) Try.underlying3 h15
 obtain ⟨n23, rfl, wn23⟩ := tc_int (k := j + 0) Try.underlying3 h16
 obtain ⟨n24, rfl, wn24⟩ := tc_int (k := j + 0) Try.underlying3 h17
 obtain ⟨b25, rfl⟩ := tc_bool (k := j + 0) Try.underlying4 h18
 exact ⟨⟨n7, n8, n9, n10, ⟨n19, n20, n21, n22, n23, n24, b25⟩⟩, rfl⟩
theorem cells_act : Try.prog.cellsOf 88 = 11 := by kernel_rfl
end Go.Proofs.Ytopifbpibkpmmaa
