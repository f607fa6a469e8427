/- Openers: arguments of the laws, opened. No condition. -/
import Derived.Test.YtjkfadaedgidpaaGreatAbsS
import Derived.Test.YtjkfadaedgidpaaGreatSpecLD
import Derived.Test.YtjkfadaedgidpaaGreatSpecM
import Derived.Carry
namespace Go.Proofs.YtjkfadaedgidpaaGreat
open Go.ChangeShapes Go.WideShapes Go.ChangeAt Go.RowKit
set_option linter.unusedVariables false
set_option linter.unusedSimpArgs false
set_option linter.constructorNameAsVariable false
theorem trodAll_five {H : Type} {enc : TypeId × Value → H} {P : Program} {w : World} {base : Nat} {spare : Nat → Bool} {held : Bool} {t0 t1 t2 t3 t4 : TypeId} {args : Array Value} {ds : List (DataW H)} {ps : List MemPlace} (h : DataW.TrodAll enc P w base spare held [t0, t1, t2, t3, t4] args.toList ds ps) :
  ∃ v0 v1 v2 v3 v4 d0 d1 d2 d3 d4 p0 p1 p2 p3 p4, args = #[v0, v1, v2, v3, v4] ∧ ds = [d0, d1, d2, d3, d4] ∧ ps = p0 ++ p1 ++ p2 ++ p3 ++ p4 ∧ DataW.Trod enc P w base spare held t0 v0 d0 p0 ∧ DataW.Trod enc P w base spare held t1 v1 d1 p1 ∧ DataW.Trod enc P w base spare held t2 v2 d2 p2 ∧ DataW.Trod enc P w base spare held t3 v3 d3 p3 ∧ DataW.Trod enc P w base spare held t4 v4 d4 p4 := by
 obtain ⟨v0, vs, d0, ds0, p0, q0, hargs, rfl, rfl, hd0, hrest⟩ := trodAll_cons h
 obtain ⟨v1, vs1, d1, ds1, p1, q1, rfl, rfl, rfl, hd1, hrest⟩ := trodAll_cons hrest
 obtain ⟨v2, vs2, d2, ds2, p2, q2, rfl, rfl, rfl, hd2, hrest⟩ := trodAll_cons hrest
 obtain ⟨v3, vs3, d3, ds3, p3, q3, rfl, rfl, rfl, hd3, hrest⟩ := trodAll_cons hrest
 obtain ⟨v4, vs4, d4, ds4, p4, q4, rfl, rfl, rfl, hd4, hrest⟩ := trodAll_cons hrest
 obtain ⟨rfl, rfl, rfl⟩ := trodAll_nil hrest
 exact ⟨v0, v1, v2, v3, v4, d0, d1, d2, d3, d4, p0, p1, p2, p3, p4, by cases args; simp_all, rfl, by simp, hd0, hd1, hd2, hd3, hd4⟩
theorem trodAll_six {H : Type} {enc : TypeId × Value → H} {P : Program} {w : World} {base : Nat} {spare : Nat → Bool} {held : Bool} {t0 t1 t2 t3 t4 t5 : TypeId} {args : Array Value} {ds : List (DataW H)} {ps : List MemPlace} (h : DataW.TrodAll enc P w base spare held [t0, t1, t2, t3, t4, t5] args.toList ds ps) :
  ∃ v0 v1 v2 v3 v4 v5 d0 d1 d2 d3 d4 d5 p0 p1 p2 p3 p4 p5, args = #[v0, v1, v2, v3, v4, v5] ∧ ds = [d0, d1, d2, d3, d4, d5] ∧ ps = p0 ++ p1 ++ p2 ++ p3 ++ p4 ++ p5 ∧ DataW.Trod enc P w base spare held t0 v0 d0 p0 ∧ DataW.Trod enc P w base spare held t1 v1 d1 p1 ∧ DataW.Trod enc P w base spare held t2 v2 d2 p2 ∧ DataW.Trod enc P w base spare held t3 v3 d3 p3 ∧ DataW.Trod enc P w base spare held t4 v4 d4 p4 ∧ DataW.Trod enc P w base spare held t5 v5 d5 p5 := by
 obtain ⟨v0, vs, d0, ds0, p0, q0, hargs, rfl, rfl, hd0, hrest⟩ := trodAll_cons h
 obtain ⟨v1, vs1, d1, ds1, p1, q1, rfl, rfl, rfl, hd1, hrest⟩ := trodAll_cons hrest
 obtain ⟨v2, vs2, d2, ds2, p2, q2, rfl, rfl, rfl, hd2, hrest⟩ := trodAll_cons hrest
 obtain ⟨v3, vs3, d3, ds3, p3, q3, rfl, rfl, rfl, hd3, hrest⟩ := trodAll_cons hrest
 obtain ⟨v4, vs4, d4, ds4, p4, q4, rfl, rfl, rfl, hd4, hrest⟩ := trodAll_cons hrest
 obtain ⟨v5, vs5, d5, ds5, p5, q5, rfl, rfl, rfl, hd5, hrest⟩ := trodAll_cons hrest
 obtain ⟨rfl, rfl, rfl⟩ := trodAll_nil hrest
 exact ⟨v0, v1, v2, v3, v4, v5, d0, d1, d2, d3, d4, d5, p0, p1, p2, p3, p4, p5, by cases args; simp_all, rfl, by simp, hd0, hd1, hd2, hd3, hd4, hd5⟩
theorem own_ : ownKnob Tryz.prog.godebug = none := by kernel_rfl
theorem laid_ : laidOutB Tryz.prog = true := by kernel_rfl
set_option maxRecDepth 100000 in
theorem inv_mem {j : Nat} {cs : List D} (h : TC Tryz.prog (j + 2) 77 cs) : ∃ p, cs = memC p := by
 have g1 := tc_struct (k := j + 1) Tryz.underlying77 h
 simp only [Segs, List.map_cons, List.map_nil, List.replicate] at g1
 obtain ⟨_, _, rfl, h2, _, _, rfl, h3, _, _, rfl, h4, rfl⟩ := g1
 obtain ⟨n5, rfl, wn5⟩ := tc_int (k := j + 0) Tryz.underlying3 h2
 obtain ⟨n6, rfl, wn6⟩ := tc_int (k := j + 0) Tryz.underlying3 h3
 obtain ⟨n7, rfl, wn7⟩ := tc_int (k := j + 0) Tryz.underlying3 h4
 exact ⟨⟨n5, n6, n7⟩, rfl⟩
theorem cells_mem : Tryz.prog.cellsOf 77 = 3 := by kernel_rfl
set_option maxRecDepth 100000 in
theorem inv_inst {j : Nat} {cs : List D} (h : TC Tryz.prog (j + 3) 113 cs) : ∃ p, cs = instC p := by
 have g1 := tc_struct (k := j + 2) Tryz.underlying113 h
 simp only [Segs, List.map_cons, List.map_nil, List.replicate] at g1
 obtain ⟨_, _, rfl, h2, _, _, rfl, h3, _, _, rfl, h4, _, _, rfl, h5, _, _, rfl, h6, _, _, rfl, h7, _, _, rfl, h8, rfl⟩ := g1
 obtain ⟨n9, rfl, wn9⟩ := tc_int (k := j + 1) Tryz.underlying3 h2
 obtain ⟨n10, rfl, wn10⟩ := tc_int (k := j + 1) Tryz.underlying3 h3
 obtain ⟨n11, rfl, wn11⟩ := tc_int (k := j + 1) Tryz.underlying3 h4
 obtain ⟨n12, rfl, wn12⟩ := tc_int (k := j + 1) Tryz.underlying3 h5
 obtain ⟨n13, rfl, wn13⟩ := tc_int (k := j + 1) Tryz.underlying3 h6
 obtain ⟨n14, rfl, wn14⟩ := tc_int (k := j + 1) Tryz.underlying3 h7
 have g15 := tc_array (k := j + 1) Tryz.underlying111 h8
 simp only [Segs, List.map_cons, List.map_nil, List.replicate] at g15
 obtain ⟨_, _, rfl, h16, _, _, rfl, h17, _, _, rfl, h18, _, _, rfl, h19, _, _, rfl, h20, _, _, rfl, h21, rfl⟩ := g15
 obtain ⟨n22, rfl, wn22⟩ := tc_int (k := j + 0) Tryz.underlying3 h16
 obtain ⟨n23, rfl, wn23⟩ := tc_int (k := j + 0) Tryz.underlying3 h17
 obtain ⟨n24, rfl, wn24⟩ := tc_int (k := j + 0) Tryz.underlying3 h18
 obtain ⟨n25, rfl, wn25⟩ := tc_int (k := j + 0) Tryz.underlying3 h19
 obtain ⟨n26, rfl, wn26⟩ := tc_int (k := j + 0) Tryz.underlying3 h20
 obtain ⟨n27, rfl, wn27⟩ := tc_int (k := j + 0) Tryz.underlying3 h21
 exact ⟨⟨n9, n10, n11, n12, n13, n14, n22, n23, n24, n25, n26, n27⟩, rfl⟩
theorem cells_inst : Tryz.prog.cellsOf 113 = 12 := by kernel_rfl
set_option maxRecDepth 100000 in
theorem inv_asset {j : Nat} {cs : List D} (h : TC Tryz.prog (j + 2) 118 cs) : ∃ p, cs = assetC p := by
 have g1 := tc_struct (k := j + 1) Tryz.underlying118 h
 simp only [Segs, List.map_cons, List.map_nil, List.replicate] at g1
 obtain ⟨_, _, rfl, h2, _, _, rfl, h3, _, _, rfl, h4, _, _, rfl, h5, rfl⟩ := g1
 obtain ⟨n6, rfl, wn6⟩ := tc_int (k := j + 0) Tryz.underlying3 h2
 obtain ⟨n7, rfl, wn7⟩ := tc_int (k := j + 0) Tryz.underlying3 h3
 obtain ⟨n8, rfl, wn8⟩ := tc_int (k := j + 0) Tryz.underlying3 h4
 obtain ⟨n9, rfl, wn9⟩ := tc_int (k := j + 0) Tryz.underlying3 h5
 exact ⟨⟨n6, n7, n8, n9⟩, rfl⟩
theorem cells_asset : Tryz.prog.cellsOf 118 = 4 := by kernel_rfl
set_option maxRecDepth 100000 in
theorem inv_roll {j : Nat} {cs : List D} (h : TC Tryz.prog (j + 5) 29 cs) : ∃ p, cs = rollC p := by
 have g1 := tc_struct (k := j + 4) Tryz.underlying29 h
 simp only [Segs, List.map_cons, List.map_nil, List.replicate] at g1
 obtain ⟨_, _, rfl, h2, _, _, rfl, h3, _, _, rfl, h4, rfl⟩ := g1
 obtain ⟨el5, rfl, hll5, tl5⟩ := tc_slice (k := j + 3) Tryz.underlying25 h2
 obtain ⟨l5, rfl⟩ := inv_list (fun el hel => inv_mem (j := j + 1) (tl5 el hel))
 obtain ⟨el6, rfl, hll6, tl6⟩ := tc_slice (k := j + 3) Tryz.underlying26 h3
 obtain ⟨l6, rfl⟩ := inv_list (fun el hel => inv_inst (j := j + 0) (tl6 el hel))
 obtain ⟨el7, rfl, hll7, tl7⟩ := tc_slice (k := j + 3) Tryz.underlying27 h4
 obtain ⟨l7, rfl⟩ := inv_list (fun el hel => inv_asset (j := j + 1) (tl7 el hel))
 exact ⟨⟨l5, l6, l7⟩, by simp only [cells_asset, cells_inst, cells_mem]; rfl⟩
theorem cells_roll : Tryz.prog.cellsOf 29 = 3 := by kernel_rfl
set_option maxRecDepth 100000 in
theorem inv_acct {j : Nat} {cs : List D} (h : TC Tryz.prog (j + 2) 73 cs) : ∃ p, cs = acC p := by
 have g1 := tc_struct (k := j + 1) Tryz.underlying73 h
 simp only [Segs, List.map_cons, List.map_nil, List.replicate] at g1
 obtain ⟨_, _, rfl, h2, _, _, rfl, h3, _, _, rfl, h4, rfl⟩ := g1
 obtain ⟨n5, rfl, wn5⟩ := tc_int (k := j + 0) Tryz.underlying3 h2
 obtain ⟨n6, rfl, wn6⟩ := tc_int (k := j + 0) Tryz.underlying3 h3
 obtain ⟨n7, rfl, wn7⟩ := tc_int (k := j + 0) Tryz.underlying3 h4
 exact ⟨⟨n5, n6, n7⟩, rfl⟩
theorem cells_acct : Tryz.prog.cellsOf 73 = 3 := by kernel_rfl
set_option maxRecDepth 100000 in
theorem inv_bal {j : Nat} {cs : List D} (h : TC Tryz.prog (j + 3) 86 cs) : ∃ p, cs = legC p := by
 have g1 := tc_struct (k := j + 2) Tryz.underlying86 h
 simp only [Segs, List.map_cons, List.map_nil, List.replicate] at g1
 obtain ⟨_, _, rfl, h2, _, _, rfl, h3, rfl⟩ := g1
 have g4 := tc_struct (k := j + 1) Tryz.underlying73 h2
 simp only [Segs, List.map_cons, List.map_nil, List.replicate] at g4
 obtain ⟨_, _, rfl, h5, _, _, rfl, h6, _, _, rfl, h7, rfl⟩ := g4
 obtain ⟨n8, rfl, wn8⟩ := tc_int (k := j + 0) Tryz.underlying3 h5
 obtain ⟨n9, rfl, wn9⟩ := tc_int (k := j + 0) Tryz.underlying3 h6
 obtain ⟨n10, rfl, wn10⟩ := tc_int (k := j + 0) Tryz.underlying3 h7
 obtain ⟨n11, rfl, wn11⟩ := tc_int (k := j + 1) Tryz.underlying3 h3
 exact ⟨⟨⟨n8, n9, n10⟩, n11⟩, rfl⟩
theorem cells_bal : Tryz.prog.cellsOf 86 = 4 := by kernel_rfl
set_option maxRecDepth 100000 in
theorem inv_led {j : Nat} {cs : List D} (h : TC Tryz.prog (j + 5) 24 cs) : ∃ p, cs = ledC p := by
 have g1 := tc_struct (k := j + 4) Tryz.underlying24 h
 simp only [Segs, List.map_cons, List.map_nil, List.replicate] at g1
 obtain ⟨_, _, rfl, h2, _, _, rfl, h3, rfl⟩ := g1
 obtain ⟨n4, rfl, wn4⟩ := tc_int (k := j + 3) Tryz.underlying3 h2
 obtain ⟨el5, rfl, hll5, tl5⟩ := tc_slice (k := j + 3) Tryz.underlying22 h3
 obtain ⟨l5, rfl⟩ := inv_list (fun el hel => inv_bal (j := j + 0) (tl5 el hel))
 exact ⟨⟨n4, l5⟩, by simp only [cells_bal]; rfl⟩
theorem cells_led : Tryz.prog.cellsOf 24 = 2 := by kernel_rfl
set_option maxRecDepth 100000 in
theorem inv_int {j : Nat} {cs : List D} (h : TC Tryz.prog (j + 1) 3 cs) : ∃ p, cs = (fun n => [iv n]) p := by
 obtain ⟨n1, rfl, wn1⟩ := tc_int (k := j + 0) Tryz.underlying3 h
 exact ⟨n1, rfl⟩
theorem cells_int : Tryz.prog.cellsOf 3 = 1 := by kernel_rfl
end Go.Proofs.YtjkfadaedgidpaaGreat
