/-
  No cell of these rows narrows 'for every input' (looked for: loops, veiled, ifaces, maps, wideKeys, modest, calm, conditions, laid).
  DERIVED. THE GIVEN ROWS OF THIS SEAT. 7 by the template 'for every input the law returns true; each argument reads behind the call as it read before'; 0 by the template 'total and deterministic' (their statements: YtfpicdhfoflcgaaTotals.lean).
  GIVEN WITH THE SEED: the statements are not yours to turn. If you find one false, say at which input.
  Laid BY PROGRAM, IN A SANDBOX (cutbox-rows.mjs): the forced cells as the released guide's own fill.sh prints them over the translation 916fd24cb1cc784a… (all of the seat's roots in one cut). By AI agents, Wed Nov 11 2026. No macro, syntax, notation, axiom, sorry.
-/
import Derived.Test.YtfpicdhfoflcgaaChecked
import GoSem.Claim
import GoSem.ClaimJoined
import GoSem.ClaimMapViews
import Derived.JoinedTies
import Derived.KernelRfl
namespace Go.Proofs.Ytfpicdhfoflcgaa
/- THE CELL 'sum', in the pinned program and in every row, IS THE sha256 OF THE DUMP (.gsa) THAT YtfpicdhfoflcgaaProg.lean LOADS. Nothing in Lean hashes anything: it is a label: what it is worth is what the hold of that sum in a sandbox is worth. -/
noncomputable def Try.pinned : Pinned := { name := "ytfpicdhfoflcgaa", sum := "916fd24cb1cc784ace04d0fea4b92500820db77e76f0927459ecb122476c3a43", checked := Try.checked }
namespace Rows
def none {H : Type} : Left H := { results := [], args := [] }

/-- 'cambistlaw03.ShareAll': WHATEVER THE INPUT: true; the input reads as it did. -/
def shareAllSpec : ChangeSpec := { name := "shareAll", fn := fun _ => fun
  | [d1, d2] => { results := [.lit (.bool true)], args := [d1, d2] }
  | _ => none }
def shareAllRow : OpenClaim := { program := "ytfpicdhfoflcgaa", sum := "916fd24cb1cc784ace04d0fea4b92500820db77e76f0927459ecb122476c3a43", func := "cambist/cambistlaw03.ShareAll", spec := "shareAll", inPlace := ["math/bits.Add64", "math/bits.Sub64"], unfollowed := true, recurses := true, apart := false }
def ShareAllSaid : Prop := shareAllRow.holds Try.pinned (OpenSpec.ofChange shareAllSpec)

/-- ITS FALSE NEIGHBOUR: 'it returns false'. Refute it at one input. -/
def shareAllWrong : ChangeSpec := { name := "shareAll", fn := fun _ => fun
  | [d1, d2] => { results := [.lit (.bool false)], args := [d1, d2] }
  | _ => none }
def ShareAllWrongFalsely : Prop := shareAllRow.holds Try.pinned (OpenSpec.ofChange shareAllWrong)

/-- 'cambistlaw03.ShareFair': WHATEVER THE INPUT: true; the input reads as it did. -/
def shareFairSpec : ChangeSpec := { name := "shareFair", fn := fun _ => fun
  | [d1, d2] => { results := [.lit (.bool true)], args := [d1, d2] }
  | _ => none }
def shareFairRow : OpenClaim := { program := "ytfpicdhfoflcgaa", sum := "916fd24cb1cc784ace04d0fea4b92500820db77e76f0927459ecb122476c3a43", func := "cambist/cambistlaw03.ShareFair", spec := "shareFair", inPlace := ["math/bits.Add64", "math/bits.Sub64"], unfollowed := true, recurses := true, apart := false }
def ShareFairSaid : Prop := shareFairRow.holds Try.pinned (OpenSpec.ofChange shareFairSpec)

/-- ITS FALSE NEIGHBOUR: 'it returns false'. Refute it at one input. -/
def shareFairWrong : ChangeSpec := { name := "shareFair", fn := fun _ => fun
  | [d1, d2] => { results := [.lit (.bool false)], args := [d1, d2] }
  | _ => none }
def ShareFairWrongFalsely : Prop := shareFairRow.holds Try.pinned (OpenSpec.ofChange shareFairWrong)

/-- 'cambistlaw03.ShareScales': WHATEVER THE INPUT: true; the input reads as it did. -/
def shareScalesSpec : ChangeSpec := { name := "shareScales", fn := fun _ => fun
  | [d1, d2, d3] => { results := [.lit (.bool true)], args := [d1, d2, d3] }
  | _ => none }
def shareScalesRow : OpenClaim := { program := "ytfpicdhfoflcgaa", sum := "916fd24cb1cc784ace04d0fea4b92500820db77e76f0927459ecb122476c3a43", func := "cambist/cambistlaw03.ShareScales", spec := "shareScales", inPlace := ["math/bits.Add64", "math/bits.Sub64"], unfollowed := true, recurses := true, apart := false }
def ShareScalesSaid : Prop := shareScalesRow.holds Try.pinned (OpenSpec.ofChange shareScalesSpec)

/-- ITS FALSE NEIGHBOUR: 'it returns false'. Refute it at one input. -/
def shareScalesWrong : ChangeSpec := { name := "shareScales", fn := fun _ => fun
  | [d1, d2, d3] => { results := [.lit (.bool false)], args := [d1, d2, d3] }
  | _ => none }
def ShareScalesWrongFalsely : Prop := shareScalesRow.holds Try.pinned (OpenSpec.ofChange shareScalesWrong)

/-- 'cambistlaw03.ShareExact': WHATEVER THE INPUT: true; the input reads as it did. -/
def shareExactSpec : ChangeSpec := { name := "shareExact", fn := fun _ => fun
  | [d1, d2] => { results := [.lit (.bool true)], args := [d1, d2] }
  | _ => none }
def shareExactRow : OpenClaim := { program := "ytfpicdhfoflcgaa", sum := "916fd24cb1cc784ace04d0fea4b92500820db77e76f0927459ecb122476c3a43", func := "cambist/cambistlaw03.ShareExact", spec := "shareExact", inPlace := ["math/bits.Add64", "math/bits.Sub64"], unfollowed := true, recurses := true, apart := false }
def ShareExactSaid : Prop := shareExactRow.holds Try.pinned (OpenSpec.ofChange shareExactSpec)

/-- ITS FALSE NEIGHBOUR: 'it returns false'. Refute it at one input. -/
def shareExactWrong : ChangeSpec := { name := "shareExact", fn := fun _ => fun
  | [d1, d2] => { results := [.lit (.bool false)], args := [d1, d2] }
  | _ => none }
def ShareExactWrongFalsely : Prop := shareExactRow.holds Try.pinned (OpenSpec.ofChange shareExactWrong)

/-- 'cambistlaw03.GreedyAll': WHATEVER THE INPUT: true; the input reads as it did. -/
def greedyAllSpec : ChangeSpec := { name := "greedyAll", fn := fun _ => fun
  | [d1, d2] => { results := [.lit (.bool true)], args := [d1, d2] }
  | _ => none }
def greedyAllRow : OpenClaim := { program := "ytfpicdhfoflcgaa", sum := "916fd24cb1cc784ace04d0fea4b92500820db77e76f0927459ecb122476c3a43", func := "cambist/cambistlaw03.GreedyAll", spec := "greedyAll", inPlace := ["math/bits.Add64", "math/bits.Sub64"], unfollowed := true, recurses := true, apart := false }
def GreedyAllSaid : Prop := greedyAllRow.holds Try.pinned (OpenSpec.ofChange greedyAllSpec)

/-- ITS FALSE NEIGHBOUR: 'it returns false'. Refute it at one input. -/
def greedyAllWrong : ChangeSpec := { name := "greedyAll", fn := fun _ => fun
  | [d1, d2] => { results := [.lit (.bool false)], args := [d1, d2] }
  | _ => none }
def GreedyAllWrongFalsely : Prop := greedyAllRow.holds Try.pinned (OpenSpec.ofChange greedyAllWrong)

/-- 'cambistlaw03.GreedyGrows': WHATEVER THE INPUT: true; the input reads as it did. -/
def greedyGrowsSpec : ChangeSpec := { name := "greedyGrows", fn := fun _ => fun
  | [d1, d2, d3, d4, d5] => { results := [.lit (.bool true)], args := [d1, d2, d3, d4, d5] }
  | _ => none }
def greedyGrowsRow : OpenClaim := { program := "ytfpicdhfoflcgaa", sum := "916fd24cb1cc784ace04d0fea4b92500820db77e76f0927459ecb122476c3a43", func := "cambist/cambistlaw03.GreedyGrows", spec := "greedyGrows", inPlace := ["math/bits.Add64", "math/bits.Sub64"], unfollowed := true, recurses := true, apart := false }
def GreedyGrowsSaid : Prop := greedyGrowsRow.holds Try.pinned (OpenSpec.ofChange greedyGrowsSpec)

/-- ITS FALSE NEIGHBOUR: 'it returns false'. Refute it at one input. -/
def greedyGrowsWrong : ChangeSpec := { name := "greedyGrows", fn := fun _ => fun
  | [d1, d2, d3, d4, d5] => { results := [.lit (.bool false)], args := [d1, d2, d3, d4, d5] }
  | _ => none }
def GreedyGrowsWrongFalsely : Prop := greedyGrowsRow.holds Try.pinned (OpenSpec.ofChange greedyGrowsWrong)

/-- 'cambistlaw03.GreedyParts': WHATEVER THE INPUT: true; the input reads as it did. -/
def greedyPartsSpec : ChangeSpec := { name := "greedyParts", fn := fun _ => fun
  | [d1, d2, d3] => { results := [.lit (.bool true)], args := [d1, d2, d3] }
  | _ => none }
def greedyPartsRow : OpenClaim := { program := "ytfpicdhfoflcgaa", sum := "916fd24cb1cc784ace04d0fea4b92500820db77e76f0927459ecb122476c3a43", func := "cambist/cambistlaw03.GreedyParts", spec := "greedyParts", inPlace := ["math/bits.Add64", "math/bits.Sub64"], unfollowed := true, recurses := true, apart := false }
def GreedyPartsSaid : Prop := greedyPartsRow.holds Try.pinned (OpenSpec.ofChange greedyPartsSpec)

/-- ITS FALSE NEIGHBOUR: 'it returns false'. Refute it at one input. -/
def greedyPartsWrong : ChangeSpec := { name := "greedyParts", fn := fun _ => fun
  | [d1, d2, d3] => { results := [.lit (.bool false)], args := [d1, d2, d3] }
  | _ => none }
def GreedyPartsWrongFalsely : Prop := greedyPartsRow.holds Try.pinned (OpenSpec.ofChange greedyPartsWrong)

/- THE SECOND FORM. 'bulk': how many values and letters a reading holds, each counted each time it is reached (what is shared counts as often as it is met; a slice's spare places count too). A statement '..UptoSaid' is the law's where the arguments, and the package variables that the reading takes, are together of bulk at most 1048576: NARROWER than '..Said'. Prove '..Said' where nothing that the law and all that it calls make is longer than what came in: it says more and counts as full. Else prove '..UptoSaid'. A law counts once. -/
mutual
def uptoBulk {H : Type} : DataW H → Nat
  | .lit (.string bytes) => bytes.length + 1
  | .lit _ => 1
  | .nil => 1
  | .ptr d => uptoBulk d + 1
  | .slice elems spare => uptoBulkAll elems + uptoBulkAll spare + 1
  | .agg parts => uptoBulkAll parts + 1
  | .iface _ d => uptoBulk d + 1
  | .map entries => uptoBulkEntries entries + 1
  | .held _ => 1
def uptoBulkAll {H : Type} : List (DataW H) → Nat
  | [] => 0
  | d :: r => uptoBulk d + uptoBulkAll r
def uptoBulkEntries {H : Type} : List (Lit × DataW H) → Nat
  | [] => 0
  | x :: r => uptoBulkEntry x + uptoBulkEntries r
def uptoBulkEntry {H : Type} : Lit × DataW H → Nat
  | (.string bytes, d) => bytes.length + uptoBulk d + 1
  | (_, d) => uptoBulk d + 1
 end
def uptoSmall : (H : Type) → List (DataW H) → Bool := fun _ ds => decide (uptoBulkAll ds ≤ 1048576)
def OpenSpec.upto (s : _root_.Go.ChangeSpec) : _root_.Go.OpenSpec := { _root_.Go.OpenSpec.ofChange s with cond := some uptoSmall }

/-- 'cambistlaw03.ShareAll', WHERE WHAT IT READS IS OF BULK AT MOST 1048576: true; the input reads as it did. -/
def shareAllUptoRow : OpenClaim := { program := "ytfpicdhfoflcgaa", sum := "916fd24cb1cc784ace04d0fea4b92500820db77e76f0927459ecb122476c3a43", func := "cambist/cambistlaw03.ShareAll", spec := "shareAll", inPlace := ["math/bits.Add64", "math/bits.Sub64"], unfollowed := true, recurses := true, apart := false, narrowed := true }
def ShareAllUptoSaid : Prop := shareAllUptoRow.holds Try.pinned (OpenSpec.upto shareAllSpec)

/-- 'cambistlaw03.ShareFair', WHERE WHAT IT READS IS OF BULK AT MOST 1048576: true; the input reads as it did. -/
def shareFairUptoRow : OpenClaim := { program := "ytfpicdhfoflcgaa", sum := "916fd24cb1cc784ace04d0fea4b92500820db77e76f0927459ecb122476c3a43", func := "cambist/cambistlaw03.ShareFair", spec := "shareFair", inPlace := ["math/bits.Add64", "math/bits.Sub64"], unfollowed := true, recurses := true, apart := false, narrowed := true }
def ShareFairUptoSaid : Prop := shareFairUptoRow.holds Try.pinned (OpenSpec.upto shareFairSpec)

/-- 'cambistlaw03.ShareScales', WHERE WHAT IT READS IS OF BULK AT MOST 1048576: true; the input reads as it did. -/
def shareScalesUptoRow : OpenClaim := { program := "ytfpicdhfoflcgaa", sum := "916fd24cb1cc784ace04d0fea4b92500820db77e76f0927459ecb122476c3a43", func := "cambist/cambistlaw03.ShareScales", spec := "shareScales", inPlace := ["math/bits.Add64", "math/bits.Sub64"], unfollowed := true, recurses := true, apart := false, narrowed := true }
def ShareScalesUptoSaid : Prop := shareScalesUptoRow.holds Try.pinned (OpenSpec.upto shareScalesSpec)

/-- 'cambistlaw03.ShareExact', WHERE WHAT IT READS IS OF BULK AT MOST 1048576: true; the input reads as it did. -/
def shareExactUptoRow : OpenClaim := { program := "ytfpicdhfoflcgaa", sum := "916fd24cb1cc784ace04d0fea4b92500820db77e76f0927459ecb122476c3a43", func := "cambist/cambistlaw03.ShareExact", spec := "shareExact", inPlace := ["math/bits.Add64", "math/bits.Sub64"], unfollowed := true, recurses := true, apart := false, narrowed := true }
def ShareExactUptoSaid : Prop := shareExactUptoRow.holds Try.pinned (OpenSpec.upto shareExactSpec)

/-- 'cambistlaw03.GreedyAll', WHERE WHAT IT READS IS OF BULK AT MOST 1048576: true; the input reads as it did. -/
def greedyAllUptoRow : OpenClaim := { program := "ytfpicdhfoflcgaa", sum := "916fd24cb1cc784ace04d0fea4b92500820db77e76f0927459ecb122476c3a43", func := "cambist/cambistlaw03.GreedyAll", spec := "greedyAll", inPlace := ["math/bits.Add64", "math/bits.Sub64"], unfollowed := true, recurses := true, apart := false, narrowed := true }
def GreedyAllUptoSaid : Prop := greedyAllUptoRow.holds Try.pinned (OpenSpec.upto greedyAllSpec)

/-- 'cambistlaw03.GreedyGrows', WHERE WHAT IT READS IS OF BULK AT MOST 1048576: true; the input reads as it did. -/
def greedyGrowsUptoRow : OpenClaim := { program := "ytfpicdhfoflcgaa", sum := "916fd24cb1cc784ace04d0fea4b92500820db77e76f0927459ecb122476c3a43", func := "cambist/cambistlaw03.GreedyGrows", spec := "greedyGrows", inPlace := ["math/bits.Add64", "math/bits.Sub64"], unfollowed := true, recurses := true, apart := false, narrowed := true }
def GreedyGrowsUptoSaid : Prop := greedyGrowsUptoRow.holds Try.pinned (OpenSpec.upto greedyGrowsSpec)

/-- 'cambistlaw03.GreedyParts', WHERE WHAT IT READS IS OF BULK AT MOST 1048576: true; the input reads as it did. -/
def greedyPartsUptoRow : OpenClaim := { program := "ytfpicdhfoflcgaa", sum := "916fd24cb1cc784ace04d0fea4b92500820db77e76f0927459ecb122476c3a43", func := "cambist/cambistlaw03.GreedyParts", spec := "greedyParts", inPlace := ["math/bits.Add64", "math/bits.Sub64"], unfollowed := true, recurses := true, apart := false, narrowed := true }
def GreedyPartsUptoSaid : Prop := greedyPartsUptoRow.holds Try.pinned (OpenSpec.upto greedyPartsSpec)

end Rows
end Go.Proofs.Ytfpicdhfoflcgaa
