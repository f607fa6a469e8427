/-
  No cell of these rows narrows 'for every input' (looked for: loops, veiled, ifaces, maps, wideKeys, modest, calm, conditions, laid).
  DERIVED. THE GIVEN ROWS OF THIS SEAT. 5 by the template 'for every input the law returns true; each argument reads behind the call as it read before'; 0 by the template 'total and deterministic' (their statements: YteanccnggaakeaaGreatTotals.lean).
  GIVEN WITH THE SEED: the statements are not yours to turn. If you find one false, say at which input.
  Laid BY PROGRAM, IN A SANDBOX (cutbox-rows.mjs): the forced cells as the released guide's own fill.sh prints them over the translation ed99a9dee1ce1131… (all of the seat's roots in one cut). By AI agents, Wed Nov 11 2026. No macro, syntax, notation, axiom, sorry.
-/
import Derived.Test.YteanccnggaakeaaGreatChecked
import GoSem.Claim
import GoSem.ClaimJoined
import GoSem.ClaimMapViews
import Derived.JoinedTies
import Derived.KernelRfl
namespace Go.Proofs.YteanccnggaakeaaGreat
/- THE CELL 'sum', in the pinned program and in every row, IS THE sha256 OF THE DUMP (.gsa) THAT YteanccnggaakeaaGreatProg.lean LOADS. Nothing in Lean hashes anything: it is a label: what it is worth is what the hold of that sum in a sandbox is worth. -/
noncomputable def Tryz.pinned : Pinned := { name := "yteanccnggaakeaagreat", sum := "ed99a9dee1ce11310a4c639e60bcdb801bb1290018f2860b6b8c0ac721d5c90c", checked := Tryz.checked }
namespace Rows
def none {H : Type} : Left H := { results := [], args := [] }

/-- 'cambisttop.TopBack': WHATEVER THE INPUT: true; the input reads as it did. -/
def topBackSpec : ChangeSpec := { name := "topBack", fn := fun _ => fun
  | [d1, d2, d3, d4, d5, d6] => { results := [.lit (.bool true)], args := [d1, d2, d3, d4, d5, d6] }
  | _ => none }
def topBackRow : OpenClaim := { program := "yteanccnggaakeaagreat", sum := "ed99a9dee1ce11310a4c639e60bcdb801bb1290018f2860b6b8c0ac721d5c90c", func := "cambist/cambisttop.TopBack", spec := "topBack", inPlace := ["slices.overlaps[cambist/api.Member]", "slices.overlaps[cambist/api.Inst]", "slices.overlaps[cambist/api.Asset]", "math/bits.Add64", "slices.overlaps[cambist/api.Call]", "slices.overlaps[cambist/api.Pledge]", "math/bits.Sub64", "slices.overlaps[cambist/api.Seat]"], unfollowed := true, recurses := true, named := ["math/bits.divideError", "math/bits.overflowError"], apart := false }
def TopBackSaid : Prop := topBackRow.holds Tryz.pinned (OpenSpec.ofChange topBackSpec)

/-- ITS FALSE NEIGHBOUR: 'it returns false'. Refute it at one input. -/
def topBackWrong : ChangeSpec := { name := "topBack", fn := fun _ => fun
  | [d1, d2, d3, d4, d5, d6] => { results := [.lit (.bool false)], args := [d1, d2, d3, d4, d5, d6] }
  | _ => none }
def TopBackWrongFalsely : Prop := topBackRow.holds Tryz.pinned (OpenSpec.ofChange topBackWrong)

/-- 'cambisttop.TopRefill': WHATEVER THE INPUT: true; the input reads as it did. -/
def topRefillSpec : ChangeSpec := { name := "topRefill", fn := fun _ => fun
  | [d] => { results := [.lit (.bool true)], args := [d] }
  | _ => none }
def topRefillRow : OpenClaim := { program := "yteanccnggaakeaagreat", sum := "ed99a9dee1ce11310a4c639e60bcdb801bb1290018f2860b6b8c0ac721d5c90c", func := "cambist/cambisttop.TopRefill", spec := "topRefill", inPlace := ["slices.overlaps[cambist/api.Member]", "slices.overlaps[cambist/api.Inst]", "slices.overlaps[cambist/api.Asset]", "math/bits.Add64", "slices.overlaps[cambist/api.Call]", "slices.overlaps[cambist/api.Pledge]", "math/bits.Sub64", "slices.overlaps[cambist/api.Seat]"], unfollowed := true, recurses := true, named := ["math/bits.divideError", "math/bits.overflowError"], apart := false }
def TopRefillSaid : Prop := topRefillRow.holds Tryz.pinned (OpenSpec.ofChange topRefillSpec)

/-- ITS FALSE NEIGHBOUR: 'it returns false'. Refute it at one input. -/
def topRefillWrong : ChangeSpec := { name := "topRefill", fn := fun _ => fun
  | [d] => { results := [.lit (.bool false)], args := [d] }
  | _ => none }
def TopRefillWrongFalsely : Prop := topRefillRow.holds Tryz.pinned (OpenSpec.ofChange topRefillWrong)

/-- 'cambisttop.TopBrings': WHATEVER THE INPUT: true; the input reads as it did. -/
def topBringsSpec : ChangeSpec := { name := "topBrings", fn := fun _ => fun
  | [d1, d2] => { results := [.lit (.bool true)], args := [d1, d2] }
  | _ => none }
def topBringsRow : OpenClaim := { program := "yteanccnggaakeaagreat", sum := "ed99a9dee1ce11310a4c639e60bcdb801bb1290018f2860b6b8c0ac721d5c90c", func := "cambist/cambisttop.TopBrings", spec := "topBrings", inPlace := ["slices.overlaps[cambist/api.Member]", "slices.overlaps[cambist/api.Inst]", "slices.overlaps[cambist/api.Asset]", "math/bits.Add64", "slices.overlaps[cambist/api.Call]", "slices.overlaps[cambist/api.Pledge]", "math/bits.Sub64", "slices.overlaps[cambist/api.Seat]"], unfollowed := true, recurses := true, named := ["math/bits.divideError", "math/bits.overflowError"], apart := false }
def TopBringsSaid : Prop := topBringsRow.holds Tryz.pinned (OpenSpec.ofChange topBringsSpec)

/-- ITS FALSE NEIGHBOUR: 'it returns false'. Refute it at one input. -/
def topBringsWrong : ChangeSpec := { name := "topBrings", fn := fun _ => fun
  | [d1, d2] => { results := [.lit (.bool false)], args := [d1, d2] }
  | _ => none }
def TopBringsWrongFalsely : Prop := topBringsRow.holds Tryz.pinned (OpenSpec.ofChange topBringsWrong)

/-- 'cambisttop.TopAgain': WHATEVER THE INPUT: true; the input reads as it did. -/
def topAgainSpec : ChangeSpec := { name := "topAgain", fn := fun _ => fun
  | [d] => { results := [.lit (.bool true)], args := [d] }
  | _ => none }
def topAgainRow : OpenClaim := { program := "yteanccnggaakeaagreat", sum := "ed99a9dee1ce11310a4c639e60bcdb801bb1290018f2860b6b8c0ac721d5c90c", func := "cambist/cambisttop.TopAgain", spec := "topAgain", inPlace := ["slices.overlaps[cambist/api.Member]", "slices.overlaps[cambist/api.Inst]", "slices.overlaps[cambist/api.Asset]", "math/bits.Add64", "slices.overlaps[cambist/api.Call]", "slices.overlaps[cambist/api.Pledge]", "math/bits.Sub64", "slices.overlaps[cambist/api.Seat]"], unfollowed := true, recurses := true, named := ["math/bits.divideError", "math/bits.overflowError"], apart := false }
def TopAgainSaid : Prop := topAgainRow.holds Tryz.pinned (OpenSpec.ofChange topAgainSpec)

/-- ITS FALSE NEIGHBOUR: 'it returns false'. Refute it at one input. -/
def topAgainWrong : ChangeSpec := { name := "topAgain", fn := fun _ => fun
  | [d] => { results := [.lit (.bool false)], args := [d] }
  | _ => none }
def TopAgainWrongFalsely : Prop := topAgainRow.holds Tryz.pinned (OpenSpec.ofChange topAgainWrong)

/-- 'cambisttop.TopWitness': WHATEVER THE INPUT: true; the input reads as it did. -/
def topWitnessSpec : ChangeSpec := { name := "topWitness", fn := fun _ => fun
  | [] => { results := [.lit (.bool true)], args := [] }
  | _ => none }
def topWitnessRow : OpenClaim := { program := "yteanccnggaakeaagreat", sum := "ed99a9dee1ce11310a4c639e60bcdb801bb1290018f2860b6b8c0ac721d5c90c", func := "cambist/cambisttop.TopWitness", spec := "topWitness", inPlace := ["slices.overlaps[cambist/api.Member]", "slices.overlaps[cambist/api.Inst]", "slices.overlaps[cambist/api.Asset]", "math/bits.Add64", "slices.overlaps[cambist/api.Call]", "slices.overlaps[cambist/api.Pledge]", "math/bits.Sub64", "slices.overlaps[cambist/api.Seat]"], unfollowed := true, recurses := true, named := ["math/bits.divideError", "math/bits.overflowError"], apart := false }
def TopWitnessSaid : Prop := topWitnessRow.holds Tryz.pinned (OpenSpec.ofChange topWitnessSpec)

/-- ITS FALSE NEIGHBOUR: 'it returns false'. Refute it at one input. -/
def topWitnessWrong : ChangeSpec := { name := "topWitness", fn := fun _ => fun
  | [] => { results := [.lit (.bool false)], args := [] }
  | _ => none }
def TopWitnessWrongFalsely : Prop := topWitnessRow.holds Tryz.pinned (OpenSpec.ofChange topWitnessWrong)

/- THE SECOND FORM. 'bulk': how many values and letters a reading holds, each counted each time it is reached (what is shared counts as often as it is met; a slice's spare places count too). A statement '..UptoSaid' is the law's where the arguments, and the package variables that the reading takes, are together of bulk at most 1048576: NARROWER than '..Said'. Prove '..Said' where nothing that the law and all that it calls make is longer than what came in: it says more and counts as full. Else prove '..UptoSaid'. A law counts once. -/
mutual
def uptoBulk {H : Type} : DataW H → Nat
  | .lit (.string bytes) => bytes.length + 1
  | .lit _ => 1
  | .nil => 1
  | .ptr d => uptoBulk d + 1
  | .slice elems spare => uptoBulkAll elems + uptoBulkAll spare + 1
  | .agg parts => uptoBulkAll parts + 1
  | .iface _ d => uptoBulk d + 1
  | .map entries => uptoBulkEntries entries + 1
  | .held _ => 1
def uptoBulkAll {H : Type} : List (DataW H) → Nat
  | [] => 0
  | d :: r => uptoBulk d + uptoBulkAll r
def uptoBulkEntries {H : Type} : List (Lit × DataW H) → Nat
  | [] => 0
  | x :: r => uptoBulkEntry x + uptoBulkEntries r
def uptoBulkEntry {H : Type} : Lit × DataW H → Nat
  | (.string bytes, d) => bytes.length + uptoBulk d + 1
  | (_, d) => uptoBulk d + 1
 end
def uptoSmall : (H : Type) → List (DataW H) → Bool := fun _ ds => decide (uptoBulkAll ds ≤ 1048576)
def OpenSpec.upto (s : _root_.Go.ChangeSpec) : _root_.Go.OpenSpec := { _root_.Go.OpenSpec.ofChange s with cond := some uptoSmall }

/-- 'cambisttop.TopBack', WHERE WHAT IT READS IS OF BULK AT MOST 1048576: true; the input reads as it did. -/
def topBackUptoRow : OpenClaim := { program := "yteanccnggaakeaagreat", sum := "ed99a9dee1ce11310a4c639e60bcdb801bb1290018f2860b6b8c0ac721d5c90c", func := "cambist/cambisttop.TopBack", spec := "topBack", inPlace := ["slices.overlaps[cambist/api.Member]", "slices.overlaps[cambist/api.Inst]", "slices.overlaps[cambist/api.Asset]", "math/bits.Add64", "slices.overlaps[cambist/api.Call]", "slices.overlaps[cambist/api.Pledge]", "math/bits.Sub64", "slices.overlaps[cambist/api.Seat]"], unfollowed := true, recurses := true, named := ["math/bits.divideError", "math/bits.overflowError"], apart := false, narrowed := true }
def TopBackUptoSaid : Prop := topBackUptoRow.holds Tryz.pinned (OpenSpec.upto topBackSpec)

/-- 'cambisttop.TopRefill', WHERE WHAT IT READS IS OF BULK AT MOST 1048576: true; the input reads as it did. -/
def topRefillUptoRow : OpenClaim := { program := "yteanccnggaakeaagreat", sum := "ed99a9dee1ce11310a4c639e60bcdb801bb1290018f2860b6b8c0ac721d5c90c", func := "cambist/cambisttop.TopRefill", spec := "topRefill", inPlace := ["slices.overlaps[cambist/api.Member]", "slices.overlaps[cambist/api.Inst]", "slices.overlaps[cambist/api.Asset]", "math/bits.Add64", "slices.overlaps[cambist/api.Call]", "slices.overlaps[cambist/api.Pledge]", "math/bits.Sub64", "slices.overlaps[cambist/api.Seat]"], unfollowed := true, recurses := true, named := ["math/bits.divideError", "math/bits.overflowError"], apart := false, narrowed := true }
def TopRefillUptoSaid : Prop := topRefillUptoRow.holds Tryz.pinned (OpenSpec.upto topRefillSpec)

/-- 'cambisttop.TopBrings', WHERE WHAT IT READS IS OF BULK AT MOST 1048576: true; the input reads as it did. -/
def topBringsUptoRow : OpenClaim := { program := "yteanccnggaakeaagreat", sum := "ed99a9dee1ce11310a4c639e60bcdb801bb1290018f2860b6b8c0ac721d5c90c", func := "cambist/cambisttop.TopBrings", spec := "topBrings", inPlace := ["slices.overlaps[cambist/api.Member]", "slices.overlaps[cambist/api.Inst]", "slices.overlaps[cambist/api.Asset]", "math/bits.Add64", "slices.overlaps[cambist/api.Call]", "slices.overlaps[cambist/api.Pledge]", "math/bits.Sub64", "slices.overlaps[cambist/api.Seat]"], unfollowed := true, recurses := true, named := ["math/bits.divideError", "math/bits.overflowError"], apart := false, narrowed := true }
def TopBringsUptoSaid : Prop := topBringsUptoRow.holds Tryz.pinned (OpenSpec.upto topBringsSpec)

/-- 'cambisttop.TopAgain', WHERE WHAT IT READS IS OF BULK AT MOST 1048576: true; the input reads as it did. -/
def topAgainUptoRow : OpenClaim := { program := "yteanccnggaakeaagreat", sum := "ed99a9dee1ce11310a4c639e60bcdb801bb1290018f2860b6b8c0ac721d5c90c", func := "cambist/cambisttop.TopAgain", spec := "topAgain", inPlace := ["slices.overlaps[cambist/api.Member]", "slices.overlaps[cambist/api.Inst]", "slices.overlaps[cambist/api.Asset]", "math/bits.Add64", "slices.overlaps[cambist/api.Call]", "slices.overlaps[cambist/api.Pledge]", "math/bits.Sub64", "slices.overlaps[cambist/api.Seat]"], unfollowed := true, recurses := true, named := ["math/bits.divideError", "math/bits.overflowError"], apart := false, narrowed := true }
def TopAgainUptoSaid : Prop := topAgainUptoRow.holds Tryz.pinned (OpenSpec.upto topAgainSpec)

/-- 'cambisttop.TopWitness', WHERE WHAT IT READS IS OF BULK AT MOST 1048576: true; the input reads as it did. -/
def topWitnessUptoRow : OpenClaim := { program := "yteanccnggaakeaagreat", sum := "ed99a9dee1ce11310a4c639e60bcdb801bb1290018f2860b6b8c0ac721d5c90c", func := "cambist/cambisttop.TopWitness", spec := "topWitness", inPlace := ["slices.overlaps[cambist/api.Member]", "slices.overlaps[cambist/api.Inst]", "slices.overlaps[cambist/api.Asset]", "math/bits.Add64", "slices.overlaps[cambist/api.Call]", "slices.overlaps[cambist/api.Pledge]", "math/bits.Sub64", "slices.overlaps[cambist/api.Seat]"], unfollowed := true, recurses := true, named := ["math/bits.divideError", "math/bits.overflowError"], apart := false, narrowed := true }
def TopWitnessUptoSaid : Prop := topWitnessUptoRow.holds Tryz.pinned (OpenSpec.upto topWitnessSpec)

end Rows
end Go.Proofs.YteanccnggaakeaaGreat
