/-
  No cell of these rows narrows 'for every input' (looked for: loops, veiled, ifaces, maps, wideKeys, modest, calm, conditions, laid).
  DERIVED. THE GIVEN ROWS OF THIS SEAT. 5 by the template 'for every input the law returns true; each argument reads behind the call as it read before'; 0 by the template 'total and deterministic' (their statements: YtjkfadaedgidpaaTotals.lean).
  GIVEN WITH THE SEED: the statements are not yours to turn. If you find one false, say at which input.
  Laid BY PROGRAM, IN A SANDBOX (cutbox-rows.mjs): the forced cells as the released guide's own fill.sh prints them over the translation 547a3a9dbae88a91… (all of the seat's roots in one cut). By AI agents, Wed Nov 11 2026. No macro, syntax, notation, axiom, sorry.
-/
import Derived.Test.YtjkfadaedgidpaaChecked
import GoSem.Claim
import GoSem.ClaimJoined
import GoSem.ClaimMapViews
import Derived.JoinedTies
import Derived.KernelRfl
namespace Go.Proofs.Ytjkfadaedgidpaa
/- THE CELL 'sum', in the pinned program and in every row, IS THE sha256 OF THE DUMP (.gsa) THAT YtjkfadaedgidpaaProg.lean LOADS. Nothing in Lean hashes anything: it is a label: what it is worth is what the hold of that sum in a sandbox is worth. -/
noncomputable def Try.pinned : Pinned := { name := "ytjkfadaedgidpaa", sum := "547a3a9dbae88a919efa9e79fa8ece1e50642ceae3f25c4050333199a739a27b", checked := Try.checked }
namespace Rows
def none {H : Type} : Left H := { results := [], args := [] }

/-- 'cambistlaw21.FundBears': WHATEVER THE INPUT: true; the input reads as it did. -/
def fundBearsSpec : ChangeSpec := { name := "fundBears", fn := fun _ => fun
  | [d1, d2, d3, d4] => { results := [.lit (.bool true)], args := [d1, d2, d3, d4] }
  | _ => none }
def fundBearsRow : OpenClaim := { program := "ytjkfadaedgidpaa", sum := "547a3a9dbae88a919efa9e79fa8ece1e50642ceae3f25c4050333199a739a27b", func := "cambist/cambistlaw21.FundBears", spec := "fundBears", inPlace := ["math/bits.Add64", "math/bits.Sub64"], unfollowed := true, recurses := true, apart := false }
def FundBearsSaid : Prop := fundBearsRow.holds Try.pinned (OpenSpec.ofChange fundBearsSpec)

/-- ITS FALSE NEIGHBOUR: 'it returns false'. Refute it at one input. -/
def fundBearsWrong : ChangeSpec := { name := "fundBears", fn := fun _ => fun
  | [d1, d2, d3, d4] => { results := [.lit (.bool false)], args := [d1, d2, d3, d4] }
  | _ => none }
def FundBearsWrongFalsely : Prop := fundBearsRow.holds Try.pinned (OpenSpec.ofChange fundBearsWrong)

/-- 'cambistlaw21.FundFair': WHATEVER THE INPUT: true; the input reads as it did. -/
def fundFairSpec : ChangeSpec := { name := "fundFair", fn := fun _ => fun
  | [d1, d2, d3, d4] => { results := [.lit (.bool true)], args := [d1, d2, d3, d4] }
  | _ => none }
def fundFairRow : OpenClaim := { program := "ytjkfadaedgidpaa", sum := "547a3a9dbae88a919efa9e79fa8ece1e50642ceae3f25c4050333199a739a27b", func := "cambist/cambistlaw21.FundFair", spec := "fundFair", inPlace := ["math/bits.Add64", "math/bits.Sub64"], unfollowed := true, recurses := true, apart := false }
def FundFairSaid : Prop := fundFairRow.holds Try.pinned (OpenSpec.ofChange fundFairSpec)

/-- ITS FALSE NEIGHBOUR: 'it returns false'. Refute it at one input. -/
def fundFairWrong : ChangeSpec := { name := "fundFair", fn := fun _ => fun
  | [d1, d2, d3, d4] => { results := [.lit (.bool false)], args := [d1, d2, d3, d4] }
  | _ => none }
def FundFairWrongFalsely : Prop := fundFairRow.holds Try.pinned (OpenSpec.ofChange fundFairWrong)

/-- 'cambistlaw21.FundSums': WHATEVER THE INPUT: true; the input reads as it did. -/
def fundSumsSpec : ChangeSpec := { name := "fundSums", fn := fun _ => fun
  | [d1, d2, d3, d4] => { results := [.lit (.bool true)], args := [d1, d2, d3, d4] }
  | _ => none }
def fundSumsRow : OpenClaim := { program := "ytjkfadaedgidpaa", sum := "547a3a9dbae88a919efa9e79fa8ece1e50642ceae3f25c4050333199a739a27b", func := "cambist/cambistlaw21.FundSums", spec := "fundSums", inPlace := ["math/bits.Add64", "math/bits.Sub64"], unfollowed := true, recurses := true, apart := false }
def FundSumsSaid : Prop := fundSumsRow.holds Try.pinned (OpenSpec.ofChange fundSumsSpec)

/-- ITS FALSE NEIGHBOUR: 'it returns false'. Refute it at one input. -/
def fundSumsWrong : ChangeSpec := { name := "fundSums", fn := fun _ => fun
  | [d1, d2, d3, d4] => { results := [.lit (.bool false)], args := [d1, d2, d3, d4] }
  | _ => none }
def FundSumsWrongFalsely : Prop := fundSumsRow.holds Try.pinned (OpenSpec.ofChange fundSumsWrong)

/-- 'cambistlaw21.FundFills': WHATEVER THE INPUT: true; the input reads as it did. -/
def fundFillsSpec : ChangeSpec := { name := "fundFills", fn := fun _ => fun
  | [d1, d2, d3] => { results := [.lit (.bool true)], args := [d1, d2, d3] }
  | _ => none }
def fundFillsRow : OpenClaim := { program := "ytjkfadaedgidpaa", sum := "547a3a9dbae88a919efa9e79fa8ece1e50642ceae3f25c4050333199a739a27b", func := "cambist/cambistlaw21.FundFills", spec := "fundFills", inPlace := ["math/bits.Add64", "math/bits.Sub64"], unfollowed := true, recurses := true, apart := false }
def FundFillsSaid : Prop := fundFillsRow.holds Try.pinned (OpenSpec.ofChange fundFillsSpec)

/-- ITS FALSE NEIGHBOUR: 'it returns false'. Refute it at one input. -/
def fundFillsWrong : ChangeSpec := { name := "fundFills", fn := fun _ => fun
  | [d1, d2, d3] => { results := [.lit (.bool false)], args := [d1, d2, d3] }
  | _ => none }
def FundFillsWrongFalsely : Prop := fundFillsRow.holds Try.pinned (OpenSpec.ofChange fundFillsWrong)

/-- 'cambistlaw21.FundAsks': WHATEVER THE INPUT: true; the input reads as it did. -/
def fundAsksSpec : ChangeSpec := { name := "fundAsks", fn := fun _ => fun
  | [d1, d2, d3, d4] => { results := [.lit (.bool true)], args := [d1, d2, d3, d4] }
  | _ => none }
def fundAsksRow : OpenClaim := { program := "ytjkfadaedgidpaa", sum := "547a3a9dbae88a919efa9e79fa8ece1e50642ceae3f25c4050333199a739a27b", func := "cambist/cambistlaw21.FundAsks", spec := "fundAsks", inPlace := ["math/bits.Add64", "math/bits.Sub64"], unfollowed := true, recurses := true, apart := false }
def FundAsksSaid : Prop := fundAsksRow.holds Try.pinned (OpenSpec.ofChange fundAsksSpec)

/-- ITS FALSE NEIGHBOUR: 'it returns false'. Refute it at one input. -/
def fundAsksWrong : ChangeSpec := { name := "fundAsks", fn := fun _ => fun
  | [d1, d2, d3, d4] => { results := [.lit (.bool false)], args := [d1, d2, d3, d4] }
  | _ => none }
def FundAsksWrongFalsely : Prop := fundAsksRow.holds Try.pinned (OpenSpec.ofChange fundAsksWrong)

/- THE SECOND FORM. 'bulk': how many values and letters a reading holds, each counted each time it is reached (what is shared counts as often as it is met; a slice's spare places count too). A statement '..UptoSaid' is the law's where the arguments, and the package variables that the reading takes, are together of bulk at most 1048576: NARROWER than '..Said'. Prove '..Said' where nothing that the law and all that it calls make is longer than what came in: it says more and counts as full. Else prove '..UptoSaid'. A law counts once. -/
mutual
def uptoBulk {H : Type} : DataW H → Nat
  | .lit (.string bytes) => bytes.length + 1
  | .lit _ => 1
  | .nil => 1
  | .ptr d => uptoBulk d + 1
  | .slice elems spare => uptoBulkAll elems + uptoBulkAll spare + 1
  | .agg parts => uptoBulkAll parts + 1
  | .iface _ d => uptoBulk d + 1
  | .map entries => uptoBulkEntries entries + 1
  | .held _ => 1
def uptoBulkAll {H : Type} : List (DataW H) → Nat
  | [] => 0
  | d :: r => uptoBulk d + uptoBulkAll r
def uptoBulkEntries {H : Type} : List (Lit × DataW H) → Nat
  | [] => 0
  | x :: r => uptoBulkEntry x + uptoBulkEntries r
def uptoBulkEntry {H : Type} : Lit × DataW H → Nat
  | (.string bytes, d) => bytes.length + uptoBulk d + 1
  | (_, d) => uptoBulk d + 1
 end
def uptoSmall : (H : Type) → List (DataW H) → Bool := fun _ ds => decide (uptoBulkAll ds ≤ 1048576)
def OpenSpec.upto (s : _root_.Go.ChangeSpec) : _root_.Go.OpenSpec := { _root_.Go.OpenSpec.ofChange s with cond := some uptoSmall }

/-- 'cambistlaw21.FundBears', WHERE WHAT IT READS IS OF BULK AT MOST 1048576: true; the input reads as it did. -/
def fundBearsUptoRow : OpenClaim := { program := "ytjkfadaedgidpaa", sum := "547a3a9dbae88a919efa9e79fa8ece1e50642ceae3f25c4050333199a739a27b", func := "cambist/cambistlaw21.FundBears", spec := "fundBears", inPlace := ["math/bits.Add64", "math/bits.Sub64"], unfollowed := true, recurses := true, apart := false, narrowed := true }
def FundBearsUptoSaid : Prop := fundBearsUptoRow.holds Try.pinned (OpenSpec.upto fundBearsSpec)

/-- 'cambistlaw21.FundFair', WHERE WHAT IT READS IS OF BULK AT MOST 1048576: true; the input reads as it did. -/
def fundFairUptoRow : OpenClaim := { program := "ytjkfadaedgidpaa", sum := "547a3a9dbae88a919efa9e79fa8ece1e50642ceae3f25c4050333199a739a27b", func := "cambist/cambistlaw21.FundFair", spec := "fundFair", inPlace := ["math/bits.Add64", "math/bits.Sub64"], unfollowed := true, recurses := true, apart := false, narrowed := true }
def FundFairUptoSaid : Prop := fundFairUptoRow.holds Try.pinned (OpenSpec.upto fundFairSpec)

/-- 'cambistlaw21.FundSums', WHERE WHAT IT READS IS OF BULK AT MOST 1048576: true; the input reads as it did. -/
def fundSumsUptoRow : OpenClaim := { program := "ytjkfadaedgidpaa", sum := "547a3a9dbae88a919efa9e79fa8ece1e50642ceae3f25c4050333199a739a27b", func := "cambist/cambistlaw21.FundSums", spec := "fundSums", inPlace := ["math/bits.Add64", "math/bits.Sub64"], unfollowed := true, recurses := true, apart := false, narrowed := true }
def FundSumsUptoSaid : Prop := fundSumsUptoRow.holds Try.pinned (OpenSpec.upto fundSumsSpec)

/-- 'cambistlaw21.FundFills', WHERE WHAT IT READS IS OF BULK AT MOST 1048576: true; the input reads as it did. -/
def fundFillsUptoRow : OpenClaim := { program := "ytjkfadaedgidpaa", sum := "547a3a9dbae88a919efa9e79fa8ece1e50642ceae3f25c4050333199a739a27b", func := "cambist/cambistlaw21.FundFills", spec := "fundFills", inPlace := ["math/bits.Add64", "math/bits.Sub64"], unfollowed := true, recurses := true, apart := false, narrowed := true }
def FundFillsUptoSaid : Prop := fundFillsUptoRow.holds Try.pinned (OpenSpec.upto fundFillsSpec)

/-- 'cambistlaw21.FundAsks', WHERE WHAT IT READS IS OF BULK AT MOST 1048576: true; the input reads as it did. -/
def fundAsksUptoRow : OpenClaim := { program := "ytjkfadaedgidpaa", sum := "547a3a9dbae88a919efa9e79fa8ece1e50642ceae3f25c4050333199a739a27b", func := "cambist/cambistlaw21.FundAsks", spec := "fundAsks", inPlace := ["math/bits.Add64", "math/bits.Sub64"], unfollowed := true, recurses := true, apart := false, narrowed := true }
def FundAsksUptoSaid : Prop := fundAsksUptoRow.holds Try.pinned (OpenSpec.upto fundAsksSpec)

end Rows
end Go.Proofs.Ytjkfadaedgidpaa
