/- A sum in parts: greedy parts; what may be. In plain Lean. No condition. -/
import Derived.Test.YtjkfadaedgidpaaSpecJF
namespace Go.Proofs.Ytjkfadaedgidpaa
open Go.RowKit
set_option linter.unusedVariables false
set_option linter.unusedSimpArgs false
def mayX (n : Int) : Bool := decide (n < 0) || decide (n > 4611686018427387904)
def mayB (t : Int) (l : List Int) : Bool := bif mayX t || decide ((l.length : Int) > 200) then false else !(l.any mayX)
theorem intsD_get {p : List Int} {k : Nat} (h : k < p.length) : (p.map fun n => [iv n]).getD k [] = [iv (p.getD k 0)] := by
 simp [List.getD_eq_getElem?_getD, List.getElem?_eq_getElem h]
theorem getD_mem {p : List Int} {k : Nat} (h : k < p.length) : p.getD k 0 ∈ p := by
 rw [List.getD_eq_getElem?_getD, List.getElem?_eq_getElem h]; exact List.getElem_mem h
def oneI (n : Int) : List D := [iv n]
def spoilI (_ : Int) : Int := -77
def belowV : Int → List Int → Bool
 | _, [] => false
 | t, c :: l => decide (mi c t < c) || belowV (t - mi c t) l
end Go.Proofs.Ytjkfadaedgidpaa
