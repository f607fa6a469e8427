/- Ledgers: floors, totals of kinds, what the page says. In plain Lean. No condition. -/
import Derived.Test.YtjkfadaedgidpaaSpecL
namespace Go.Proofs.Ytjkfadaedgidpaa
open Go.RowKit
set_option linter.unusedVariables false
set_option linter.unusedSimpArgs false
theorem flo_neg (a : AcV) : -4611686018427387904 ≤ flo a ∧ flo a ≤ 0 := by
  simp only [flo]
  cases acOk a && (a.kind == 3 || a.kind == 4) <;> simp
theorem good_rt {l : LedV} (h : Good l) (a : AcV) : rightN (sumA a l.bal) = true := by
  by_cases h0 : sumA a l.bal = 0
  · rw [h0]; rfl
  · obtain ⟨z, hz, e⟩ := sumA_mem h0
    rw [← e, asc_sum h.asc z hz]
    exact ok_rt h.ok z hz
theorem good_fl {l : LedV} (h : Good l) (a : AcV) : flo a ≤ sumA a l.bal := by
  by_cases h0 : sumA a l.bal = 0
  · rw [h0]; exact (flo_neg a).2
  · obtain ⟨z, hz, e⟩ := sumA_mem h0
    have := h.fl z hz
    rw [← e, asc_sum h.asc z hz]; exact this
/- Floors by sums. -/
def bankOf (a : AcV) : AcV := ⟨1, 0, a.cur⟩
/- Totals of kinds. -/
def kSum (c : Int) (g : Int → Bool) (l : List LegV) : Int := (sumsL c g l).sum
theorem kSum_cons (c : Int) (g : Int → Bool) (x : LegV) (l : List LegV) : kSum c g (x :: l) = (bif x.ac.cur == c && g x.ac.kind then x.amt else 0) + kSum c g l := by
  simp only [kSum, sumsL, List.filter_cons]
  cases (x.ac.cur == c && g x.ac.kind) <;> simp [amts]
theorem kSum_same (c : Int) {g h : Int → Bool} : ∀ {l : List LegV}, (∀ y ∈ l, g y.ac.kind = h y.ac.kind) → kSum c g l = kSum c h l
  | [], _ => rfl
  | x :: l, e => by rw [kSum_cons, kSum_cons, e x (by simp), kSum_same c fun y hy => e y (List.mem_cons_of_mem _ hy)]
/- Kinds seen so far. -/
def kIn (k : Int) : Bool := !(decide (k < 1) || decide (k > 6))
def skipK (pre : List Int) (k : Int) : Bool := (bif !kIn k then true else pre.contains k)
def seenL (pre : List Int) : List Bool := [false, pre.contains 1, pre.contains 2, pre.contains 3, pre.contains 4, pre.contains 5, pre.contains 6]
def cntL (pre : List Int) : Nat := (seenL pre).countP id
end Go.Proofs.Ytjkfadaedgidpaa
