/- Ledgers: rows of postings, one behind the other. In plain Lean. No condition. -/
import Derived.Test.YtjkfadaedgidpaaSpecLB
namespace Go.Proofs.Ytjkfadaedgidpaa
open Go.RowKit
set_option linter.unusedVariables false
set_option linter.unusedSimpArgs false
structure PstV where
  id : Int
  legs : List LegV
def pstC (p : PstV) : List D := [iv p.id, legs p.legs]
def psts (l : List PstV) : D := .sl 2 (l.map pstC)
def long (p : PstV) : Bool := decide ((p.legs.length : Int) > 200)
def heavyP (l : List PstV) : Bool := decide ((l.length : Int) > 200) || l.any long
def FewP (l : List PstV) : Prop := l.length ≤ 200 ∧ ∀ p ∈ l, p.legs.length ≤ 200
def grow1 (s : LedV) (p : PstV) : LedV := bif postE s p.id p.legs == 0 then postV s p.id p.legs else s
def growF (l : List PstV) : LedV := l.foldl grow1 ⟨0, []⟩
def growK (s : LedV) (p : PstV) : Int := bif postE s p.id p.legs == 0 then 1 else 0
def growC : LedV → List PstV → Int
  | _, [] => 0
  | s, p :: l => growK s p + growC (grow1 s p) l
def grownV (l : List PstV) : LedV := growF (l.take 40)
def grownN (l : List PstV) : Int := growC ⟨0, []⟩ (l.take 40)
theorem postV_len (s : LedV) (id : Int) (g : List LegV) : (postV s id g).bal.length ≤ g.length + s.bal.length := by
  by_cases h : postE s id g = 0
  · rw [post_val h]; simp only
    have : (joinV (g ++ s.bal)).length ≤ (g ++ s.bal).length := by
      rw [jV (post_ok.1 h).2.2.2.2.2.1]
      have := joinO_len (legSort (g ++ s.bal)); rw [legSort_len] at this; exact this
    simpa using this
  · rw [post_no h]; simp
/- Sums of one account, in the machine's words. -/
/- The postings of LedgerOnce. -/
theorem once_of {s : LedV} {id : Int} {g : List LegV} (h : postE s id g = 0) (a : AcV) : ofL a (postV s id g).bal = sumA a g + sumA a s.bal := by
  rw [ofL_sum (post_good h).asc, post_sum h]
theorem good_last {s : LedV} (h : Good s) (hl : s.last < 549755813888) : IntKind.wrap .i64 (s.last + 1) = s.last + 1 ∧ IntKind.wrap .i64 (s.last + 2) = s.last + 2 := by
  have := h.last
  exact ⟨wrapI (by omega) (by omega), wrapI (by omega) (by omega)⟩
/- What the statements try first: a posting, and it again. -/
end Go.Proofs.Ytjkfadaedgidpaa
