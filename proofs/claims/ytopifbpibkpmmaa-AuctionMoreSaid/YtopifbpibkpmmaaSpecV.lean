/- Bids and fills: what the laws of the auction need besides. No condition. -/
import Derived.Test.YtopifbpibkpmmaaSpecU
namespace Go.Proofs.Ytopifbpibkpmmaa
open Go.RowKit
set_option linter.unusedVariables false
set_option linter.unusedSimpArgs false
theorem fillsF_app (r : Int) (l m : List BidV) : fillsF r (l ++ m) = fillsF r l ++ fillsF (restF r l) m := by
  induction l generalizing r with
  | nil => rfl
  | cons b l ih => simp only [List.cons_append, fillsF, restF, ih, List.append_assoc]
theorem restF_app (r : Int) (l m : List BidV) : restF r (l ++ m) = restF (restF r l) m := by
  induction l generalizing r with
  | nil => rfl
  | cons b l ih => exact ih _
theorem fills_zero : ∀ {l : List BidV}, l.all bidOk = true → fillsF 0 l = [] ∧ restF 0 l = 0
  | [], _ => ⟨rfl, rfl⟩
  | b :: l, h => by
    simp only [List.all_cons, Bool.and_eq_true, bidOk, inR, decide_eq_true_eq] at h
    have e : mn2 0 b.qty = 0 := by simp only [mn2]; split <;> omega
    have ih := fills_zero (l := l) (by simpa [bidOk, inR] using h.2)
    simp only [fillsF, restF, e]
    exact ⟨by rw [show (0 : Int) - 0 = 0 from rfl, ih.1]; rfl, ih.2⟩
theorem ins_doneB {lt : BidV → BidV → Bool} (hs : Swo lt) {x : BidV} {A C : List BidV} (h : Srt lt (A ++ C)) (hC : ∀ b ∈ C, lt x b = true) (hA : A = [] ∨ ∃ A' y, A = A' ++ [y] ∧ lt x y = false) : A ++ x :: C = insX lt x (A ++ C) := by
  rcases hA with rfl | ⟨A', y, rfl, hy⟩
  · exact (insX_end hC).symm
  · exact ins_done hs (by simpa using h) hC hy
end Go.Proofs.Ytopifbpibkpmmaa
