/- A sum in parts: rests in order. In plain Lean. No condition. -/
import Derived.Test.YtfpicdhfoflcgaaSpecJB
import Derived.Test.YtfpicdhfoflcgaaSort
namespace Go.Proofs.Ytfpicdhfoflcgaa
open Go.RowKit
set_option linter.unusedVariables false
set_option linter.unusedSimpArgs false
structure RestV where
  r : Nat
  at_ : Nat
def restC (x : RestV) : List D := [uw (x.r / 18446744073709551616), uw (x.r % 18446744073709551616), iv (x.at_ : Int)]
def restD : List D → RestV
  | [.v (.int _ h), .v (.int _ l), .v (.int _ a)] => ⟨h.toNat * 18446744073709551616 + l.toNat, a.toNat⟩
  | _ => ⟨0, 0⟩
theorem restD_C (x : RestV) : restD (restC x) = x := by
  obtain ⟨r, a⟩ := x
  simp only [restC, restD, uw, iv, Int.toNat_natCast]
  congr 1; omega
def isRest (x : List D) : Prop := ∃ b, x = restC b
theorem okM_rests (l : List RestV) : okM isRest (l.map restC) := fun e he => by
  obtain ⟨b, _, rfl⟩ := List.mem_map.1 he
  exact ⟨b, rfl⟩
def restLt (a b : RestV) : Bool := decide (cmpG b.r a.r < 0)
theorem cmpG_lt {a b : Nat} : cmpG a b < 0 ↔ a < b := by
  simp only [cmpG, cmpI]
  by_cases h : (a : Int) < b <;> by_cases k : (a : Int) > b <;> simp [h, k] <;> omega
theorem restLt_iff {a b : RestV} : restLt a b = true ↔ b.r < a.r := by rw [restLt, decide_eq_true_iff]; exact cmpG_lt
theorem restLt_swo : Swo restLt where
  asym a b h := by
    have h := restLt_iff.1 h
    cases h2 : restLt b a with
    | false => rfl
    | true => have h2 := restLt_iff.1 h2; omega
  tr a b c h1 h2 := by
    cases h3 : restLt c a with
    | false => rfl
    | true =>
      exfalso
      have h3 := restLt_iff.1 h3
      have h1 : ¬ a.r < b.r := fun h => by rw [restLt_iff.2 h] at h1; cases h1
      have h2 : ¬ b.r < c.r := fun h => by rw [restLt_iff.2 h] at h2; cases h2
      omega
def restCmp (x y : List D) : Int := cmpG (restD y).r (restD x).r
theorem restCmp_swo : Swo (ltc restCmp) where
  asym a b h := restLt_swo.asym (restD a) (restD b) h
  tr a b c h1 h2 := restLt_swo.tr (restD a) (restD b) (restD c) h1 h2
theorem isort_mapR {α β : Type} (f : α → β) {lt : α → α → Bool} {lt' : β → β → Bool} (h : ∀ a b, lt' (f a) (f b) = lt a b) (l : List α) : isort lt' (l.map f) = (isort lt l).map f := by
  have ins : ∀ (x : α) (l : List α), insX lt' (f x) (l.map f) = (insX lt x l).map f := by
    intro x l
    induction l with
    | nil => rfl
    | cons y l ih =>
      simp only [List.map_cons, insX, h]
      cases lt x y with
      | true => rfl
      | false => simp [ih]
  have aux : ∀ (l acc : List α), isortA lt' (acc.map f) (l.map f) = (isortA lt acc l).map f := by
    intro l
    induction l with
    | nil => intro acc; rfl
    | cons x l ih => intro acc; simp only [List.map_cons, isortA, ins, ih]
  exact aux l []
def restOrder (l : List RestV) : List RestV := isort restLt l
theorem sort_rests (l : List RestV) : isort (ltc restCmp) (l.map restC) = (restOrder l).map restC :=
  isort_mapR restC (fun a b => by simp only [ltc, restCmp, restD_C, restLt]) l
end Go.Proofs.Ytfpicdhfoflcgaa
