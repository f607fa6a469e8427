/- A sum in parts: greedy parts, and what may be. In plain Lean. No condition. -/
import Derived.Test.YtfpicdhfoflcgaaSpecJF
namespace Go.Proofs.Ytfpicdhfoflcgaa
open Go.RowKit
set_option linter.unusedVariables false
set_option linter.unusedSimpArgs false
def mayX (n : Int) : Bool := decide (n < 0) || decide (n > 4611686018427387904)
def mayB (t : Int) (l : List Int) : Bool := bif mayX t || decide ((l.length : Int) > 200) then false else !(l.any mayX)
theorem mayX_ok {n : Int} (h : mayX n = false) : 0 ≤ n ∧ n ≤ 4611686018427387904 := by
  simp only [mayX, Bool.or_eq_false_iff, decide_eq_false_iff_not] at h; omega
theorem may_ok {t : Int} {l : List Int} (h : mayB t l = true) : mayOk t l := by
  simp only [mayB] at h
  cases h1 : mayX t || decide ((l.length : Int) > 200) with
  | true => rw [h1] at h; cases h
  | false =>
    rw [h1] at h
    simp only [Bool.or_eq_false_iff, decide_eq_false_iff_not] at h1
    refine ⟨mayX_ok h1.1, fun x hx => mayX_ok ?_, by omega⟩
    have h : l.any mayX = false := by simpa using h
    have := List.any_eq_false.1 h x hx
    simpa using this
/- Greedy. -/
theorem gPart_app : ∀ (t : Int) (a b : List Int), gPart t (a ++ b) = gPart t a ++ gPart (gLeft t a) b
  | t, [], b => rfl
  | t, c :: a, b => by simp only [List.cons_append, gPart, gLeft, gPart_app (t - mi c t) a b]
theorem gLeft_app : ∀ (t : Int) (a b : List Int), gLeft t (a ++ b) = gLeft (gLeft t a) b
  | t, [], b => rfl
  | t, c :: a, b => by simp only [List.cons_append, gLeft, gLeft_app (t - mi c t) a b]
theorem gV_ok {t : Int} {l : List Int} (h : sRE t l = 0) : gV t l = gPart t l ∧ gR t l = gLeft t l := by simp only [gV, gR, h]; exact ⟨rfl, rfl⟩
theorem gLeft_mono : ∀ {t u : Int} {l : List Int}, t ≤ u → gLeft t l ≤ gLeft u l
  | t, u, [], h => h
  | t, u, c :: l, h => by
    simp only [gLeft]
    refine gLeft_mono (l := l) ?_
    simp only [mi]; split <;> split <;> omega
theorem gPart_mono : ∀ {t u : Int} {l : List Int} (i : Nat), t ≤ u → (gPart t l).getD i 0 ≤ (gPart u l).getD i 0
  | t, u, [], i, h => by simp [gPart]
  | t, u, c :: l, 0, h => by
    simp only [gPart, List.getD_cons_zero, mi]; split <;> split <;> omega
  | t, u, c :: l, i + 1, h => by
    simp only [gPart, List.getD_cons_succ]
    refine gPart_mono i ?_
    simp only [mi]; split <;> split <;> omega
theorem gLeft_cap {t c d : Int} {a b : List Int} (h : c ≤ d) : gLeft t (a ++ d :: b) ≤ gLeft t (a ++ c :: b) := by
  rw [gLeft_app, gLeft_app]
  simp only [gLeft]
  refine gLeft_mono ?_
  simp only [mi]; split <;> split <;> omega
theorem gPart_mid (t : Int) (pre post : List Int) (x : Int) : (gPart t (pre ++ x :: post)).getD pre.length 0 = mi x (gLeft t pre) := by
  rw [gPart_app, List.getD_eq_getElem?_getD, List.getElem?_append_right (by rw [gPart_len]; exact Nat.le_refl _), gPart_len]
  simp [gPart]
/- Lists of numbers in memory. -/
theorem intsD_get {p : List Int} {k : Nat} (h : k < p.length) : (p.map fun n => [iv n]).getD k [] = [iv (p.getD k 0)] := by
  simp [List.getD_eq_getElem?_getD, List.getElem?_eq_getElem h]
theorem getD_mem {p : List Int} {k : Nat} (h : k < p.length) : p.getD k 0 ∈ p := by
  rw [List.getD_eq_getElem?_getD, List.getElem?_eq_getElem h]; exact List.getElem_mem h
theorem wk03 : splitV 10 [1, 1, 1] = [4, 3, 3] ∧ splitE 10 [1, 1, 1] = 0 := by decide
theorem scl_all {l : List Int} {k : Nat} (hk0 : 0 < k) (hk : k ≤ 1000) {t : Int} (hm : mayOk t l) (h : ∀ x ∈ l, x ≤ 1125899906842624) : mayOk t (l.map fun w => w * (k : Int)) := by
  refine ⟨hm.1, fun x hx => ?_, by rw [List.length_map]; exact hm.2.2⟩
  obtain ⟨w, hw, rfl⟩ := List.mem_map.1 hx
  have h1 := (hm.2.1 w hw).1
  have h2 := h w hw
  refine ⟨Int.mul_nonneg h1 (Int.natCast_nonneg k), ?_⟩
  have : w * (k : Int) ≤ 1125899906842624 * (k : Int) := Int.mul_le_mul_of_nonneg_right h2 (Int.natCast_nonneg k)
  omega
end Go.Proofs.Ytfpicdhfoflcgaa
