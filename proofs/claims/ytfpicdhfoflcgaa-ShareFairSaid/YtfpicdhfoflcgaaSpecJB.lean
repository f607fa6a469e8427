/- A sum in parts: what is right. In plain Lean. No condition. -/
import Derived.Test.YtfpicdhfoflcgaaSpecJ
namespace Go.Proofs.Ytfpicdhfoflcgaa
open Go.RowKit
set_option linter.unusedVariables false
set_option linter.unusedSimpArgs false
def sBad (t : Int) (l : List Int) : Bool := (decide (t < 0) || !([t].all rightN)) || !(l.all rightN)
def ngI (n : Int) : Bool := decide (n < 0)
def sRE (t : Int) (l : List Int) : Int := bif sBad t l then 3 else bif l.any ngI then 3 else bif decide ((l.length : Int) > 1024) then 5 else 0
/- Greedy. -/
def mi (c t : Int) : Int := if t < c then t else c
def gPart (t : Int) : List Int → List Int
  | [] => []
  | c :: l => mi c t :: gPart (t - mi c t) l
def gLeft (t : Int) : List Int → Int
  | [] => t
  | c :: l => gLeft (t - mi c t) l
def gV (t : Int) (l : List Int) : List Int := bif sRE t l == 0 then gPart t l else []
def gR (t : Int) (l : List Int) : Int := bif sRE t l == 0 then gLeft t l else 0
theorem gPart_snoc (x : Int) : ∀ (t : Int) (l : List Int), gPart t (l ++ [x]) = gPart t l ++ [mi x (gLeft t l)]
  | t, [] => rfl
  | t, c :: l => by simp only [List.cons_append, gPart, gLeft, gPart_snoc x (t - mi c t) l]
theorem gLeft_snoc (x : Int) : ∀ (t : Int) (l : List Int), gLeft t (l ++ [x]) = gLeft t l - mi x (gLeft t l)
  | t, [] => rfl
  | t, c :: l => by simp only [List.cons_append, gLeft, gLeft_snoc x (t - mi c t) l]
theorem gPart_len : ∀ (t : Int) (l : List Int), (gPart t l).length = l.length
  | t, [] => rfl
  | t, c :: l => by simp only [gPart, List.length_cons, gPart_len (t - mi c t) l]
theorem mi_bnd {c t : Int} (hc : 0 ≤ c) (ht : 0 ≤ t) : 0 ≤ mi c t ∧ mi c t ≤ t ∧ mi c t ≤ c := by
  simp only [mi]; split <;> omega
theorem gLeft_bnd : ∀ {t : Int} {l : List Int}, 0 ≤ t → (∀ x ∈ l, 0 ≤ x) → 0 ≤ gLeft t l ∧ gLeft t l ≤ t
  | t, [], h, _ => ⟨h, Int.le_refl _⟩
  | t, c :: l, h, hl => by
    have hm := mi_bnd (hl c (by simp)) h
    have ih := gLeft_bnd (t := t - mi c t) (l := l) (by omega) (fun x hx => hl x (List.mem_cons_of_mem _ hx))
    simp only [gLeft]; omega
theorem sRE_ok {t : Int} {l : List Int} (h : sRE t l = 0) : (0 ≤ t ∧ t ≤ 4611686018427387904) ∧ (∀ x ∈ l, 0 ≤ x ∧ x ≤ 4611686018427387904) ∧ l.length ≤ 1024 := by
  simp only [sRE] at h
  cases h1 : sBad t l with
  | true => rw [h1] at h; simp at h
  | false =>
    cases h2 : l.any ngI with
    | true => rw [h1, h2] at h; simp at h
    | false =>
      cases h3 : decide ((l.length : Int) > 1024) with
      | true => rw [h1, h2, h3] at h; simp at h
      | false =>
        simp only [sBad, Bool.or_eq_false_iff, Bool.not_eq_false', List.all_eq_true, decide_eq_false_iff_not] at h1
        have ht := h1.1.2 t (by simp)
        simp [rightN] at ht
        refine ⟨by omega, fun x hx => ?_, by have := of_decide_eq_false h3; omega⟩
        have hr := h1.2 x hx
        simp [rightN] at hr
        have hn := List.any_eq_false.1 h2 x hx
        simp [ngI] at hn
        omega
end Go.Proofs.Ytfpicdhfoflcgaa
