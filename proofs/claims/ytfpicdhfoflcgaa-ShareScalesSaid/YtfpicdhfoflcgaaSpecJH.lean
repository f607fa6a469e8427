/- A sum in parts: what the laws of greedy parts read. In plain Lean. No condition. -/
import Derived.Test.YtfpicdhfoflcgaaSpecJG
namespace Go.Proofs.Ytfpicdhfoflcgaa
open Go.RowKit
set_option linter.unusedVariables false
set_option linter.unusedSimpArgs false
def oneI (n : Int) : List D := [iv n]
def spoilI (_ : Int) : Int := -77
theorem ints_one (l : List Int) : ints l = .sl 1 (l.map oneI) := rfl
def belowV : Int → List Int → Bool
  | _, [] => false
  | t, c :: l => decide (mi c t < c) || belowV (t - mi c t) l
theorem belowV_snoc : ∀ (t : Int) (l : List Int) (x : Int), belowV t (l ++ [x]) = (belowV t l || decide (mi x (gLeft t l) < x))
  | t, [], x => by simp only [belowV, gLeft, List.nil_append, Bool.or_false, Bool.false_or]; rfl
  | t, c :: l, x => by simp only [List.cons_append, belowV, gLeft, belowV_snoc (t - mi c t) l x, Bool.or_assoc]; rfl
theorem gLeft_zero : ∀ {l : List Int}, (∀ x ∈ l, 0 ≤ x) → gLeft 0 l = 0
  | [], _ => rfl
  | c :: l, h => by
    have h1 := h c (by simp)
    have e : mi c 0 = 0 := by simp only [mi]; split <;> omega
    simp only [gLeft, e, Int.sub_zero]
    exact gLeft_zero fun x hx => h x (by simp [hx])
theorem belowV_zero : ∀ {t : Int} {l : List Int}, (∀ x ∈ l, 0 ≤ x) → belowV t l = true → gLeft t l = 0
  | t, [], _, h => by cases h
  | t, c :: l, hl, h => by
    simp only [belowV, Bool.or_eq_true, decide_eq_true_eq] at h
    simp only [gLeft]
    rcases h with h | h
    · have e : t - mi c t = 0 := by simp only [mi] at *; split at h <;> split <;> omega
      rw [e]; exact gLeft_zero fun x hx => hl x (by simp [hx])
    · exact belowV_zero (fun x hx => hl x (by simp [hx])) h
theorem mi_zero {x : Int} (h : 0 ≤ x) : mi x 0 = 0 := by simp only [mi]; split <;> omega
theorem set_split {l : List Int} {k : Nat} (h : k < l.length) (v : Int) : ∃ a c b, l = a ++ c :: b ∧ l.set k v = a ++ v :: b ∧ a.length = k ∧ l.getD k 0 = c := by
  refine ⟨l.take k, l[k], l.drop (k + 1), ?_, ?_, ?_, ?_⟩
  · rw [List.getElem_cons_drop]; exact (List.take_append_drop k l).symm
  · exact List.set_eq_take_append_cons_drop .. |>.trans (by simp [h])
  · simp; omega
  · simp [List.getD_eq_getElem?_getD, h]
theorem grows_cap {t : Int} {l : List Int} {k : Nat} {cap : Int} (h : k < l.length) : gLeft t (l.set k (if l.getD k 0 < cap then cap else l.getD k 0)) ≤ gLeft t l := by
  obtain ⟨a, c, b, h1, h2, h3, h4⟩ := set_split h (if l.getD k 0 < cap then cap else l.getD k 0)
  rw [h2, h4, show gLeft t l = gLeft t (a ++ c :: b) by rw [← h1]]
  refine gLeft_cap ?_
  split <;> omega
theorem grows_may {t cap : Int} {l : List Int} {k : Nat} (h : k < l.length) (hm : mayOk t l) (h0 : 0 ≤ cap) (h1 : cap ≤ 4611686018427387904) : mayOk t (l.set k (if l.getD k 0 < cap then cap else l.getD k 0)) := by
  refine ⟨hm.1, fun x hx => ?_, by simp; exact hm.2.2⟩
  rcases List.mem_or_eq_of_mem_set hx with h2 | h2
  · exact hm.2.1 x h2
  · rw [h2]
    have := hm.2.1 _ (getD_mem h)
    split <;> omega
theorem parts_may {t : Int} {l : List Int} {k : Nat} (hm : mayOk t l) : mayOk t (l.take k) :=
  ⟨hm.1, fun x hx => hm.2.1 x (List.mem_of_mem_take hx), by have := hm.2.2; simp; omega⟩
theorem gLeft_bnd' {t : Int} {l : List Int} (h0 : 0 ≤ t) (h : ∀ x ∈ l, 0 ≤ x) : 0 ≤ gLeft t l ∧ gLeft t l ≤ t := gLeft_bnd h0 h
theorem parts_may2 {t : Int} {l : List Int} {k : Nat} (hm : mayOk t l) : mayOk (gLeft t (l.take k)) (l.drop k) := by
  have hb := gLeft_bnd' (t := t) (l := l.take k) hm.1.1 (fun x hx => (hm.2.1 x (List.mem_of_mem_take hx)).1)
  have := hm.1.2
  exact ⟨⟨hb.1, by omega⟩, fun x hx => hm.2.1 x (List.mem_of_mem_drop hx), by have := hm.2.2; simp; omega⟩
theorem parts_part (t : Int) (l : List Int) (k : Nat) : gPart t (l.take k) ++ gPart (gLeft t (l.take k)) (l.drop k) = gPart t l := by
  rw [← gPart_app, List.take_append_drop]
theorem parts_left (t : Int) (l : List Int) (k : Nat) : gLeft (gLeft t (l.take k)) (l.drop k) = gLeft t l := by
  rw [← gLeft_app, List.take_append_drop]
theorem modK {a : Int} {n : Nat} (h : 0 < n) (hn : n ≤ 1000000) : ∃ K : Nat, IntKind.wrap .i64 (IntKind.wrap .u64 ((IntKind.wrap .u64 a).tmod (n : Int))) = (K : Int) ∧ K < n := by
  have h0 : 0 ≤ IntKind.wrap .u64 a := by rw [wrapU_]; omega
  refine ⟨((IntKind.wrap .u64 a).tmod (n : Int)).toNat, ?_, ?_⟩
  · have h1 := Int.tmod_nonneg (n : Int) h0
    have h2 := Int.tmod_lt_of_pos (IntKind.wrap .u64 a) (show (0 : Int) < n by omega)
    rw [wrapU (by omega) (by omega), wrapI (by omega) (by omega)]; omega
  · have h1 := Int.tmod_nonneg (n : Int) h0
    have h2 := Int.tmod_lt_of_pos (IntKind.wrap .u64 a) (show (0 : Int) < n by omega)
    omega
theorem modK' {a : Int} {n : Nat} (h : 0 < n) (hn : n ≤ 1000000) : ∃ K : Nat, IntKind.wrap .i64 ((IntKind.wrap .u64 a).tmod (n : Int)) = (K : Int) ∧ K < n := by
  obtain ⟨K, h1, h2⟩ := modK (a := a) h hn
  refine ⟨K, ?_, h2⟩
  have h0 : 0 ≤ IntKind.wrap .u64 a := by rw [wrapU_]; omega
  have h1' := Int.tmod_nonneg (n : Int) h0
  have h2' := Int.tmod_lt_of_pos (IntKind.wrap .u64 a) (show (0 : Int) < n by omega)
  rw [wrapU (n := (IntKind.wrap .u64 a).tmod (n : Int)) (by omega) (by omega)] at h1
  exact h1
end Go.Proofs.Ytfpicdhfoflcgaa
