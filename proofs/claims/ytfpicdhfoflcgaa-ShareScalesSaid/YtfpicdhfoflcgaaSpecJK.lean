/- A sum in parts: what the laws of the split read. In plain Lean. No condition. -/
import Derived.Test.YtfpicdhfoflcgaaSpecJI
namespace Go.Proofs.Ytfpicdhfoflcgaa
open Go.RowKit
set_option linter.unusedVariables false
set_option linter.unusedSimpArgs false
theorem split_bnd {t : Int} {l : List Int} (h : sRE t l = 0) (he : splitE t l = 0) (i : Nat) : 0 ≤ (splitV t l).getD i 0 ∧ (splitV t l).getD i 0 ≤ t + 1 := by
  obtain ⟨ht, hll, hl2⟩ := sRE_ok h
  rcases Nat.eq_zero_or_pos (sN l) with hS | hS
  · rw [splitE_zero h hS] at he
    have : t = 0 := by
      by_cases c : t = 0
      · exact c
      · rw [show (t == 0) = false by simpa using c] at he; simp at he
    rw [splitV_zero h hS this]; simp only [zeros_get]; omega
  · rw [splitV_prt h hS]
    have h1 := prt_bnd t.toNat l i
    have h2 := prt_nn t.toNat l i
    have h3 : t.toNat * (l.getD i 0).toNat / sN l ≤ t.toNat := by
      by_cases c : i < l.length
      · exact q_le (w_le (getD_mem c))
      · rw [List.getD_eq_getElem?_getD, List.getElem?_eq_none (Nat.le_of_not_lt c)]; simp
    omega
theorem mul_bnd {x : Int} {n : Nat} (h0 : 0 ≤ x) (h1 : x ≤ 1125899906842624) (hn : n ≤ 1000) : 0 ≤ x * (n : Int) ∧ x * (n : Int) ≤ 1125899906842624000 := by
  refine ⟨Int.mul_nonneg h0 (Int.natCast_nonneg n), ?_⟩
  have h2 : x * (n : Int) ≤ 1125899906842624 * (n : Int) := Int.mul_le_mul_of_nonneg_right h1 (Int.natCast_nonneg n)
  omega
theorem ats_get {A post : List Int} {x : Int} : (((A ++ x :: post).map fun n => [iv n]).map fun x => x.map AV.d).getD A.length [] = [.d (iv x)] := by
  rw [oneI_get (by simp)]; simp
theorem ats_set {A post : List Int} {x v : Int} : (((A ++ x :: post).map fun n => [iv n]).map fun x => x.map AV.d).set A.length [.d (iv v)] = (((A ++ v :: post).map fun n => [iv n]).map fun x => x.map AV.d) := by
  simp [List.set_append]
theorem splitV_le {t : Int} {l : List Int} (h : sRE t l = 0) : (splitV t l).length ≤ l.length := by
  rcases Nat.eq_zero_or_pos (sN l) with hS | hS
  · by_cases ht : t = 0
    · rw [splitV_zero h hS ht]; simp [zerosI]
    · rw [splitV_none h hS ht]; simp
  · rw [splitV_prt h hS, prt_len]; exact Nat.le_refl _
theorem sumN {l : List Int} (h : ∀ x ∈ l, 0 ≤ x) : l.sum = (sN l : Int) := by
  induction l with
  | nil => rfl
  | cons x l ih =>
    have h0 := h x (by simp)
    have := ih fun y hy => h y (by simp [hy])
    simp only [sN, List.map_cons, List.sum_cons] at this ⊢
    rw [this]; omega
theorem take_sum {p : List Int} {i : Nat} (h : i < p.length) : (p.take (i + 1)).sum = (p.take i).sum + p.getD i 0 := by
  rw [List.take_add_one, List.sum_append, List.getD_eq_getElem?_getD, List.getElem?_eq_getElem h]; simp
theorem take_nn {p : List Int} (h : ∀ j, 0 ≤ p.getD j 0) : ∀ i, 0 ≤ (p.take i).sum ∧ (p.take i).sum ≤ p.sum := by
  intro i
  have h' : ∀ x ∈ p, 0 ≤ x := fun x hx => by
    obtain ⟨j, hj, rfl⟩ := List.mem_iff_getElem.1 hx
    have := h j
    rwa [List.getD_eq_getElem?_getD, List.getElem?_eq_getElem hj] at this
  have nn : ∀ q : List Int, (∀ x ∈ q, 0 ≤ x) → 0 ≤ q.sum := fun q hq => by
    rw [sumN hq]; exact Int.natCast_nonneg _
  have e : p.sum = (p.take i).sum + (p.drop i).sum := by rw [← List.sum_append, List.take_append_drop]
  have h1 := nn (p.take i) fun x hx => h' x (List.mem_of_mem_take hx)
  have h2 := nn (p.drop i) fun x hx => h' x (List.mem_of_mem_drop hx)
  omega
theorem all_wide {l : List Int} (h : ∀ x ∈ l, 0 ≤ x ∧ x ≤ 4611686018427387904) : ∀ x ∈ l, -170141183460469231731687303715884105728 ≤ x ∧ x < 170141183460469231731687303715884105728 := fun x hx => by
  have := h x hx; omega
theorem wless_law (a b : Int) : (decide (a / 18446744073709551616 < b / 18446744073709551616) || (a / 18446744073709551616 == b / 18446744073709551616 && decide (a % 18446744073709551616 < b % 18446744073709551616))) = decide (a < b) := by
  rw [Bool.eq_iff_iff]
  simp only [Bool.or_eq_true, Bool.and_eq_true, decide_eq_true_eq, beq_iff_eq]
  omega
theorem wzero_law (a : Int) : (a / 18446744073709551616 == 0 && a % 18446744073709551616 == 0) = (a == 0) := by
  rw [Bool.eq_iff_iff]
  simp only [Bool.and_eq_true, beq_iff_eq]
  omega
theorem near_false {p t S w : Int} (h1 : (p - 1) * S < t * w) (h2 : t * w < (p + 1) * S) : (!(decide ((p - 1) * S < t * w) && decide (t * w < (p + 1) * S))) = false := by
  rw [decide_eq_true h1, decide_eq_true h2]; rfl
end Go.Proofs.Ytfpicdhfoflcgaa
