/- A sum in parts: the other reading picks the best one again and again. In plain Lean. No condition. -/
import Derived.Test.YtfpicdhfoflcgaaSpecJH
namespace Go.Proofs.Ytfpicdhfoflcgaa
open Go.RowKit
set_option linter.unusedVariables false
set_option linter.unusedSimpArgs false
/- Shifts and the division bit by bit. -/
def shR : Nat → Nat → Nat × Bool
  | B, 0 => (B, true)
  | B, k + 1 => bif decide (85070591730234615865843651857942052864 ≤ B) then (B, false) else shR (B * 2) k
theorem shR_ok : ∀ {k B : Nat}, B < 170141183460469231731687303715884105728 → (B * 2 ^ k < 170141183460469231731687303715884105728 → shR B k = (B * 2 ^ k, true)) ∧ (170141183460469231731687303715884105728 ≤ B * 2 ^ k → (shR B k).2 = false)
  | 0, B, h => by simp only [shR, Nat.pow_zero, Nat.mul_one]; exact ⟨fun _ => trivial, fun h2 => by omega⟩
  | k + 1, B, h => by
    have e : B * 2 ^ (k + 1) = B * 2 * 2 ^ k := by rw [Nat.pow_succ, Nat.mul_comm (2 ^ k) 2, Nat.mul_assoc]
    have hp : 0 < 2 ^ k := Nat.pow_pos (by decide)
    simp only [shR]
    cases d : decide (85070591730234615865843651857942052864 ≤ B) with
    | true =>
      have d := of_decide_eq_true d
      refine ⟨fun h2 => ?_, fun _ => rfl⟩
      have : B * 2 * 1 ≤ B * 2 * 2 ^ k := Nat.mul_le_mul_left _ hp
      omega
    | false =>
      have d := of_decide_eq_false d
      simp only [cond_false, e]
      exact shR_ok (by omega)
theorem shR_lt : ∀ {k B : Nat}, B < 170141183460469231731687303715884105728 → (shR B k).1 < 170141183460469231731687303715884105728
  | 0, B, h => h
  | k + 1, B, h => by
    simp only [shR]
    cases d : decide (85070591730234615865843651857942052864 ≤ B) with
    | true => exact h
    | false => have d := of_decide_eq_false d; exact shR_lt (by omega)
/-- one step of the division -/
theorem div_step {a b q r k : Nat} (hb : 0 < b) (h : a = q * b + r) (hr : r < b * 2 ^ (k + 1)) (hq : b * 2 ^ k ≤ r) : a = (q + 2 ^ k) * b + (r - b * 2 ^ k) ∧ r - b * 2 ^ k < b * 2 ^ k ∧ (q + 2 ^ k) ≤ a / b := by
  have e : b * 2 ^ (k + 1) = b * 2 ^ k + b * 2 ^ k := by rw [Nat.pow_succ, Nat.mul_two, Nat.mul_add]
  have e2 : (q + 2 ^ k) * b = q * b + b * 2 ^ k := by rw [Nat.add_mul, Nat.mul_comm (2 ^ k) b]
  have h1 : a = (q + 2 ^ k) * b + (r - b * 2 ^ k) := by omega
  refine ⟨h1, by omega, ?_⟩
  rw [Nat.le_div_iff_mul_le hb]; omega
theorem div_end {a b q r : Nat} (h : a = q * b + r) (hr : r < b) : q = a / b ∧ r = a % b := by
  have hb : 0 < b := by omega
  subst h
  rw [Nat.add_comm, Nat.add_mul_div_right _ _ hb, Nat.add_mul_mod_self_right, Nat.div_eq_of_lt hr, Nat.mod_eq_of_lt hr]
  omega
/- The best one of those that are left. -/
def bestV (g : List Bool) (r : List Nat) : Nat → Int
  | 0 => -1
  | n + 1 => bif !(g.getD n false) && (decide (bestV g r n < 0) || decide (r.getD (bestV g r n).toNat 0 < r.getD n 0)) then (n : Int) else bestV g r n
theorem best_inv (g : List Bool) (r : List Nat) : ∀ n : Nat, (bestV g r n < 0 ∧ bestV g r n = -1 ∧ ∀ i, i < n → g.getD i false = true) ∨
    (0 ≤ bestV g r n ∧ bestV g r n < n ∧ g.getD (bestV g r n).toNat false = false ∧ ∀ i, i < n → g.getD i false = false → (i : Int) = bestV g r n ∨ r.getD i 0 < r.getD (bestV g r n).toNat 0 ∨ (r.getD i 0 = r.getD (bestV g r n).toNat 0 ∧ bestV g r n < (i : Int)))
  | 0 => .inl ⟨by simp [bestV], rfl, fun i h => by omega⟩
  | n + 1 => by
    have ih := best_inv g r n
    simp only [bestV]
    generalize bestV g r n = b at ih ⊢
    cases hg : g.getD n false with
    | true =>
      simp only [Bool.not_true, Bool.false_and, cond_false]
      rcases ih with ⟨h1, h2, h3⟩ | ⟨h1, h2, h3, h4⟩
      · exact .inl ⟨h1, h2, fun i hi => (Nat.lt_succ_iff_lt_or_eq.1 hi).elim (fun h => h3 i h) (fun h => h ▸ hg)⟩
      · refine .inr ⟨h1, by omega, h3, fun i hi hh => ?_⟩
        rcases Nat.lt_succ_iff_lt_or_eq.1 hi with h | rfl
        · exact h4 i h hh
        · rw [hg] at hh; cases hh
    | false =>
      simp only [Bool.not_false, Bool.true_and]
      rcases ih with ⟨h1, h2, h3⟩ | ⟨h1, h2, h3, h4⟩
      · rw [decide_eq_true h1]
        simp only [Bool.true_or, cond_true]
        refine .inr ⟨by omega, by omega, by simpa using hg, fun i hi hh => ?_⟩
        rcases Nat.lt_succ_iff_lt_or_eq.1 hi with h | rfl
        · rw [h3 i h] at hh; cases hh
        · exact .inl rfl
      · rw [decide_eq_false (by omega)]
        simp only [Bool.false_or]
        cases d : decide (r.getD b.toNat 0 < r.getD n 0) with
        | true =>
          have d := of_decide_eq_true d
          simp only [cond_true]
          refine .inr ⟨by omega, by omega, by simpa using hg, fun i hi hh => ?_⟩
          rcases Nat.lt_succ_iff_lt_or_eq.1 hi with h | rfl
          · rcases h4 i h hh with h | h | h
            · have : b.toNat = i := by omega
              rw [this] at d; simp only [Int.toNat_natCast]; omega
            · simp only [Int.toNat_natCast]; omega
            · simp only [Int.toNat_natCast]; omega
          · exact .inl rfl
        | false =>
          have d := of_decide_eq_false d
          simp only [cond_false]
          refine .inr ⟨h1, by omega, h3, fun i hi hh => ?_⟩
          rcases Nat.lt_succ_iff_lt_or_eq.1 hi with h | rfl
          · exact h4 i h hh
          · by_cases h5 : r.getD i 0 < r.getD b.toNat 0
            · exact .inr (.inl h5)
            · exact .inr (.inr ⟨by omega, by omega⟩)
def restsN (T S : Nat) (l : List Int) : List Nat := l.map fun w => T * w.toNat % S
theorem restsN_get {T S : Nat} {l : List Int} {i : Nat} (h : i < l.length) : (restsN T S l).getD i 0 = T * (l.getD i 0).toNat % S := by
  simp [restsN, List.getD_eq_getElem?_getD, h]
theorem restsN_snoc (T S : Nat) (l : List Int) (x : Int) : restsN T S (l ++ [x]) = restsN T S l ++ [T * x.toNat % S] := by simp [restsN]
theorem restsN_len (T S : Nat) (l : List Int) : (restsN T S l).length = l.length := by simp [restsN]
/-- who was given one, of the first k of the order -/
def givV (T S : Nat) (l : List Int) (k : Nat) : List Bool := (List.range l.length).map fun i => decide (i ∈ atK T S l k)
theorem givV_len (T S : Nat) (l : List Int) (k : Nat) : (givV T S l k).length = l.length := by simp [givV]
theorem givV_get {T S : Nat} {l : List Int} {k i : Nat} (h : i < l.length) : (givV T S l k).getD i false = decide (i ∈ atK T S l k) := by
  simp [givV, List.getD_eq_getElem?_getD, h]
theorem givV_zero (T S : Nat) (l : List Int) : givV T S l 0 = List.replicate l.length false := by
  simp [givV, atK, List.map_const']
theorem best_at {T S : Nat} {l : List Int} {A B : List RestV} {y : RestV} (h : ordR T S l = A ++ y :: B) : bestV (givV T S l A.length) (restsN T S l) l.length = (y.at_ : Int) := by
  have hy : y ∈ ordR T S l := by rw [h]; simp
  have hym := ordR_mem.1 hy
  have hbt := ordR_bt T S l
  have hA : atK T S l A.length = A.map RestV.at_ := by rw [atK, h, List.take_left]
  have hnd := ordR_nd T S l
  rw [h, List.map_append, List.map_cons] at hnd
  have hyA : y.at_ ∉ A.map RestV.at_ := fun c => (List.nodup_append.1 hnd).2.2 _ c _ (by simp) rfl
  have hgy : (givV T S l A.length).getD y.at_ false = false := by rw [givV_get hym.1, hA]; simpa using hyA
  rcases best_inv (givV T S l A.length) (restsN T S l) l.length with ⟨h1, h2, h3⟩ | ⟨h1, h2, h3, h4⟩
  · rw [h3 _ hym.1] at hgy; cases hgy
  · have h5 := h4 _ hym.1 hgy
    rcases h5 with h5 | h5
    · exact h5.symm
    exfalso
    have hbl : (bestV (givV T S l A.length) (restsN T S l) l.length).toNat < l.length := by omega
    generalize hbe : bestV (givV T S l A.length) (restsN T S l) l.length = b at *
    rw [givV_get hbl, hA] at h3
    have hbn := of_decide_eq_false h3
    have hmem : rOf T S l b.toNat ∈ ordR T S l := ordR_mem.2 ⟨hbl, rfl⟩
    rw [restsN_get hym.1, restsN_get hbl] at h5
    have hbb : bt (rOf T S l b.toNat) y := by
      simp only [bt, rOf]; rw [hym.2]; omega
    rw [h] at hmem hbt
    rcases List.mem_append.1 hmem with hm | hm
    · exact hbn (List.mem_map.2 ⟨_, hm, rfl⟩)
    · rcases List.mem_cons.1 hm with hm | hm
      · rw [← hm] at hbb; exact bt_asym hbb hbb
      · exact bt_asym hbb ((List.pairwise_cons.1 (List.pairwise_append.1 hbt).2.1).1 _ hm)
theorem giv_set {T S : Nat} {l : List Int} {A B : List RestV} {y : RestV} (h : ordR T S l = A ++ y :: B) : (givV T S l A.length).set y.at_ true = givV T S l (A.length + 1) := by
  have hA : atK T S l A.length = A.map RestV.at_ := by rw [atK, h, List.take_left]
  have hA1 : atK T S l (A.length + 1) = A.map RestV.at_ ++ [y.at_] := by
    rw [atK, h, show A ++ y :: B = (A ++ [y]) ++ B by simp, show A.length + 1 = (A ++ [y]).length by simp, List.take_left]; simp
  apply List.ext_getElem (by simp [givV])
  intro i h1 h2
  have hi : i < l.length := by simpa [givV] using h2
  simp only [List.getElem_set, givV, List.getElem_map, List.getElem_range, hA, hA1, List.mem_append, List.mem_singleton]
  by_cases e : y.at_ = i
  · simp [e]
  · have e2 : ¬ i = y.at_ := fun c => e c.symm
    simp [e, e2]
end Go.Proofs.Ytfpicdhfoflcgaa
