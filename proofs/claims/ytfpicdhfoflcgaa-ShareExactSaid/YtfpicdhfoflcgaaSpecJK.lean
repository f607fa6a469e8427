/- A sum in parts: the other reading picks the best; what the laws read. In plain Lean. No condition. -/
import Derived.Test.YtfpicdhfoflcgaaSpecJH
namespace Go.Proofs.Ytfpicdhfoflcgaa
open Go.RowKit
set_option linter.unusedVariables false
set_option linter.unusedSimpArgs false
/- Shifts and the division bit by bit. -/
def shR : Nat → Nat → Nat × Bool
  | B, 0 => (B, true)
  | B, k + 1 => bif decide (85070591730234615865843651857942052864 ≤ B) then (B, false) else shR (B * 2) k
theorem shR_ok : ∀ {k B : Nat}, B < 170141183460469231731687303715884105728 → (B * 2 ^ k < 170141183460469231731687303715884105728 → shR B k = (B * 2 ^ k, true)) ∧ (170141183460469231731687303715884105728 ≤ B * 2 ^ k → (shR B k).2 = false)
  | 0, B, h => by simp only [shR, Nat.pow_zero, Nat.mul_one]; exact ⟨fun _ => trivial, fun h2 => by omega⟩
  | k + 1, B, h => by
    have e : B * 2 ^ (k + 1) = B * 2 * 2 ^ k := by rw [Nat.pow_succ, Nat.mul_comm (2 ^ k) 2, Nat.mul_assoc]
    have hp : 0 < 2 ^ k := Nat.pow_pos (by decide)
    simp only [shR]
    cases d : decide (85070591730234615865843651857942052864 ≤ B) with
    | true =>
      have d := of_decide_eq_true d
      refine ⟨fun h2 => ?_, fun _ => rfl⟩
      have : B * 2 * 1 ≤ B * 2 * 2 ^ k := Nat.mul_le_mul_left _ hp
      omega
    | false =>
      have d := of_decide_eq_false d
      simp only [cond_false, e]
      exact shR_ok (by omega)
theorem shR_lt : ∀ {k B : Nat}, B < 170141183460469231731687303715884105728 → (shR B k).1 < 170141183460469231731687303715884105728
  | 0, B, h => h
  | k + 1, B, h => by
    simp only [shR]
    cases d : decide (85070591730234615865843651857942052864 ≤ B) with
    | true => exact h
    | false => have d := of_decide_eq_false d; exact shR_lt (by omega)
/-- one step of the division -/
theorem div_step {a b q r k : Nat} (hb : 0 < b) (h : a = q * b + r) (hr : r < b * 2 ^ (k + 1)) (hq : b * 2 ^ k ≤ r) : a = (q + 2 ^ k) * b + (r - b * 2 ^ k) ∧ r - b * 2 ^ k < b * 2 ^ k ∧ (q + 2 ^ k) ≤ a / b := by
  have e : b * 2 ^ (k + 1) = b * 2 ^ k + b * 2 ^ k := by rw [Nat.pow_succ, Nat.mul_two, Nat.mul_add]
  have e2 : (q + 2 ^ k) * b = q * b + b * 2 ^ k := by rw [Nat.add_mul, Nat.mul_comm (2 ^ k) b]
  have h1 : a = (q + 2 ^ k) * b + (r - b * 2 ^ k) := by omega
  refine ⟨h1, by omega, ?_⟩
  rw [Nat.le_div_iff_mul_le hb]; omega
theorem div_end {a b q r : Nat} (h : a = q * b + r) (hr : r < b) : q = a / b ∧ r = a % b := by
  have hb : 0 < b := by omega
  subst h
  rw [Nat.add_comm, Nat.add_mul_div_right _ _ hb, Nat.add_mul_mod_self_right, Nat.div_eq_of_lt hr, Nat.mod_eq_of_lt hr]
  omega
/- The best one of those that are left. -/
def bestV (g : List Bool) (r : List Nat) : Nat → Int
  | 0 => -1
  | n + 1 => bif !(g.getD n false) && (decide (bestV g r n < 0) || decide (r.getD (bestV g r n).toNat 0 < r.getD n 0)) then (n : Int) else bestV g r n
theorem best_inv (g : List Bool) (r : List Nat) : ∀ n : Nat, (bestV g r n < 0 ∧ bestV g r n = -1 ∧ ∀ i, i < n → g.getD i false = true) ∨
    (0 ≤ bestV g r n ∧ bestV g r n < n ∧ g.getD (bestV g r n).toNat false = false ∧ ∀ i, i < n → g.getD i false = false → (i : Int) = bestV g r n ∨ r.getD i 0 < r.getD (bestV g r n).toNat 0 ∨ (r.getD i 0 = r.getD (bestV g r n).toNat 0 ∧ bestV g r n < (i : Int)))
  | 0 => .inl ⟨by simp [bestV], rfl, fun i h => by omega⟩
  | n + 1 => by
    have ih := best_inv g r n
    simp only [bestV]
    generalize bestV g r n = b at ih ⊢
    cases hg : g.getD n false with
    | true =>
      simp only [Bool.not_true, Bool.false_and, cond_false]
      rcases ih with ⟨h1, h2, h3⟩ | ⟨h1, h2, h3, h4⟩
      · exact .inl ⟨h1, h2, fun i hi => (Nat.lt_succ_iff_lt_or_eq.1 hi).elim (fun h => h3 i h) (fun h => h ▸ hg)⟩
      · refine .inr ⟨h1, by omega, h3, fun i hi hh => ?_⟩
        rcases Nat.lt_succ_iff_lt_or_eq.1 hi with h | rfl
        · exact h4 i h hh
        · rw [hg] at hh; cases hh
    | false =>
      simp only [Bool.not_false, Bool.true_and]
      rcases ih with ⟨h1, h2, h3⟩ | ⟨h1, h2, h3, h4⟩
      · rw [decide_eq_true h1]
        simp only [Bool.true_or, cond_true]
        refine .inr ⟨by omega, by omega, by simpa using hg, fun i hi hh => ?_⟩
        rcases Nat.lt_succ_iff_lt_or_eq.1 hi with h | rfl
        · rw [h3 i h] at hh; cases hh
        · exact .inl rfl
      · rw [decide_eq_false (by omega)]
        simp only [Bool.false_or]
        cases d : decide (r.getD b.toNat 0 < r.getD n 0) with
        | true =>
          have d := of_decide_eq_true d
          simp only [cond_true]
          refine .inr ⟨by omega, by omega, by simpa using hg, fun i hi hh => ?_⟩
          rcases Nat.lt_succ_iff_lt_or_eq.1 hi with h | rfl
          · rcases h4 i h hh with h | h | h
            · have : b.toNat = i := by omega
              rw [this] at d; simp only [Int.toNat_natCast]; omega
            · simp only [Int.toNat_natCast]; omega
            · simp only [Int.toNat_natCast]; omega
          · exact .inl rfl
        | false =>
          have d := of_decide_eq_false d
          simp only [cond_false]
          refine .inr ⟨h1, by omega, h3, fun i hi hh => ?_⟩
          rcases Nat.lt_succ_iff_lt_or_eq.1 hi with h | rfl
          · exact h4 i h hh
          · by_cases h5 : r.getD i 0 < r.getD b.toNat 0
            · exact .inr (.inl h5)
            · exact .inr (.inr ⟨by omega, by omega⟩)
def restsN (T S : Nat) (l : List Int) : List Nat := l.map fun w => T * w.toNat % S
theorem restsN_get {T S : Nat} {l : List Int} {i : Nat} (h : i < l.length) : (restsN T S l).getD i 0 = T * (l.getD i 0).toNat % S := by
  simp [restsN, List.getD_eq_getElem?_getD, h]
theorem restsN_snoc (T S : Nat) (l : List Int) (x : Int) : restsN T S (l ++ [x]) = restsN T S l ++ [T * x.toNat % S] := by simp [restsN]
theorem restsN_len (T S : Nat) (l : List Int) : (restsN T S l).length = l.length := by simp [restsN]
/-- who was given one, of the first k of the order -/
def givV (T S : Nat) (l : List Int) (k : Nat) : List Bool := (List.range l.length).map fun i => decide (i ∈ atK T S l k)
theorem givV_len (T S : Nat) (l : List Int) (k : Nat) : (givV T S l k).length = l.length := by simp [givV]
theorem givV_get {T S : Nat} {l : List Int} {k i : Nat} (h : i < l.length) : (givV T S l k).getD i false = decide (i ∈ atK T S l k) := by
  simp [givV, List.getD_eq_getElem?_getD, h]
theorem givV_zero (T S : Nat) (l : List Int) : givV T S l 0 = List.replicate l.length false := by
  simp [givV, atK, List.map_const']
theorem best_at {T S : Nat} {l : List Int} {A B : List RestV} {y : RestV} (h : ordR T S l = A ++ y :: B) : bestV (givV T S l A.length) (restsN T S l) l.length = (y.at_ : Int) := by
  have hy : y ∈ ordR T S l := by rw [h]; simp
  have hym := ordR_mem.1 hy
  have hbt := ordR_bt T S l
  have hA : atK T S l A.length = A.map RestV.at_ := by rw [atK, h, List.take_left]
  have hnd := ordR_nd T S l
  rw [h, List.map_append, List.map_cons] at hnd
  have hyA : y.at_ ∉ A.map RestV.at_ := fun c => (List.nodup_append.1 hnd).2.2 _ c _ (by simp) rfl
  have hgy : (givV T S l A.length).getD y.at_ false = false := by rw [givV_get hym.1, hA]; simpa using hyA
  rcases best_inv (givV T S l A.length) (restsN T S l) l.length with ⟨h1, h2, h3⟩ | ⟨h1, h2, h3, h4⟩
  · rw [h3 _ hym.1] at hgy; cases hgy
  · have h5 := h4 _ hym.1 hgy
    rcases h5 with h5 | h5
    · exact h5.symm
    exfalso
    have hbl : (bestV (givV T S l A.length) (restsN T S l) l.length).toNat < l.length := by omega
    generalize hbe : bestV (givV T S l A.length) (restsN T S l) l.length = b at *
    rw [givV_get hbl, hA] at h3
    have hbn := of_decide_eq_false h3
    have hmem : rOf T S l b.toNat ∈ ordR T S l := ordR_mem.2 ⟨hbl, rfl⟩
    rw [restsN_get hym.1, restsN_get hbl] at h5
    have hbb : bt (rOf T S l b.toNat) y := by
      simp only [bt, rOf]; rw [hym.2]; omega
    rw [h] at hmem hbt
    rcases List.mem_append.1 hmem with hm | hm
    · exact hbn (List.mem_map.2 ⟨_, hm, rfl⟩)
    · rcases List.mem_cons.1 hm with hm | hm
      · rw [← hm] at hbb; exact bt_asym hbb hbb
      · exact bt_asym hbb ((List.pairwise_cons.1 (List.pairwise_append.1 hbt).2.1).1 _ hm)
theorem giv_set {T S : Nat} {l : List Int} {A B : List RestV} {y : RestV} (h : ordR T S l = A ++ y :: B) : (givV T S l A.length).set y.at_ true = givV T S l (A.length + 1) := by
  have hA : atK T S l A.length = A.map RestV.at_ := by rw [atK, h, List.take_left]
  have hA1 : atK T S l (A.length + 1) = A.map RestV.at_ ++ [y.at_] := by
    rw [atK, h, show A ++ y :: B = (A ++ [y]) ++ B by simp, show A.length + 1 = (A ++ [y]).length by simp, List.take_left]; simp
  apply List.ext_getElem (by simp [givV])
  intro i h1 h2
  have hi : i < l.length := by simpa [givV] using h2
  simp only [List.getElem_set, givV, List.getElem_map, List.getElem_range, hA, hA1, List.mem_append, List.mem_singleton]
  by_cases e : y.at_ = i
  · simp [e]
  · have e2 : ¬ i = y.at_ := fun c => e c.symm
    simp [e, e2]

theorem split_bnd {t : Int} {l : List Int} (h : sRE t l = 0) (he : splitE t l = 0) (i : Nat) : 0 ≤ (splitV t l).getD i 0 ∧ (splitV t l).getD i 0 ≤ t + 1 := by
  obtain ⟨ht, hll, hl2⟩ := sRE_ok h
  rcases Nat.eq_zero_or_pos (sN l) with hS | hS
  · rw [splitE_zero h hS] at he
    have : t = 0 := by
      by_cases c : t = 0
      · exact c
      · rw [show (t == 0) = false by simpa using c] at he; simp at he
    rw [splitV_zero h hS this]; simp only [zeros_get]; omega
  · rw [splitV_prt h hS]
    have h1 := prt_bnd t.toNat l i
    have h2 := prt_nn t.toNat l i
    have h3 : t.toNat * (l.getD i 0).toNat / sN l ≤ t.toNat := by
      by_cases c : i < l.length
      · exact q_le (w_le (getD_mem c))
      · rw [List.getD_eq_getElem?_getD, List.getElem?_eq_none (Nat.le_of_not_lt c)]; simp
    omega
theorem mul_bnd {x : Int} {n : Nat} (h0 : 0 ≤ x) (h1 : x ≤ 1125899906842624) (hn : n ≤ 1000) : 0 ≤ x * (n : Int) ∧ x * (n : Int) ≤ 1125899906842624000 := by
  refine ⟨Int.mul_nonneg h0 (Int.natCast_nonneg n), ?_⟩
  have h2 : x * (n : Int) ≤ 1125899906842624 * (n : Int) := Int.mul_le_mul_of_nonneg_right h1 (Int.natCast_nonneg n)
  omega
theorem ats_get {A post : List Int} {x : Int} : (((A ++ x :: post).map fun n => [iv n]).map fun x => x.map AV.d).getD A.length [] = [.d (iv x)] := by
  rw [oneI_get (by simp)]; simp
theorem ats_set {A post : List Int} {x v : Int} : (((A ++ x :: post).map fun n => [iv n]).map fun x => x.map AV.d).set A.length [.d (iv v)] = (((A ++ v :: post).map fun n => [iv n]).map fun x => x.map AV.d) := by
  simp [List.set_append]
theorem splitV_le {t : Int} {l : List Int} (h : sRE t l = 0) : (splitV t l).length ≤ l.length := by
  rcases Nat.eq_zero_or_pos (sN l) with hS | hS
  · by_cases ht : t = 0
    · rw [splitV_zero h hS ht]; simp [zerosI]
    · rw [splitV_none h hS ht]; simp
  · rw [splitV_prt h hS, prt_len]; exact Nat.le_refl _
theorem sumN {l : List Int} (h : ∀ x ∈ l, 0 ≤ x) : l.sum = (sN l : Int) := by
  induction l with
  | nil => rfl
  | cons x l ih =>
    have h0 := h x (by simp)
    have := ih fun y hy => h y (by simp [hy])
    simp only [sN, List.map_cons, List.sum_cons] at this ⊢
    rw [this]; omega
theorem take_sum {p : List Int} {i : Nat} (h : i < p.length) : (p.take (i + 1)).sum = (p.take i).sum + p.getD i 0 := by
  rw [List.take_add_one, List.sum_append, List.getD_eq_getElem?_getD, List.getElem?_eq_getElem h]; simp
theorem take_nn {p : List Int} (h : ∀ j, 0 ≤ p.getD j 0) : ∀ i, 0 ≤ (p.take i).sum ∧ (p.take i).sum ≤ p.sum := by
  intro i
  have h' : ∀ x ∈ p, 0 ≤ x := fun x hx => by
    obtain ⟨j, hj, rfl⟩ := List.mem_iff_getElem.1 hx
    have := h j
    rwa [List.getD_eq_getElem?_getD, List.getElem?_eq_getElem hj] at this
  have nn : ∀ q : List Int, (∀ x ∈ q, 0 ≤ x) → 0 ≤ q.sum := fun q hq => by
    rw [sumN hq]; exact Int.natCast_nonneg _
  have e : p.sum = (p.take i).sum + (p.drop i).sum := by rw [← List.sum_append, List.take_append_drop]
  have h1 := nn (p.take i) fun x hx => h' x (List.mem_of_mem_take hx)
  have h2 := nn (p.drop i) fun x hx => h' x (List.mem_of_mem_drop hx)
  omega
theorem all_wide {l : List Int} (h : ∀ x ∈ l, 0 ≤ x ∧ x ≤ 4611686018427387904) : ∀ x ∈ l, -170141183460469231731687303715884105728 ≤ x ∧ x < 170141183460469231731687303715884105728 := fun x hx => by
  have := h x hx; omega
theorem wless_law (a b : Int) : (decide (a / 18446744073709551616 < b / 18446744073709551616) || (a / 18446744073709551616 == b / 18446744073709551616 && decide (a % 18446744073709551616 < b % 18446744073709551616))) = decide (a < b) := by
  rw [Bool.eq_iff_iff]
  simp only [Bool.or_eq_true, Bool.and_eq_true, decide_eq_true_eq, beq_iff_eq]
  omega
theorem wzero_law (a : Int) : (a / 18446744073709551616 == 0 && a % 18446744073709551616 == 0) = (a == 0) := by
  rw [Bool.eq_iff_iff]
  simp only [Bool.and_eq_true, beq_iff_eq]
  omega
theorem near_false {p t S w : Int} (h1 : (p - 1) * S < t * w) (h2 : t * w < (p + 1) * S) : (!(decide ((p - 1) * S < t * w) && decide (t * w < (p + 1) * S))) = false := by
  rw [decide_eq_true h1, decide_eq_true h2]; rfl
end Go.Proofs.Ytfpicdhfoflcgaa
