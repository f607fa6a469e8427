/- The document's way to join legs: account by account. In plain Lean. No condition. -/
import Derived.Test.YtcpkhnciplfmkaaSpecZ
namespace Go.Proofs.Ytcpkhnciplfmkaa
open Go.RowKit
set_option linter.unusedVariables false
set_option linter.unusedSimpArgs false
def oneA (k w c : Nat) : List AcV := bif acOk ⟨k, w, c⟩ then [⟨k, w, c⟩] else []
def cL (k w c : Nat) : List AcV := (List.range c).flatMap fun c => oneA k w c
def wL (k w : Nat) : List AcV := (List.range w).flatMap fun w => cL k w 3
def kL (k : Nat) : List AcV := (List.range k).flatMap fun j => wL (j + 1) 17
def allAc : List AcV := kL 6
theorem cL_succ (k w c : Nat) : cL k w (c + 1) = cL k w c ++ oneA k w c := by simp [cL, List.range_succ]
theorem wL_succ (k w : Nat) : wL k (w + 1) = wL k w ++ cL k w 3 := by simp [wL, List.range_succ]
theorem kL_succ (k : Nat) : kL (k + 1) = kL k ++ wL (k + 1) 17 := by simp [kL, List.range_succ]
theorem oneA_len (k w c : Nat) : (oneA k w c).length ≤ 1 := by simp only [oneA]; cases acOk ⟨k, w, c⟩ <;> simp
theorem cL_len (k w : Nat) : ∀ c, (cL k w c).length ≤ c
  | 0 => by simp [cL]
  | c + 1 => by rw [cL_succ, List.length_append]; have := cL_len k w c; have := oneA_len k w c; omega
theorem wL_len (k : Nat) : ∀ w, (wL k w).length ≤ 3 * w
  | 0 => by simp [wL]
  | w + 1 => by rw [wL_succ, List.length_append]; have := wL_len k w; have := cL_len k w 3; omega
theorem kL_len : ∀ k, (kL k).length ≤ 51 * k
  | 0 => by simp [kL]
  | k + 1 => by rw [kL_succ, List.length_append]; have := kL_len k; have := wL_len (k + 1) 17; omega
theorem oneA_mem {k w c : Nat} {a : AcV} (h : a ∈ oneA k w c) : a = ⟨k, w, c⟩ ∧ acOk a = true := by
  simp only [oneA] at h
  cases hc : acOk ⟨k, w, c⟩ with
  | true => rw [hc] at h; simp at h; exact ⟨h, by rw [h]; exact hc⟩
  | false => rw [hc] at h; simp at h
theorem allAc_ok {a : AcV} (h : a ∈ allAc) : acOk a = true := by
  simp only [allAc, kL, wL, cL, List.mem_flatMap] at h
  obtain ⟨_, _, _, _, _, _, h⟩ := h
  exact (oneA_mem h).2
theorem allAc_mem {a : AcV} (h : acOk a = true) : a ∈ allAc := by
  have hb : acBad a = false := by
    cases hc : acBad a with
    | false => rfl
    | true => simp only [acOk, hc] at h; cases h
  have h1 : 1 ≤ a.kind ∧ a.kind ≤ 6 ∧ 0 ≤ a.cur ∧ a.cur < 3 := by
    simp only [acBad] at hb
    by_cases k1 : a.kind < 1
    · simp [k1] at hb
    · by_cases k2 : a.kind > 6
      · simp [k1, k2] at hb
      · by_cases k3 : a.cur < 0
        · simp [k1, k2, k3] at hb
        · by_cases k4 : a.cur ≥ 3
          · simp [k1, k2, k3, k4] at hb
          · omega
  have h2 : 0 ≤ a.who ∧ a.who ≤ 16 := by
    simp only [acOk, hb, cond_false] at h
    cases ho : acOwn a.kind with
    | true =>
      rw [ho] at h
      by_cases k1 : a.who ≥ 1
      · by_cases k2 : a.who ≤ 16
        · omega
        · simp [k1, k2] at h
      · simp [k1] at h
    | false => rw [ho] at h; simp at h; omega
  obtain ⟨kd, wh, cr⟩ := a
  simp only at h1 h2
  obtain ⟨k, rfl⟩ := Int.eq_ofNat_of_zero_le (show 0 ≤ kd by omega)
  obtain ⟨w, rfl⟩ := Int.eq_ofNat_of_zero_le (show 0 ≤ wh by omega)
  obtain ⟨c, rfl⟩ := Int.eq_ofNat_of_zero_le (show 0 ≤ cr by omega)
  simp only [allAc, kL, wL, cL, List.mem_flatMap, List.mem_range]
  refine ⟨k - 1, by omega, w, by omega, c, by omega, ?_⟩
  rw [show k - 1 + 1 = k by omega, oneA]
  rw [show acOk ⟨(k : Int), (w : Int), (c : Int)⟩ = true from h]; simp
def AscA (S : List AcV) : Prop := S.Pairwise fun a b => acLt a b = true
theorem cL_in {k w c : Nat} {a : AcV} (h : a ∈ cL k w c) : a.kind = k ∧ a.who = w ∧ 0 ≤ a.cur ∧ a.cur < c := by
  simp only [cL, List.mem_flatMap, List.mem_range] at h
  obtain ⟨c', hc, h⟩ := h
  rw [(oneA_mem h).1]; simp; omega
theorem wL_in {k w : Nat} {a : AcV} (h : a ∈ wL k w) : a.kind = k ∧ 0 ≤ a.who ∧ a.who < w := by
  simp only [wL, List.mem_flatMap, List.mem_range] at h
  obtain ⟨w', hw, h⟩ := h
  have := cL_in h
  exact ⟨this.1, by omega, by omega⟩
theorem kL_in {k : Nat} {a : AcV} (h : a ∈ kL k) : a.kind ≤ k := by
  simp only [kL, List.mem_flatMap, List.mem_range] at h
  obtain ⟨j, hj, h⟩ := h
  have := wL_in h
  omega
theorem cL_asc (k w : Nat) : ∀ c, AscA (cL k w c)
  | 0 => by simp [cL, AscA]
  | c + 1 => by
    rw [cL_succ]
    refine List.pairwise_append.2 ⟨cL_asc k w c, ?_, fun a ha b hb => ?_⟩
    · simp only [oneA]; cases acOk ⟨k, w, c⟩ <;> simp
    · have h1 := cL_in ha
      rw [(oneA_mem hb).1, acLt_iff]; simp; omega
theorem wL_asc (k : Nat) : ∀ w, AscA (wL k w)
  | 0 => by simp [wL, AscA]
  | w + 1 => by
    rw [wL_succ]
    refine List.pairwise_append.2 ⟨wL_asc k w, cL_asc k w 3, fun a ha b hb => ?_⟩
    have h1 := wL_in ha
    have h2 := cL_in hb
    rw [acLt_iff]; omega
theorem kL_asc : ∀ k, AscA (kL k)
  | 0 => by simp [kL, AscA]
  | k + 1 => by
    rw [kL_succ]
    refine List.pairwise_append.2 ⟨kL_asc k, wL_asc (k + 1) 17, fun a ha b hb => ?_⟩
    have h1 := kL_in ha
    have h2 := wL_in hb
    rw [acLt_iff]; omega
/- One leg of each account that has something. -/
def rOne (l : List LegV) (a : AcV) : List LegV := bif sumA a l != 0 then [⟨a, sumA a l⟩] else []
def rOut (l : List LegV) (A : List AcV) : List LegV := A.flatMap (rOne l)
theorem rOut_snoc (l : List LegV) (A : List AcV) (a : AcV) : rOut l (A ++ [a]) = rOut l A ++ rOne l a := by simp [rOut]
theorem rOut_len (l : List LegV) (A : List AcV) : (rOut l A).length ≤ A.length := by
  induction A with
  | nil => simp [rOut]
  | cons a A ih =>
    simp only [rOut, List.flatMap_cons, List.length_append, List.length_cons] at ih ⊢
    have : (rOne l a).length ≤ 1 := by simp only [rOne]; cases (sumA a l != 0) <;> simp
    omega
theorem rOne_mem {l : List LegV} {a : AcV} {y : LegV} : y ∈ rOne l a ↔ (y.ac = a ∧ y.amt = sumA a l ∧ y.amt ≠ 0) := by
  simp only [rOne]
  cases hc : (sumA a l != 0) with
  | true =>
    have hc : sumA a l ≠ 0 := by simpa using hc
    simp only [cond_true, List.mem_singleton]
    constructor
    · rintro rfl; exact ⟨rfl, rfl, hc⟩
    · rintro ⟨h1, h2, _⟩; cases y; simp at h1 h2 ⊢; exact ⟨h1, h2⟩
  | false =>
    have hc : sumA a l = 0 := by simpa using hc
    simp only [cond_false, List.not_mem_nil, false_iff]
    rintro ⟨_, h2, h3⟩; rw [hc] at h2; exact h3 h2
theorem rOut_asc {l : List LegV} : ∀ {A : List AcV}, AscA A → Asc (rOut l A)
  | [], _ => by simp [rOut, Asc]
  | a :: A, h => by
    have h' := List.pairwise_cons.1 h
    simp only [rOut, List.flatMap_cons]
    refine List.pairwise_append.2 ⟨?_, rOut_asc h'.2, fun x hx y hy => ?_⟩
    · simp only [rOne]; cases (sumA a l != 0) <;> simp
    · obtain ⟨b, hb, hy⟩ := List.mem_flatMap.1 hy
      rw [(rOne_mem.1 hx).1, (rOne_mem.1 hy).1]
      exact h'.1 b hb
/- The document's answer is the code's. -/
theorem big_all {l : List LegV} (h : l.all legOk = true) : Big l ↔ ∃ a ∈ allAc, rightN (sumA a l) = false := by
  constructor
  · rintro ⟨y, hy, hb⟩
    have hk := List.all_eq_true.1 h y hy
    simp only [legOk, Bool.and_eq_true] at hk
    exact ⟨y.ac, allAc_mem hk.1, hb⟩
  · rintro ⟨a, _, hb⟩
    have hn : sumA a l ≠ 0 := fun e => by rw [e] at hb; cases hb
    obtain ⟨z, hz, e⟩ := sumA_mem hn
    exact ⟨z, hz, by rw [e]; exact hb⟩
theorem rOut_join {l : List LegV} (h : joinR l = 0) : rOut l allAc = joinV l := by
  refine asc_eq (rOut_asc (kL_asc 6)) (jA l h) fun y => ?_
  rw [jM h, rOut, List.mem_flatMap]
  constructor
  · rintro ⟨a, ha, hy⟩
    have := rOne_mem.1 hy
    rw [this.1]; exact ⟨this.2.1, this.2.2⟩
  · rintro ⟨h1, h2⟩
    have hn : sumA y.ac l ≠ 0 := by rw [← h1]; exact h2
    obtain ⟨z, hz, e⟩ := sumA_mem hn
    have hk := List.all_eq_true.1 (joinR_ok h) z hz
    simp only [legOk, Bool.and_eq_true] at hk
    exact ⟨y.ac, allAc_mem (by rw [← e]; exact hk.1), rOne_mem.2 ⟨rfl, h1, h2⟩⟩
theorem ref_bad {l : List LegV} {a : AcV} (h : l.all legOk = true) (ha : a ∈ allAc) (hb : rightN (sumA a l) = false) : joinR l = 1 ∧ joinV l = [] := by
  rcases jR h with ⟨_, hn⟩ | ⟨e, _⟩
  · exact absurd ((big_all h).2 ⟨a, ha, hb⟩) hn
  · exact ⟨e, by simp only [joinV, e]; rfl⟩
theorem ref_good {l : List LegV} (h : l.all legOk = true) (ha : ∀ a ∈ allAc, rightN (sumA a l) = true) : joinR l = 0 ∧ joinV l = rOut l allAc := by
  rcases jR h with ⟨e, _⟩ | ⟨_, hn⟩
  · exact ⟨e, (rOut_join e).symm⟩
  · obtain ⟨a, h1, h2⟩ := (big_all h).1 hn
    rw [ha a h1] at h2; cases h2
/- The amounts of one account. -/
def amtA (a : AcV) (l : List LegV) : List Int := amts (l.filter fun x => acSame x.ac a)
theorem amtA_sum (a : AcV) : ∀ l : List LegV, (amtA a l).sum = sumA a l
  | [] => rfl
  | x :: l => by
    have ih := amtA_sum a l
    simp only [amtA, List.filter_cons] at ih ⊢
    simp only [sumA]
    cases hc : acSame x.ac a <;> simp [amts] at ih ⊢ <;> omega
theorem chkC_ref {c : Int} {l : List LegV} (h : l.all legOk = true) : chkC c l = (bif !(rightN (amts (curL c l)).sum) then true else (bif rightN (amts (curL c l)).sum then (amts (curL c l)).sum else 0) != 0) := by
  have h1 : (amts (curL c l)).all rightN = true := amts_rt fun y hy => ok_rt h y (List.mem_filter.1 hy).1
  cases hc : rightN (amts (curL c l)).sum with
  | true => have hv := sumE_ok h1 hc; simp only [chkC, hv.1, hv.2]; rfl
  | false => have he := sumE_rt h1; rw [hc] at he; simp only [chkC, he]; rfl
theorem rt_bound {l : List Int} (h : l.all rightN = true) : ∀ x ∈ l, -9223372036854775808 ≤ x ∧ x < 9223372036854775808 := fun x hx => by
  have := List.all_eq_true.1 h x hx
  simp [rightN] at this; omega
end Go.Proofs.Ytcpkhnciplfmkaa
