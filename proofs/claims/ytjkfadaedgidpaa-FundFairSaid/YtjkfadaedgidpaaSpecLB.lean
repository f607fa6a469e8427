/- Ledgers: floors, totals of kinds, what the page says. In plain Lean. No condition. -/
import Derived.Test.YtjkfadaedgidpaaSpecL
namespace Go.Proofs.Ytjkfadaedgidpaa
open Go.RowKit
set_option linter.unusedVariables false
set_option linter.unusedSimpArgs false
theorem flo_neg (a : AcV) : -4611686018427387904 ≤ flo a ∧ flo a ≤ 0 := by
  simp only [flo]
  cases acOk a && (a.kind == 3 || a.kind == 4) <;> simp
theorem right_iff {n : Int} : rightN n = true ↔ (-4611686018427387904 ≤ n ∧ n ≤ 4611686018427387904) := by
  simp [rightN]
theorem good_rt {l : LedV} (h : Good l) (a : AcV) : rightN (sumA a l.bal) = true := by
  by_cases h0 : sumA a l.bal = 0
  · rw [h0]; rfl
  · obtain ⟨z, hz, e⟩ := sumA_mem h0
    rw [← e, asc_sum h.asc z hz]
    exact ok_rt h.ok z hz
theorem good_fl {l : LedV} (h : Good l) (a : AcV) : flo a ≤ sumA a l.bal := by
  by_cases h0 : sumA a l.bal = 0
  · rw [h0]; exact (flo_neg a).2
  · obtain ⟨z, hz, e⟩ := sumA_mem h0
    have := h.fl z hz
    rw [← e, asc_sum h.asc z hz]; exact this
/- Floors by sums. -/
theorem low_sum {l : List LegV} (h : joinR l = 0) : low (joinV l) = false ↔ ∀ a, flo a ≤ sumA a l := by
  rw [low_iff]
  constructor
  · intro hh a
    by_cases h0 : sumA a l = 0
    · rw [h0]; exact (flo_neg a).2
    · have := hh ⟨a, sumA a l⟩ ((jM h _).2 ⟨rfl, h0⟩)
      exact this
  · intro hh y hy
    rw [((jM h y).1 hy).1]; exact hh _
theorem join_r {l : List LegV} (h : l.all legOk = true) (hr : ∀ a, rightN (sumA a l) = true) : joinR l = 0 := by
  rcases jR h with ⟨e, _⟩ | ⟨_, y, hy, hb⟩
  · exact e
  · rw [hr] at hb; cases hb
def bankOf (a : AcV) : AcV := ⟨1, 0, a.cur⟩
theorem bank_ok {a : AcV} (h : acOk a = true) : acOk (bankOf a) = true := by
  simp only [acOk, acBad, bankOf] at h ⊢
  by_cases h1 : a.cur < 0
  · simp [h1] at h
  · by_cases h2 : a.cur ≥ 3
    · simp [h2] at h
    · simp [h1, h2, acOwn]
theorem floors_law {s : LedV} {a : AcV} {n : Int} (hs : Good s) (hl : s.last < 549755813888) (ha : acOk a = true) (hk : a.kind ≠ 1) (hn : 1 ≤ n ∧ n ≤ 1125899906842624)
    (h1 : -1152921504606846976 ≤ sumA a s.bal ∧ sumA a s.bal ≤ 1152921504606846976) (h2 : -1152921504606846976 ≤ sumA (bankOf a) s.bal ∧ sumA (bankOf a) s.bal ≤ 1152921504606846976) :
    ((a.kind = 3 ∨ a.kind = 4) ∧ n > sumA a s.bal → postE s (s.last + 1) (moveL a (bankOf a) n) = 13) ∧
    (¬ ((a.kind = 3 ∨ a.kind = 4) ∧ n > sumA a s.bal) → postE s (s.last + 1) (moveL a (bankOf a) n) = 0 ∧ sumA a (postV s (s.last + 1) (moveL a (bankOf a) n)).bal = sumA a s.bal - n) := by
  have hr : rightN n = true := right_iff.2 (by omega)
  have hm : moveL a (bankOf a) n = [⟨a, 0 - n⟩, ⟨bankOf a, n⟩] := by simp only [moveL, hr, cond_true]
  have hb := bank_ok ha
  have hc : chkE (moveL a (bankOf a) n) = 0 := ((pays_law a (bankOf a) n).2 (by rw [ha, hb]; rfl)).1 (.inr rfl)
  have hne : acSame a (bankOf a) = false := by
    cases h : acSame a (bankOf a) with
    | false => rfl
    | true => rw [acSame_iff.1 h] at hk; exact absurd rfl hk
  have hne' : acSame (bankOf a) a = false := by
    cases h : acSame (bankOf a) a with
    | false => rfl
    | true => rw [← acSame_iff.1 h] at hk; exact absurd rfl hk
  have hsum : ∀ x, sumA x (moveL a (bankOf a) n ++ s.bal) = (bif acSame a x then 0 - n else 0) + (bif acSame (bankOf a) x then n else 0) + sumA x s.bal := by
    intro x; rw [hm]; simp only [List.cons_append, List.nil_append, sumA]; omega
  have hA : sumA a (moveL a (bankOf a) n ++ s.bal) = sumA a s.bal - n := by rw [hsum, acSame_refl, hne']; simp only [cond_true, cond_false]; omega
  have hB : sumA (bankOf a) (moveL a (bankOf a) n ++ s.bal) = sumA (bankOf a) s.bal + n := by rw [hsum, acSame_refl, hne]; simp only [cond_true, cond_false]; omega
  have hO : ∀ x, acSame a x = false → acSame (bankOf a) x = false → sumA x (moveL a (bankOf a) n ++ s.bal) = sumA x s.bal := by
    intro x e1 e2; rw [hsum, e1, e2]; simp only [cond_false]; omega
  have hall : (moveL a (bankOf a) n ++ s.bal).all legOk = true := by
    rw [List.all_append, hs.ok, ((chkE_iff _).1 hc).2.2.1]; rfl
  have hj : joinR (moveL a (bankOf a) n ++ s.bal) = 0 := by
    refine join_r hall fun x => ?_
    cases e1 : acSame a x with
    | true => rw [← acSame_iff.1 e1, hA]; exact right_iff.2 (by omega)
    | false =>
      cases e2 : acSame (bankOf a) x with
      | true => rw [← acSame_iff.1 e2, hB]; exact right_iff.2 (by omega)
      | false => rw [hO x e1 e2]; exact good_rt hs x
  have hgl := hs.last
  have hfa : flo a = (if a.kind = 3 ∨ a.kind = 4 then 0 else -4611686018427387904) := by
    simp only [flo, ha, Bool.true_and]
    by_cases k3 : a.kind = 3
    · simp [k3]
    · by_cases k4 : a.kind = 4
      · simp [k4]
      · have e3 : (a.kind == 3) = false := by simpa using k3
        have e4 : (a.kind == 4) = false := by simpa using k4
        rw [e3, e4, if_neg (by simp [k3, k4])]; rfl
  have hfb : flo (bankOf a) = -4611686018427387904 := by simp [flo, bankOf]
  constructor
  · rintro ⟨k, hlow⟩
    have hlo : low (joinV (moveL a (bankOf a) n ++ s.bal)) = true := by
      cases hc2 : low (joinV (moveL a (bankOf a) n ++ s.bal)) with
      | true => rfl
      | false =>
        have := (low_sum hj).1 hc2 a
        rw [hfa, if_pos k, hA] at this
        omega
    simp only [postE, (ledOk_iff s).2 hs, idBad, show decide (s.last + 1 < 1) = false from decide_eq_false (by omega), show decide (s.last + 1 > 1099511627776) = false from decide_eq_false (by omega),
      show decide (s.last + 1 ≤ s.last) = false from decide_eq_false (by omega), hc, hj, hlo]
    rfl
  · intro hno
    have hlo : low (joinV (moveL a (bankOf a) n ++ s.bal)) = false := by
      refine (low_sum hj).2 fun x => ?_
      cases e1 : acSame a x with
      | true =>
        rw [← acSame_iff.1 e1, hA, hfa]
        by_cases k : a.kind = 3 ∨ a.kind = 4
        · rw [if_pos k]; have : ¬ n > sumA a s.bal := fun h => hno ⟨k, h⟩; omega
        · rw [if_neg k]; omega
      | false =>
        cases e2 : acSame (bankOf a) x with
        | true => rw [← acSame_iff.1 e2, hB, hfb]; omega
        | false => rw [hO x e1 e2]; exact good_fl hs x
    have e : postE s (s.last + 1) (moveL a (bankOf a) n) = 0 := post_ok.2 ⟨hs, by omega, by omega, by omega, hc, hj, hlo⟩
    refine ⟨e, ?_⟩
    rw [post_val e]; simp only
    rw [join_sum hj, hA]
/- Totals of kinds. -/
def kSum (c : Int) (g : Int → Bool) (l : List LegV) : Int := (sumsL c g l).sum
theorem kSum_cons (c : Int) (g : Int → Bool) (x : LegV) (l : List LegV) : kSum c g (x :: l) = (bif x.ac.cur == c && g x.ac.kind then x.amt else 0) + kSum c g l := by
  simp only [kSum, sumsL, List.filter_cons]
  cases (x.ac.cur == c && g x.ac.kind) <;> simp [amts]
theorem kSum_same (c : Int) {g h : Int → Bool} : ∀ {l : List LegV}, (∀ y ∈ l, g y.ac.kind = h y.ac.kind) → kSum c g l = kSum c h l
  | [], _ => rfl
  | x :: l, e => by rw [kSum_cons, kSum_cons, e x (by simp), kSum_same c fun y hy => e y (List.mem_cons_of_mem _ hy)]
theorem kSum_or (c : Int) {g h k : Int → Bool} : ∀ {l : List LegV}, (∀ y ∈ l, k y.ac.kind = (g y.ac.kind || h y.ac.kind) ∧ (g y.ac.kind && h y.ac.kind) = false) → kSum c k l = kSum c g l + kSum c h l
  | [], _ => rfl
  | x :: l, e => by
    have ih := kSum_or c (l := l) fun y hy => e y (List.mem_cons_of_mem _ hy)
    have h0 := e x (by simp)
    rw [kSum_cons, kSum_cons, kSum_cons, ih, h0.1]
    have h2 := h0.2
    cases hg : g x.ac.kind <;> cases hh : h x.ac.kind <;> simp [hg, hh] at h2 ⊢ <;> cases (x.ac.cur == c) <;> simp <;> omega
theorem good_kind {l : LedV} (h : Good l) : ∀ y ∈ l.bal, 1 ≤ y.ac.kind ∧ y.ac.kind ≤ 6 := by
  intro y hy
  have := List.all_eq_true.1 h.ok y hy
  simp only [legOk, Bool.and_eq_true, acOk] at this
  have hb : acBad y.ac = false := by
    cases hc : acBad y.ac with
    | false => rfl
    | true => rw [hc] at this; cases this.1
  simp only [acBad] at hb
  by_cases k1 : y.ac.kind < 1
  · simp [k1] at hb
  · by_cases k2 : y.ac.kind > 6
    · simp [k1, k2] at hb
    · omega
theorem tot_good {l : LedV} (h : Good l) (c : Int) (ks : List Int) : totE l c ks = (bif rightN (kSum c (fun k => ks.contains k) l.bal) then 0 else 1) ∧ totV l c ks = (bif rightN (kSum c (fun k => ks.contains k) l.bal) then kSum c (fun k => ks.contains k) l.bal else 0) := by
  have ho := (ledOk_iff l).2 h
  have hr := sumsL_rt h.ok c (fun k => ks.contains k)
  simp only [totE, totV, ho, cond_true, sumE, sumV, hr, Bool.true_and, kSum, and_self]
theorem kSum_all {l : LedV} (h : Good l) {c : Int} (hc : 0 ≤ c ∧ c < 3) {g : Int → Bool} (hg : ∀ k, 1 ≤ k → k ≤ 6 → g k = true) : kSum c g l.bal = 0 := by
  have e : kSum c g l.bal = sumC c l.bal := by
    rw [kSum_same c (h := fun _ => true) fun y hy => hg _ (good_kind h y hy).1 (good_kind h y hy).2]
    simp only [kSum, sumsL_all, sumC]
  rw [e]
  have := h.cur
  have hcs : c = 0 ∨ c = 1 ∨ c = 2 := by omega
  rcases hcs with rfl | rfl | rfl
  · exact this.1
  · exact this.2.1
  · exact this.2.2
theorem sound_law {l : LedV} (h : Good l) {c : Int} (hc : 0 ≤ c ∧ c < 3) : totE l c [1, 2, 3, 4, 5, 6] = 0 ∧ totV l c [1, 2, 3, 4, 5, 6] = 0 := by
  have e := tot_good h c [1, 2, 3, 4, 5, 6]
  rw [kSum_all h hc (g := fun k => [1, 2, 3, 4, 5, 6].contains k) fun k h1 h2 => by
    have : k = 1 ∨ k = 2 ∨ k = 3 ∨ k = 4 ∨ k = 5 ∨ k = 6 := by omega
    rcases this with rfl | rfl | rfl | rfl | rfl | rfl <;> rfl] at e
  exact e
/- Kinds seen so far. -/
def kIn (k : Int) : Bool := !(decide (k < 1) || decide (k > 6))
def skipK (pre : List Int) (k : Int) : Bool := (bif !kIn k then true else pre.contains k)
def seenL (pre : List Int) : List Bool := [false, pre.contains 1, pre.contains 2, pre.contains 3, pre.contains 4, pre.contains 5, pre.contains 6]
def cntL (pre : List Int) : Nat := (seenL pre).countP id
theorem seen_get {pre : List Int} {k : Int} (h1 : 1 ≤ k) (h2 : k ≤ 6) : (seenL pre).getD k.toNat false = pre.contains k := by
  have : k = 1 ∨ k = 2 ∨ k = 3 ∨ k = 4 ∨ k = 5 ∨ k = 6 := by omega
  rcases this with rfl | rfl | rfl | rfl | rfl | rfl <;> rfl
theorem seen_skip {pre : List Int} {k : Int} (h : skipK pre k = true) : seenL (pre ++ [k]) = seenL pre := by
  have aux : ∀ j : Int, 1 ≤ j → j ≤ 6 → (pre ++ [k]).contains j = pre.contains j := by
    intro j h1 h2
    by_cases e : j = k
    · subst e
      have hk : kIn j = true := by simp [kIn]; omega
      simp only [skipK, hk, Bool.not_true, cond_false] at h
      simp only [List.contains_append, h, Bool.true_or]
    · simp [List.contains_append, e]
  simp only [seenL, aux 1 (by omega) (by omega), aux 2 (by omega) (by omega), aux 3 (by omega) (by omega), aux 4 (by omega) (by omega), aux 5 (by omega) (by omega), aux 6 (by omega) (by omega)]
theorem kin_iff {k : Int} : kIn k = true ↔ (1 ≤ k ∧ k ≤ 6) := by simp [kIn]
theorem skip_no {pre : List Int} {k : Int} (h : skipK pre k = false) : (1 ≤ k ∧ k ≤ 6) ∧ pre.contains k = false := by
  simp only [skipK] at h
  cases hk : kIn k with
  | true => rw [hk] at h; exact ⟨kin_iff.1 hk, h⟩
  | false => rw [hk] at h; cases h
theorem seen_set {pre : List Int} {k : Int} (h : skipK pre k = false) : seenL (pre ++ [k]) = (seenL pre).set k.toNat true := by
  obtain ⟨⟨h1, h2⟩, h3⟩ := skip_no h
  have : k = 1 ∨ k = 2 ∨ k = 3 ∨ k = 4 ∨ k = 5 ∨ k = 6 := by omega
  rcases this with rfl | rfl | rfl | rfl | rfl | rfl <;> simp [seenL, List.contains_append]
theorem cnt_set {pre : List Int} {k : Int} (h : skipK pre k = false) : cntL (pre ++ [k]) = cntL pre + 1 := by
  obtain ⟨⟨h1, h2⟩, h3⟩ := skip_no h
  simp only [cntL, seen_set h]
  have : k = 1 ∨ k = 2 ∨ k = 3 ∨ k = 4 ∨ k = 5 ∨ k = 6 := by omega
  rcases this with rfl | rfl | rfl | rfl | rfl | rfl <;> simp only [seenL, h3] <;>
    simp only [show Int.toNat 1 = 1 from rfl, show Int.toNat 2 = 2 from rfl, show Int.toNat 3 = 3 from rfl, show Int.toNat 4 = 4 from rfl, show Int.toNat 5 = 5 from rfl, show Int.toNat 6 = 6 from rfl, List.set_cons_zero, List.set_cons_succ, List.countP_cons, List.countP_nil] <;> simp <;> omega
theorem cnt_le (pre : List Int) : cntL pre ≤ 7 := List.countP_le_length (p := id) (l := seenL pre)
theorem cnt_skip {pre : List Int} {k : Int} (h : skipK pre k = true) : cntL (pre ++ [k]) = cntL pre := by simp only [cntL, seen_skip h]
theorem tot_skip {l : LedV} (hl : Good l) (c : Int) {pre : List Int} {k : Int} (h : skipK pre k = true) : kSum c (fun j => (pre ++ [k]).contains j) l.bal = kSum c (fun j => pre.contains j) l.bal := by
  refine kSum_same c fun y hy => ?_
  by_cases e : y.ac.kind = k
  · subst e
    have hk : kIn y.ac.kind = true := kin_iff.2 (good_kind hl y hy)
    simp only [skipK, hk, Bool.not_true, cond_false] at h
    simp only [List.contains_append, h, Bool.true_or]
  · simp [List.contains_append, e]
theorem tot_step {l : LedV} (hl : Good l) (c : Int) {pre : List Int} {k : Int} (h : skipK pre k = false) : kSum c (fun j => (pre ++ [k]).contains j) l.bal = kSum c (fun j => pre.contains j) l.bal + kSum c (fun j => [k].contains j) l.bal := by
  refine kSum_or c fun y hy => ⟨by simp [List.contains_append], ?_⟩
  by_cases e : y.ac.kind = k
  · rw [e, (skip_no h).2]; rfl
  · simp [e]
end Go.Proofs.Ytjkfadaedgidpaa
