/- Legs: sums of one account, what is joined nothing, what may be posted. In plain Lean. No condition. -/
import Derived.Test.YtcpkhnciplfmkaaSpecX
namespace Go.Proofs.Ytcpkhnciplfmkaa
open Go.RowKit
set_option linter.unusedVariables false
set_option linter.unusedSimpArgs false
def sumA (a : AcV) : List LegV → Int
  | [] => 0
  | x :: xs => (bif acSame x.ac a then x.amt else 0) + sumA a xs
theorem sumA_app (a : AcV) : ∀ (l m : List LegV), sumA a (l ++ m) = sumA a l + sumA a m
  | [], m => by simp [sumA]
  | x :: l, m => by simp only [List.cons_append, sumA, sumA_app a l m]; omega
theorem sumA_ins (a : AcV) {lt : LegV → LegV → Bool} (x : LegV) : ∀ l : List LegV, sumA a (insX lt x l) = sumA a (x :: l)
  | [] => rfl
  | y :: l => by
    simp only [insX]
    cases lt x y with
    | true => rfl
    | false => simp only [cond_false, sumA, sumA_ins a x l]; omega
theorem sumA_isort (a : AcV) {lt : LegV → LegV → Bool} : ∀ l acc : List LegV, sumA a (isortA lt acc l) = sumA a acc + sumA a l
  | [], acc => by simp [isortA, sumA]
  | x :: l, acc => by simp only [isortA, sumA_isort a l, sumA_ins, sumA]; omega
theorem sumA_sort (a : AcV) (l : List LegV) : sumA a (legSort l) = sumA a l := by simp [legSort, isort, sumA_isort, sumA]
theorem sumA_run {x : LegV} : ∀ {A : List LegV}, (∀ y ∈ A, acSame y.ac x.ac = true) → (amts A).sum = sumA x.ac A ∧ ∀ a, acSame x.ac a = false → sumA a A = 0
  | [], _ => ⟨rfl, fun _ _ => rfl⟩
  | y :: A, h => by
    have ih := sumA_run (A := A) (fun z hz => h z (List.mem_cons_of_mem _ hz))
    have hy := h y (by simp)
    refine ⟨?_, fun a ha => ?_⟩
    · have := ih.1
      simp only [amts, List.map_cons, List.sum_cons] at this ⊢
      rw [this]; simp only [sumA, hy, cond_true]
    · simp only [sumA, acSame_iff.1 hy, ha, cond_false, ih.2 a ha]; rfl
theorem sumA_none {a : AcV} : ∀ {B : List LegV}, (∀ b ∈ B, acSame b.ac a = false) → sumA a B = 0
  | [], _ => rfl
  | b :: B, h => by simp only [sumA, h b (by simp), cond_false, sumA_none (fun z hz => h z (List.mem_cons_of_mem _ hz))]; rfl
theorem srt_past {x b : LegV} {B : List LegV} (h : Srt (fun a b : LegV => acLt a.ac b.ac) (x :: (b :: B))) (hb : acSame b.ac x.ac = false) : ∀ y ∈ b :: B, acSame y.ac x.ac = false := by
  intro y hy
  cases hc : acSame y.ac x.ac with
  | false => rfl
  | true =>
    exfalso
    have e := acSame_iff.1 hc
    have h1 := (List.pairwise_cons.1 h).1 b (by simp)
    have h2 : acLt y.ac b.ac = false := by
      rcases List.mem_cons.1 hy with rfl | hy
      · rw [e] at hb; rw [acSame_refl] at hb; cases hb
      · exact (List.pairwise_cons.1 (List.pairwise_cons.1 h).2).1 y hy
    rw [e] at h2
    rw [acLt_eq h1 h2, acSame_refl] at hb
    cases hb
theorem run_of (x : LegV) (xs : List LegV) : ∃ A B, xs = A ++ B ∧ (∀ a ∈ A, acSame a.ac x.ac = true) ∧ (B = [] ∨ ∃ b t, B = b :: t ∧ acSame b.ac x.ac = false) := by
  induction xs with
  | nil => exact ⟨[], [], rfl, by simp, .inl rfl⟩
  | cons y ys ih =>
    cases h : acSame y.ac x.ac with
    | false => exact ⟨[], y :: ys, rfl, by simp, .inr ⟨y, ys, rfl, h⟩⟩
    | true =>
      obtain ⟨A, B, rfl, hA, hB⟩ := ih
      refine ⟨y :: A, B, rfl, fun a ha => ?_, hB⟩
      rcases List.mem_cons.1 ha with rfl | ha
      · exact h
      · exact hA a ha
theorem srt_drop {lt : LegV → LegV → Bool} : ∀ {A B : List LegV}, Srt lt (A ++ B) → Srt lt B
  | [], B, h => h
  | a :: A, B, h => srt_drop (A := A) (List.pairwise_cons.1 h).2
theorem sumE_ok {l : List Int} (h1 : l.all rightN = true) (h2 : rightN l.sum = true) : sumE l = 0 ∧ sumV l = l.sum := by simp [sumE, sumV, h1, h2]
/- The sums of a run, of what stands behind it. -/
theorem run_sums {x : LegV} {A B : List LegV} (h : Srt (fun a b : LegV => acLt a.ac b.ac) (x :: (A ++ B))) (hA : ∀ a ∈ A, acSame a.ac x.ac = true) (hB : B = [] ∨ ∃ b t, B = b :: t ∧ acSame b.ac x.ac = false) :
    (amts (x :: A)).sum = sumA x.ac (x :: (A ++ B)) ∧ sumA x.ac B = 0 ∧ ∀ a, acSame x.ac a = false → sumA a B = sumA a (x :: (A ++ B)) := by
  have hr := sumA_run (x := x) (A := x :: A) (fun y hy => by
    rcases List.mem_cons.1 hy with rfl | hy
    · exact acSame_refl _
    · exact hA y hy)
  have h0 : sumA x.ac B = 0 := by
    rcases hB with rfl | ⟨b, t, rfl, hb⟩
    · rfl
    · refine sumA_none (srt_past (x := x) ?_ hb)
      refine List.pairwise_cons.2 ⟨fun y hy => (List.pairwise_cons.1 h).1 y (List.mem_append_right _ hy), srt_drop (A := A) (List.pairwise_cons.1 h).2⟩
  have e : x :: (A ++ B) = (x :: A) ++ B := rfl
  refine ⟨?_, h0, fun a ha => ?_⟩
  · rw [hr.1, e, sumA_app, h0]; omega
  · rw [e, sumA_app, hr.2 a ha]; omega
theorem join_zero : ∀ (n : Nat) (S : List LegV), S.length ≤ n → Srt (fun a b : LegV => acLt a.ac b.ac) S → (∀ y ∈ S, rightN y.amt = true) → (∀ a, sumA a S = 0) → joinE S = 0 ∧ joinO S = []
  | _, [], _, _, _, _ => ⟨by simp [joinE], by simp [joinO]⟩
  | 0, x :: S, h, _, _, _ => by simp at h
  | n + 1, x :: S, h, hs, hr, hz => by
    obtain ⟨A, B, rfl, hA, hB⟩ := run_of x S
    have hj := join_step hA hB
    have hq := run_sums hs hA hB
    have h1 : (amts (x :: A)).all rightN = true := by
      rw [List.all_eq_true]
      intro y hy
      obtain ⟨z, hz, rfl⟩ := List.mem_map.1 hy
      refine hr z ?_
      rcases List.mem_cons.1 hz with rfl | hz
      · simp
      · simp [hz]
    have h2 : (amts (x :: A)).sum = 0 := by rw [hq.1, hz]
    have he := sumE_ok h1 (by rw [h2]; decide)
    have ih := join_zero n B (by simp at h; omega) (srt_drop (A := x :: A) hs) (fun y hy => hr y (by simp [hy])) (fun a => by
      cases hc : acSame x.ac a with
      | true => rw [← acSame_iff.1 hc]; exact hq.2.1
      | false => rw [hq.2.2 a hc, hz])
    rw [hj.1, hj.2, he.1, he.2, h2, ih.1, ih.2]
    exact ⟨rfl, rfl⟩
theorem sumA_turn (a : AcV) : ∀ {l : List LegV}, l.all legOk = true → sumA a (l.map turnL) = - sumA a l
  | [], _ => rfl
  | x :: l, h => by
    simp only [List.all_cons, Bool.and_eq_true, legOk] at h
    have ih := sumA_turn a (l := l) (by simpa [legOk] using h.2)
    simp only [List.map_cons, sumA, ih]
    simp only [turnL, h.1.2, cond_true]
    cases acSame x.ac a <;> simp <;> omega
theorem rightN_neg {n : Int} (h : rightN n = true) : rightN (0 - n) = true := by
  simp [rightN] at h ⊢; omega
theorem turn_turn {l : List LegV} (h : l.all legOk = true) : (l.map turnL).map turnL = l := by
  rw [List.map_map]
  refine (List.map_congr_left fun x hx => ?_).trans (List.map_id l)
  have hx := List.all_eq_true.1 h x hx
  simp only [legOk, Bool.and_eq_true] at hx
  have h2 := rightN_neg hx.2
  cases x with
  | mk ac amt =>
    simp only at hx h2
    simp only [Function.comp, turnL, hx.2, h2, cond_true, id, LegV.mk.injEq, true_and]
    omega
theorem turn_ok {l : List LegV} (h : l.all legOk = true) : (l.map turnL).all legOk = true := by
  rw [List.all_eq_true] at h ⊢
  intro y hy
  obtain ⟨x, hx, rfl⟩ := List.mem_map.1 hy
  have := h x hx
  simp only [legOk, Bool.and_eq_true] at this ⊢
  refine ⟨this.1, ?_⟩
  simp only [turnL, this.2, cond_true]
  exact rightN_neg this.2
theorem joinR_ok {l : List LegV} (h : joinR l = 0) : l.all legOk = true := by
  simp only [joinR] at h
  cases hc : l.all legOk with
  | true => rfl
  | false => rw [hc] at h; cases h
theorem turns_law {l : List LegV} (h : joinR l = 0) : joinR (l ++ l.map turnL) = 0 ∧ joinV (l ++ l.map turnL) = [] := by
  have hk := joinR_ok h
  have ha : (l ++ l.map turnL).all legOk = true := by rw [List.all_append, hk, turn_ok hk]; rfl
  have hz := join_zero _ (legSort (l ++ l.map turnL)) (Nat.le_refl _) (Srt_isort acLt_swo _) (fun y hy => by
    have := List.all_eq_true.1 ha y (legSort_mem.1 hy)
    simp only [legOk, Bool.and_eq_true] at this
    exact this.2) (fun a => by rw [sumA_sort, sumA_app, sumA_turn a hk]; omega)
  have e : joinR (l ++ l.map turnL) = 0 := by simp only [joinR, ha, cond_true]; exact hz.1
  exact ⟨e, by simp only [joinV, e, hz.2]; rfl⟩
/- What may be posted. -/
def curL (c : Int) (l : List LegV) : List LegV := l.filter fun x => x.ac.cur == c
def chkC (c : Int) (l : List LegV) : Bool := bif sumE (amts (curL c l)) != 0 then true else sumV (amts (curL c l)) != 0
def chkE (l : List LegV) : Int := bif (l.length : Int) == 0 then 2 else bif decide ((l.length : Int) > 64) then 5 else bif !(l.all legOk) then 3 else bif chkC 0 l || chkC 1 l || chkC 2 l then 12 else 0
theorem pays_law (a b : AcV) (n : Int) : ((acOk a && acOk b) = false → chkE (moveL a b n) = 3) ∧ ((acOk a && acOk b) = true → ((rightN n = false ∨ a.cur = b.cur) → chkE (moveL a b n) = 0) ∧ (rightN n = true → a.cur ≠ b.cur → (n = 0 ∧ chkE (moveL a b n) = 0) ∨ (n ≠ 0 ∧ chkE (moveL a b n) = 12))) := by
  obtain ⟨z, hz⟩ : ∃ z, z = bif rightN n then n else 0 := ⟨_, rfl⟩
  have hzr : rightN z = true := by
    rw [hz]
    cases h : rightN n with
    | true => exact h
    | false => rfl
  have hzn := rightN_neg hzr
  have hz0 : 0 - z = -z := by omega
  have em : moveL a b n = [⟨a, 0 - z⟩, ⟨b, z⟩] := by rw [moveL, ← hz]
  have hall : (moveL a b n).all legOk = (acOk a && acOk b) := by simp [em, legOk, hzr, hz0 ▸ hzn]
  refine ⟨fun h => ?_, fun h => ?_⟩
  · simp only [chkE, hall, h]; rw [em]; rfl
  · have hE : chkE (moveL a b n) = bif chkC 0 (moveL a b n) || chkC 1 (moveL a b n) || chkC 2 (moveL a b n) then 12 else 0 := by
      simp only [chkE, hall, h]; rw [em]; rfl
    have hk : ∀ c : Int, curL c (moveL a b n) = (if a.cur == c then [⟨a, 0 - z⟩] else []) ++ (if b.cur == c then [⟨b, z⟩] else []) := by
      intro c
      rw [em]
      simp only [curL, List.filter_cons, List.filter_nil]
      cases a.cur == c <;> cases b.cur == c <;> rfl
    have hc0 : ∀ c : Int, (a.cur = b.cur ∨ z = 0) → chkC c (moveL a b n) = false := by
      intro c hc
      have hs : sumE (amts (curL c (moveL a b n))) = 0 ∧ sumV (amts (curL c (moveL a b n))) = 0 := by
        rw [hk]
        by_cases h1 : a.cur = c
        · by_cases h2 : b.cur = c
          · simp [h1, h2, amts, sumE, sumV, hzr, hzn, show -z + z = 0 by omega, hz0 ▸ hzn]; decide
          · have hz1 : z = 0 := by
              rcases hc with hc | hc
              · exact absurd (hc ▸ h1) h2
              · exact hc
            simp [h1, h2, amts, hz1]; decide
        · by_cases h2 : b.cur = c
          · have hz1 : z = 0 := by
              rcases hc with hc | hc
              · exact absurd (hc.trans h2) h1
              · exact hc
            simp [h1, h2, amts, hz1]; decide
          · simp [h1, h2, amts]; decide
      simp only [chkC, hs.1, hs.2]; rfl
    refine ⟨fun hr => ?_, fun hr hne => ?_⟩
    · have hz1 : a.cur = b.cur ∨ z = 0 := by
        rcases hr with hr | hr
        · exact .inr (by rw [hz, hr]; rfl)
        · exact .inl hr
      rw [hE, hc0 0 hz1, hc0 1 hz1, hc0 2 hz1]; rfl
    · have hzz : z = n := by rw [hz, hr]; rfl
      by_cases hn : n = 0
      · have hz1 : a.cur = b.cur ∨ z = 0 := .inr (by omega)
        exact .inl ⟨hn, by rw [hE, hc0 0 hz1, hc0 1 hz1, hc0 2 hz1]; rfl⟩
      · refine .inr ⟨hn, ?_⟩
        have ha : chkC a.cur (moveL a b n) = true := by
          have hs : sumV (amts (curL a.cur (moveL a b n))) = 0 - z := by
            rw [hk]; simp [show ¬ b.cur = a.cur from fun h => hne h.symm, amts, sumV, hz0 ▸ hzn]
          simp only [chkC, hs]
          have : (0 - z != 0) = true := by simp; omega
          rw [this]; cases (sumE (amts (curL a.cur (moveL a b n))) != 0) <;> rfl
        have hac : 0 ≤ a.cur ∧ a.cur < 3 := by
          have h1 : acOk a = true := by revert h; cases acOk a <;> simp
          simp only [acOk] at h1
          cases hb : acBad a with
          | true => rw [hb] at h1; cases h1
          | false =>
            simp only [acBad] at hb
            by_cases k1 : a.cur < 0
            · simp [k1] at hb
            · by_cases k2 : a.cur ≥ 3
              · simp [k1, k2] at hb
              · omega
        have hcs : a.cur = 0 ∨ a.cur = 1 ∨ a.cur = 2 := by omega
        rw [hE]
        rcases hcs with e | e | e
        · rw [← e, ha]; rfl
        · rw [← e, ha]; cases chkC 0 (moveL a b n) <;> rfl
        · rw [← e, ha]; cases chkC 0 (moveL a b n) <;> cases chkC 1 (moveL a b n) <;> rfl
end Go.Proofs.Ytcpkhnciplfmkaa
