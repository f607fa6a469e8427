/- Legs: sums of one account, what is joined nothing, what may be posted. In plain Lean. No condition. -/
import Derived.Test.YtjkfadaedgidpaaSpecX
namespace Go.Proofs.Ytjkfadaedgidpaa
open Go.RowKit
set_option linter.unusedVariables false
set_option linter.unusedSimpArgs false
def sumA (a : AcV) : List LegV → Int
 | [] => 0
 | x :: xs => (bif acSame x.ac a then x.amt else 0) + sumA a xs
theorem sumA_app (a : AcV) : ∀ (l m : List LegV), sumA a (l ++ m) = sumA a l + sumA a m
 | [], m => by simp [sumA]
 | x :: l, m => by simp only [List.cons_append, sumA, sumA_app a l m]; omega
theorem sumA_ins (a : AcV) {lt : LegV → LegV → Bool} (x : LegV) : ∀ l : List LegV, sumA a (insX lt x l) = sumA a (x :: l)
 | [] => rfl
 | y :: l => by
  simp only [insX]
  cases lt x y with
  | true => rfl
  | false => simp only [cond_false, sumA, sumA_ins a x l]; omega
theorem sumA_isort (a : AcV) {lt : LegV → LegV → Bool} : ∀ l acc : List LegV, sumA a (isortA lt acc l) = sumA a acc + sumA a l
 | [], acc => by simp [isortA, sumA]
 | x :: l, acc => by simp only [isortA, sumA_isort a l, sumA_ins, sumA]; omega
theorem sumA_sort (a : AcV) (l : List LegV) : sumA a (legSort l) = sumA a l := by simp [legSort, isort, sumA_isort, sumA]
theorem sumA_run {x : LegV} : ∀ {A : List LegV}, (∀ y ∈ A, acSame y.ac x.ac = true) → (amts A).sum = sumA x.ac A ∧ ∀ a, acSame x.ac a = false → sumA a A = 0
 | [], _ => ⟨rfl, fun _ _ => rfl⟩
 | y :: A, h => by
  have ih := sumA_run (A := A) (fun z hz => h z (List.mem_cons_of_mem _ hz))
  have hy := h y (by simp)
  refine ⟨?_, fun a ha => ?_⟩
  ·have := ih.1
   simp only [amts, List.map_cons, List.sum_cons] at this ⊢
   rw [this]; simp only [sumA, hy, cond_true]
  ·simp only [sumA, acSame_iff.1 hy, ha, cond_false, ih.2 a ha]; rfl
theorem sumA_none {a : AcV} : ∀ {B : List LegV}, (∀ b ∈ B, acSame b.ac a = false) → sumA a B = 0
 | [], _ => rfl
 | b :: B, h => by simp only [sumA, h b (by simp), cond_false, sumA_none (fun z hz => h z (List.mem_cons_of_mem _ hz))]; rfl
theorem srt_past {x b : LegV} {B : List LegV} (h : Srt (fun a b : LegV => acLt a.ac b.ac) (x :: (b :: B))) (hb : acSame b.ac x.ac = false) : ∀ y ∈ b :: B, acSame y.ac x.ac = false := by
 intro y hy
 cases hc : acSame y.ac x.ac with
 | false => rfl
 | true =>
  exfalso
  have e := acSame_iff.1 hc
  have h1 := (List.pairwise_cons.1 h).1 b (by simp)
  have h2 : acLt y.ac b.ac = false := by
   rcases List.mem_cons.1 hy with rfl | hy
   ·rw [e] at hb; rw [acSame_refl] at hb; cases hb
   ·exact (List.pairwise_cons.1 (List.pairwise_cons.1 h).2).1 y hy
  rw [e] at h2
  rw [acLt_eq h1 h2, acSame_refl] at hb
  cases hb
theorem run_of (x : LegV) (xs : List LegV) : ∃ A B, xs = A ++ B ∧ (∀ a ∈ A, acSame a.ac x.ac = true) ∧ (B = [] ∨ ∃ b t, B = b :: t ∧ acSame b.ac x.ac = false) := by
 induction xs with
 | nil => exact ⟨[], [], rfl, by simp, .inl rfl⟩
 | cons y ys ih =>
  cases h : acSame y.ac x.ac with
  | false => exact ⟨[], y :: ys, rfl, by simp, .inr ⟨y, ys, rfl, h⟩⟩
  | true =>
   obtain ⟨A, B, rfl, hA, hB⟩ := ih
   refine ⟨y :: A, B, rfl, fun a ha => ?_, hB⟩
   rcases List.mem_cons.1 ha with rfl | ha
   ·exact h
   ·exact hA a ha
theorem srt_drop {lt : LegV → LegV → Bool} : ∀ {A B : List LegV}, Srt lt (A ++ B) → Srt lt B
 | [], B, h => h
 | a :: A, B, h => srt_drop (A := A) (List.pairwise_cons.1 h).2
theorem sumE_ok {l : List Int} (h1 : l.all rightN = true) (h2 : rightN l.sum = true) : sumE l = 0 ∧ sumV l = l.sum := by simp [sumE, sumV, h1, h2]
theorem run_sums {x : LegV} {A B : List LegV} (h : Srt (fun a b : LegV => acLt a.ac b.ac) (x :: (A ++ B))) (hA : ∀ a ∈ A, acSame a.ac x.ac = true) (hB : B = [] ∨ ∃ b t, B = b :: t ∧ acSame b.ac x.ac = false) :
  (amts (x :: A)).sum = sumA x.ac (x :: (A ++ B)) ∧ sumA x.ac B = 0 ∧ ∀ a, acSame x.ac a = false → sumA a B = sumA a (x :: (A ++ B)) := by
 have hr := sumA_run (x := x) (A := x :: A) (fun y hy => by
  rcases List.mem_cons.1 hy with rfl | hy
  ·exact acSame_refl _
  ·exact hA y hy)
 have h0 : sumA x.ac B = 0 := by
  rcases hB with rfl | ⟨b, t, rfl, hb⟩
  ·rfl
  ·refine sumA_none (srt_past (x := x) ?_ hb)
   refine List.pairwise_cons.2 ⟨fun y hy => (List.pairwise_cons.1 h).1 y (List.mem_append_right _ hy), srt_drop (A := A) (List.pairwise_cons.1 h).2⟩
 have e : x :: (A ++ B) = (x :: A) ++ B := rfl
 refine ⟨?_, h0, fun a ha => ?_⟩
 ·rw [hr.1, e, sumA_app, h0]; omega
 ·rw [e, sumA_app, hr.2 a ha]; omega
theorem joinR_ok {l : List LegV} (h : joinR l = 0) : l.all legOk = true := by
 simp only [joinR] at h
 cases hc : l.all legOk with
 | true => rfl
 | false => rw [hc] at h; cases h
def curL (c : Int) (l : List LegV) : List LegV := l.filter fun x => x.ac.cur == c
def chkC (c : Int) (l : List LegV) : Bool := bif sumE (amts (curL c l)) != 0 then true else sumV (amts (curL c l)) != 0
def chkE (l : List LegV) : Int := bif (l.length : Int) == 0 then 2 else bif decide ((l.length : Int) > 64) then 5 else bif !(l.all legOk) then 3 else bif chkC 0 l || chkC 1 l || chkC 2 l then 12 else 0
end Go.Proofs.Ytjkfadaedgidpaa
