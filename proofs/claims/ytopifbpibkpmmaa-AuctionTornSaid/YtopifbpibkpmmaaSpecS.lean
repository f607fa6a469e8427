/- The stable sort, in plain Lean: what the library's insertion sort, merge, rotation do to a list. No condition. -/
import Derived.Test.YtopifbpibkpmmaaAbsA
namespace Go.Proofs.Ytopifbpibkpmmaa
set_option linter.unusedVariables false
set_option linter.unusedSimpArgs false
section sort
variable {α : Type} (lt : α → α → Bool)
structure Swo : Prop where
 asym : ∀ a b, lt a b = true → lt b a = false
 tr : ∀ a b c, lt b a = false → lt c b = false → lt c a = false
def Srt (l : List α) : Prop := l.Pairwise (fun a b => lt b a = false)
def insX (x : α) : List α → List α
 | [] => [x]
 | y :: ys => bif lt x y then x :: y :: ys else y :: insX x ys
def isortA : List α → List α → List α
 | acc, [] => acc
 | acc, x :: xs => isortA (insX lt x acc) xs
def isort (l : List α) : List α := isortA lt [] l
def mergeS : List α → List α → List α
 | [], R => R
 | x :: L, [] => x :: L
 | x :: L, y :: R => bif lt y x then y :: mergeS (x :: L) R else x :: mergeS L (y :: R)
termination_by L R => L.length + R.length
end sort
section laws
variable {α : Type} {lt : α → α → Bool}
variable (hs : Swo lt)
theorem insX_mem {x z : α} : ∀ {l : List α}, z ∈ insX lt x l ↔ z = x ∨ z ∈ l
 | [] => by simp [insX]
 | y :: l => by
  simp only [insX]
  cases lt x y with
  | true => simp
  | false =>
   simp only [cond_false, List.mem_cons, insX_mem (l := l)]
   constructor <;> (intro h; rcases h with h | h | h <;> simp [h])
theorem insX_len {x : α} : ∀ {l : List α}, (insX lt x l).length = l.length + 1
 | [] => rfl
 | y :: l => by
  simp only [insX]
  cases lt x y with
  | true => simp
  | false => simp [insX_len (l := l)]
theorem isortA_len : ∀ {l acc : List α}, (isortA lt acc l).length = acc.length + l.length
 | [], acc => by simp [isortA]
 | x :: l, acc => by simp only [isortA, isortA_len (l := l), insX_len, List.length_cons]; omega
theorem isort_len (l : List α) : (isort lt l).length = l.length := by simp [isort, isortA_len]
theorem isortA_app : ∀ (l m acc : List α), isortA lt acc (l ++ m) = isortA lt (isortA lt acc l) m
 | [], m, acc => rfl
 | x :: l, m, acc => by simp only [List.cons_append, isortA]; exact isortA_app l m _
theorem isort_snoc (l : List α) (x : α) : isort lt (l ++ [x]) = insX lt x (isort lt l) := by simp [isort, isortA_app, isortA]
include hs in
theorem Srt_insX {x : α} : ∀ {l : List α}, Srt lt l → Srt lt (insX lt x l)
 | [], _ => by simp [insX, Srt]
 | y :: l, h => by
  simp only [Srt, List.pairwise_cons] at h
  simp only [insX]
  cases hb : lt x y with
  | true =>
   simp only [cond_true, Srt, List.pairwise_cons]
   refine ⟨fun z hz => ?_, h⟩
   have e : lt y x = false := hs.asym _ _ hb
   rcases List.mem_cons.1 hz with rfl | hz
   ·exact e
   ·exact hs.tr _ _ _ e (h.1 z hz)
  | false =>
   simp only [cond_false, Srt, List.pairwise_cons]
   refine ⟨fun z hz => ?_, Srt_insX h.2⟩
   rcases insX_mem.1 hz with rfl | hz
   ·exact hb
   ·exact h.1 z hz
include hs in
theorem Srt_isortA : ∀ {l acc : List α}, Srt lt acc → Srt lt (isortA lt acc l)
 | [], acc, h => h
 | x :: l, acc, h => Srt_isortA (l := l) (Srt_insX hs h)
include hs in
theorem Srt_isort (l : List α) : Srt lt (isort lt l) := Srt_isortA hs List.Pairwise.nil
theorem insX_end {x : α} {B : List α} (hB : ∀ b ∈ B, lt x b = true) : insX lt x B = x :: B := by
 cases B with
 | nil => rfl
 | cons y B => simp [insX, hB y (by simp)]
theorem insX_mid {x : α} : ∀ {A B : List α}, (∀ a ∈ A, lt x a = false) → (∀ b ∈ B, lt x b = true) → insX lt x (A ++ B) = A ++ x :: B
 | [], B, _, hB => insX_end hB
 | y :: A, B, hA, hB => by
  simp only [List.cons_append, insX, hA y (by simp), cond_false]
  rw [insX_mid (fun a ha => hA a (List.mem_cons_of_mem _ ha)) hB]
include hs in
theorem ins_done {x y : α} {A B : List α} (h : Srt lt (A ++ y :: B)) (hB : ∀ b ∈ B, lt x b = true) (hxy : lt x y = false) : (A ++ [y]) ++ x :: B = insX lt x ((A ++ [y]) ++ B) := by
 refine (insX_mid (fun a ha => ?_) hB).symm
 rcases List.mem_append.1 ha with ha | ha
 ·have := (List.pairwise_append.1 h).2.2 a ha y (by simp)
  exact hs.tr _ _ _ this hxy
 ·obtain rfl : a = y := by simpa using ha
  exact hxy
end laws
end Go.Proofs.Ytopifbpibkpmmaa
