/- The stable sort, in plain Lean: what the library's insertion sort, merge, rotation do to a list. No condition. -/
import Derived.Test.YtcpkhnciplfmkaaAbsA
namespace Go.Proofs.Ytcpkhnciplfmkaa
set_option linter.unusedVariables false
set_option linter.unusedSimpArgs false
section sort
variable {α : Type} (lt : α → α → Bool)
structure Swo : Prop where
  asym : ∀ a b, lt a b = true → lt b a = false
  tr : ∀ a b c, lt b a = false → lt c b = false → lt c a = false
def Srt (l : List α) : Prop := l.Pairwise (fun a b => lt b a = false)
def insX (x : α) : List α → List α
  | [] => [x]
  | y :: ys => bif lt x y then x :: y :: ys else y :: insX x ys
def isortA : List α → List α → List α
  | acc, [] => acc
  | acc, x :: xs => isortA (insX lt x acc) xs
def isort (l : List α) : List α := isortA lt [] l
def mergeS : List α → List α → List α
  | [], R => R
  | x :: L, [] => x :: L
  | x :: L, y :: R => bif lt y x then y :: mergeS (x :: L) R else x :: mergeS L (y :: R)
termination_by L R => L.length + R.length
end sort
section laws
variable {α : Type} {lt : α → α → Bool}
theorem mergeS_nilR (L : List α) : mergeS lt L [] = L := by cases L <;> simp [mergeS]
theorem mergeS_nilL (R : List α) : mergeS lt [] R = R := by simp [mergeS]
theorem merge_split : ∀ (L1 R1 L2 R2 : List α), (∀ r ∈ R2, ∀ l ∈ L1, lt r l = false) → (∀ r ∈ R1, ∀ l ∈ L2, lt r l = true) → mergeS lt (L1 ++ L2) (R1 ++ R2) = mergeS lt L1 R1 ++ mergeS lt L2 R2
  | [], [], L2, R2, _, _ => by simp [mergeS]
  | [], y :: R1, [], R2, _, _ => by simp [mergeS]
  | [], y :: R1, z :: L2, R2, h, k => by
    have e := merge_split [] R1 (z :: L2) R2 h (fun r hr => k r (List.mem_cons_of_mem _ hr))
    simp only [List.nil_append, List.cons_append, mergeS, k y (by simp) z (by simp), cond_true] at e ⊢
    rw [e]
  | x :: L1, [], L2, [], _, _ => by simp [mergeS, mergeS_nilR]
  | x :: L1, [], L2, z :: R2, h, k => by
    have e := merge_split L1 [] L2 (z :: R2) (fun r hr l hl => h r hr l (List.mem_cons_of_mem _ hl)) k
    simp only [List.nil_append, List.cons_append, mergeS, h z (by simp) x (by simp), cond_false, mergeS_nilR] at e ⊢
    rw [e]
  | x :: L1, y :: R1, L2, R2, h, k => by
    simp only [List.cons_append, mergeS]
    cases hb : lt y x with
    | true =>
      have e := merge_split (x :: L1) R1 L2 R2 h (fun r hr => k r (List.mem_cons_of_mem _ hr))
      simp only [cond_true, List.cons_append] at e ⊢
      rw [e]
    | false =>
      have e := merge_split L1 (y :: R1) L2 R2 (fun r hr l hl => h r hr l (List.mem_cons_of_mem _ hl)) k
      simp only [cond_false, List.cons_append] at e ⊢
      rw [e]
termination_by L1 R1 => L1.length + R1.length

variable (hs : Swo lt)
theorem insX_mem {x z : α} : ∀ {l : List α}, z ∈ insX lt x l ↔ z = x ∨ z ∈ l
  | [] => by simp [insX]
  | y :: l => by
    simp only [insX]
    cases lt x y with
    | true => simp
    | false =>
      simp only [cond_false, List.mem_cons, insX_mem (l := l)]
      constructor <;> (intro h; rcases h with h | h | h <;> simp [h])
theorem insX_len {x : α} : ∀ {l : List α}, (insX lt x l).length = l.length + 1
  | [] => rfl
  | y :: l => by
    simp only [insX]
    cases lt x y with
    | true => simp
    | false => simp [insX_len (l := l)]
theorem isortA_len : ∀ {l acc : List α}, (isortA lt acc l).length = acc.length + l.length
  | [], acc => by simp [isortA]
  | x :: l, acc => by simp only [isortA, isortA_len (l := l), insX_len, List.length_cons]; omega
theorem isort_len (l : List α) : (isort lt l).length = l.length := by simp [isort, isortA_len]
theorem isortA_app : ∀ (l m acc : List α), isortA lt acc (l ++ m) = isortA lt (isortA lt acc l) m
  | [], m, acc => rfl
  | x :: l, m, acc => by simp only [List.cons_append, isortA]; exact isortA_app l m _
theorem isort_snoc (l : List α) (x : α) : isort lt (l ++ [x]) = insX lt x (isort lt l) := by simp [isort, isortA_app, isortA]
include hs in
theorem Srt_insX {x : α} : ∀ {l : List α}, Srt lt l → Srt lt (insX lt x l)
  | [], _ => by simp [insX, Srt]
  | y :: l, h => by
    simp only [Srt, List.pairwise_cons] at h
    simp only [insX]
    cases hb : lt x y with
    | true =>
      simp only [cond_true, Srt, List.pairwise_cons]
      refine ⟨fun z hz => ?_, h⟩
      have e : lt y x = false := hs.asym _ _ hb
      rcases List.mem_cons.1 hz with rfl | hz
      · exact e
      · exact hs.tr _ _ _ e (h.1 z hz)
    | false =>
      simp only [cond_false, Srt, List.pairwise_cons]
      refine ⟨fun z hz => ?_, Srt_insX h.2⟩
      rcases insX_mem.1 hz with rfl | hz
      · exact hb
      · exact h.1 z hz
include hs in
theorem Srt_isortA : ∀ {l acc : List α}, Srt lt acc → Srt lt (isortA lt acc l)
  | [], acc, h => h
  | x :: l, acc, h => Srt_isortA (l := l) (Srt_insX hs h)
include hs in
theorem Srt_isort (l : List α) : Srt lt (isort lt l) := Srt_isortA hs List.Pairwise.nil
theorem insX_end {x : α} {B : List α} (hB : ∀ b ∈ B, lt x b = true) : insX lt x B = x :: B := by
  cases B with
  | nil => rfl
  | cons y B => simp [insX, hB y (by simp)]
theorem insX_mid {x : α} : ∀ {A B : List α}, (∀ a ∈ A, lt x a = false) → (∀ b ∈ B, lt x b = true) → insX lt x (A ++ B) = A ++ x :: B
  | [], B, _, hB => insX_end hB
  | y :: A, B, hA, hB => by
    simp only [List.cons_append, insX, hA y (by simp), cond_false]
    rw [insX_mid (fun a ha => hA a (List.mem_cons_of_mem _ ha)) hB]
include hs in
theorem ins_done {x y : α} {A B : List α} (h : Srt lt (A ++ y :: B)) (hB : ∀ b ∈ B, lt x b = true) (hxy : lt x y = false) : (A ++ [y]) ++ x :: B = insX lt x ((A ++ [y]) ++ B) := by
  refine (insX_mid (fun a ha => ?_) hB).symm
  rcases List.mem_append.1 ha with ha | ha
  · have := (List.pairwise_append.1 h).2.2 a ha y (by simp)
    exact hs.tr _ _ _ this hxy
  · obtain rfl : a = y := by simpa using ha
    exact hxy
/- The order in which unequal ones are put in does not matter. -/
include hs in
theorem insX_comm {x y : α} (hxy : lt x y = true) : ∀ {l : List α}, Srt lt l → insX lt x (insX lt y l) = insX lt y (insX lt x l)
  | [], _ => by simp [insX, hxy, hs.asym _ _ hxy]
  | z :: l, h => by
    simp only [Srt, List.pairwise_cons] at h
    have hyx := hs.asym _ _ hxy
    cases h1 : lt y z with
    | true =>
      have h2 : lt x z = true := by
        cases hc : lt x z with
        | true => rfl
        | false => have := hs.tr _ _ _ (hs.asym _ _ h1) hc; rw [hxy] at this; cases this
      simp [insX, h1, h2, hxy, hyx]
    | false =>
      cases h2 : lt x z with
      | true => simp [insX, h1, h2, hyx]
      | false => simp [insX, h1, h2, insX_comm hxy h.2]
include hs in
theorem isortA_ins {x : α} : ∀ (R acc : List α), Srt lt acc → (∀ r ∈ R, lt x r = true) → isortA lt (insX lt x acc) R = insX lt x (isortA lt acc R)
  | [], acc, _, _ => rfl
  | y :: R, acc, h, k => by
    simp only [isortA]
    rw [← isortA_ins R (insX lt y acc) (Srt_insX hs h) (fun r hr => k r (List.mem_cons_of_mem _ hr)), insX_comm hs (k y (by simp)) h]
include hs in
theorem isortA_insX {x : α} : ∀ (R acc : List α), Srt lt acc → Srt lt R → isortA lt acc (insX lt x R) = insX lt x (isortA lt acc R)
  | [], acc, _, _ => rfl
  | y :: R, acc, h, k => by
    simp only [Srt, List.pairwise_cons] at k
    simp only [insX]
    cases hb : lt x y with
    | true =>
      simp only [cond_true, isortA]
      rw [← isortA_ins hs R _ (Srt_insX hs h), insX_comm hs hb h]
      intro r hr
      cases hc : lt x r with
      | true => rfl
      | false => have := hs.tr _ _ _ (k.1 r hr) hc; rw [hb] at this; cases this
    | false =>
      simp only [cond_false, isortA]
      exact isortA_insX R _ (Srt_insX hs h) k.2
include hs in
theorem isortA_isortA : ∀ (R B acc : List α), Srt lt acc → Srt lt B → isortA lt acc (isortA lt B R) = isortA lt (isortA lt acc B) R
  | [], B, acc, _, _ => rfl
  | x :: R, B, acc, h, k => by
    simp only [isortA]
    rw [isortA_isortA R (insX lt x B) acc h (Srt_insX hs k), isortA_insX hs B acc h k]
include hs in
theorem merge_isortA : ∀ (L R : List α), Srt lt L → Srt lt R → mergeS lt L R = isortA lt L R
  | L, [], _, _ => by simp [mergeS_nilR, isortA]
  | [], y :: R, _, h => by
    rw [mergeS_nilL]
    clear merge_isortA
    have aux : ∀ (R A : List α), Srt lt (A ++ R) → isortA lt A R = A ++ R := by
      intro R
      induction R with
      | nil => intro A _; simp [isortA]
      | cons x R ih =>
        intro A hA
        have e : insX lt x A = A ++ [x] := by
          have := insX_mid (lt := lt) (x := x) (A := A) (B := []) (fun a ha => (List.pairwise_append.1 hA).2.2 a ha x (by simp)) (by simp)
          simpa using this
        simp only [isortA]
        rw [e, ih (A ++ [x]) (by simpa using hA)]; simp
    exact (aux (y :: R) [] (by simpa using h)).symm
  | x :: L, y :: R, h, k => by
    have h' := h; have k' := k
    simp only [Srt, List.pairwise_cons] at h k
    simp only [mergeS]
    cases hb : lt y x with
    | true =>
      simp only [cond_true]
      rw [merge_isortA (x :: L) R h' k.2]
      simp only [isortA]
      have e : insX lt y (x :: L) = y :: x :: L := by simp [insX, hb]
      rw [e]
      clear merge_isortA
      have aux : ∀ (R A : List α), (∀ r ∈ R, lt r y = false) → isortA lt (y :: A) R = y :: isortA lt A R := by
        intro R
        induction R with
        | nil => intro A _; rfl
        | cons z R ih =>
          intro A hA
          simp only [isortA, insX, hA z (by simp), cond_false]
          exact ih _ (fun r hr => hA r (List.mem_cons_of_mem _ hr))
      exact (aux R (x :: L) (fun r hr => k.1 r hr)).symm
    | false =>
      simp only [cond_false]
      rw [merge_isortA L (y :: R) h.2 k']
      clear merge_isortA
      have aux : ∀ (R A : List α), (∀ r ∈ R, lt r x = false) → isortA lt (x :: A) R = x :: isortA lt A R := by
        intro R
        induction R with
        | nil => intro A _; rfl
        | cons z R ih =>
          intro A hA
          simp only [isortA, insX, hA z (by simp), cond_false]
          exact ih _ (fun r hr => hA r (List.mem_cons_of_mem _ hr))
      refine (aux (y :: R) L (fun r hr => ?_)).symm
      rcases List.mem_cons.1 hr with rfl | hr
      · exact hb
      · exact hs.tr _ _ _ hb (k.1 r hr)
termination_by L R => L.length + R.length
include hs in
theorem merge_isort (A B : List α) : mergeS lt (isort lt A) (isort lt B) = isort lt (A ++ B) := by
  rw [merge_isortA hs _ _ (Srt_isort hs A) (Srt_isort hs B), isort, isort, isort, isortA_isortA hs B [] _ (Srt_isortA hs List.Pairwise.nil) List.Pairwise.nil, isortA_app]
  rfl
end laws
end Go.Proofs.Ytcpkhnciplfmkaa
