/- The stable sort, in plain Lean: what the library's insertion sort, merge, rotation do to a list. No condition. -/
import Derived.Test.YtjkfadaedgidpaaGreatAbsA
import Derived.Test.YtjkfadaedgidpaaGreatAbsS
namespace Go.Proofs.YtjkfadaedgidpaaGreat
set_option linter.unusedVariables false
set_option linter.unusedSimpArgs false
section sort
variable {α : Type} (lt : α → α → Bool)
structure Swo : Prop where
 asym : ∀ a b, lt a b = true → lt b a = false
 tr : ∀ a b c, lt b a = false → lt c b = false → lt c a = false
def Srt (l : List α) : Prop := l.Pairwise (fun a b => lt b a = false)
def insX (x : α) : List α → List α
 | [] => [x]
 | y :: ys => bif lt x y then x :: y :: ys else y :: insX x ys
def isortA : List α → List α → List α
 | acc, [] => acc
 | acc, x :: xs => isortA (insX lt x acc) xs
def isort (l : List α) : List α := isortA lt [] l
def mergeS : List α → List α → List α
 | [], R => R
 | x :: L, [] => x :: L
 | x :: L, y :: R => bif lt y x then y :: mergeS (x :: L) R else x :: mergeS L (y :: R)
termination_by L R => L.length + R.length
end sort
section laws
variable {α : Type} {lt : α → α → Bool}
theorem mergeS_nilR (L : List α) : mergeS lt L [] = L := by cases L <;> simp [mergeS]
theorem mergeS_nilL (R : List α) : mergeS lt [] R = R := by simp [mergeS]
theorem merge_split : ∀ (L1 R1 L2 R2 : List α), (∀ r ∈ R2, ∀ l ∈ L1, lt r l = false) → (∀ r ∈ R1, ∀ l ∈ L2, lt r l = true) → mergeS lt (L1 ++ L2) (R1 ++ R2) = mergeS lt L1 R1 ++ mergeS lt L2 R2
 | [], [], L2, R2, _, _ => by simp [mergeS]
 | [], y :: R1, [], R2, _, _ => by simp [mergeS]
 | [], y :: R1, z :: L2, R2, h, k => by
  have e := merge_split [] R1 (z :: L2) R2 h (fun r hr => k r (List.mem_cons_of_mem _ hr))
  simp only [List.nil_append, List.cons_append, mergeS, k y (by simp) z (by simp), cond_true] at e ⊢
  rw [e]
 | x :: L1, [], L2, [], _, _ => by simp [mergeS, mergeS_nilR]
 | x :: L1, [], L2, z :: R2, h, k => by
  have e := merge_split L1 [] L2 (z :: R2) (fun r hr l hl => h r hr l (List.mem_cons_of_mem _ hl)) k
  simp only [List.nil_append, List.cons_append, mergeS, h z (by simp) x (by simp), cond_false, mergeS_nilR] at e ⊢
  rw [e]
 | x :: L1, y :: R1, L2, R2, h, k => by
  simp only [List.cons_append, mergeS]
  cases hb : lt y x with
  | true =>
   have e := merge_split (x :: L1) R1 L2 R2 h (fun r hr => k r (List.mem_cons_of_mem _ hr))
   simp only [cond_true, List.cons_append] at e ⊢
   rw [e]
  | false =>
   have e := merge_split L1 (y :: R1) L2 R2 (fun r hr l hl => h r hr l (List.mem_cons_of_mem _ hl)) k
   simp only [cond_false, List.cons_append] at e ⊢
   rw [e]
termination_by L1 R1 => L1.length + R1.length
variable (hs : Swo lt)
theorem insX_mem {x z : α} : ∀ {l : List α}, z ∈ insX lt x l ↔ z = x ∨ z ∈ l
 | [] => by simp [insX]
 | y :: l => by
  simp only [insX]
  cases lt x y with
  | true => simp
  | false =>
   simp only [cond_false, List.mem_cons, insX_mem (l := l)]
   constructor <;> (intro h; rcases h with h | h | h <;> simp [h])
theorem insX_len {x : α} : ∀ {l : List α}, (insX lt x l).length = l.length + 1
 | [] => rfl
 | y :: l => by
  simp only [insX]
  cases lt x y with
  | true => simp
  | false => simp [insX_len (l := l)]
theorem isortA_len : ∀ {l acc : List α}, (isortA lt acc l).length = acc.length + l.length
 | [], acc => by simp [isortA]
 | x :: l, acc => by simp only [isortA, isortA_len (l := l), insX_len, List.length_cons]; omega
theorem isort_len (l : List α) : (isort lt l).length = l.length := by simp [isort, isortA_len]
theorem isortA_app : ∀ (l m acc : List α), isortA lt acc (l ++ m) = isortA lt (isortA lt acc l) m
 | [], m, acc => rfl
 | x :: l, m, acc => by simp only [List.cons_append, isortA]; exact isortA_app l m _
theorem isort_snoc (l : List α) (x : α) : isort lt (l ++ [x]) = insX lt x (isort lt l) := by simp [isort, isortA_app, isortA]
include hs in
theorem Srt_insX {x : α} : ∀ {l : List α}, Srt lt l → Srt lt (insX lt x l)
 | [], _ => by simp [insX, Srt]
 | y :: l, h => by
  simp only [Srt, List.pairwise_cons] at h
  simp only [insX]
  cases hb : lt x y with
  | true =>
   simp only [cond_true, Srt, List.pairwise_cons]
   refine ⟨fun z hz => ?_, h⟩
   have e : lt y x = false := hs.asym _ _ hb
   rcases List.mem_cons.1 hz with rfl | hz
   ·exact e
   ·exact hs.tr _ _ _ e (h.1 z hz)
  | false =>
   simp only [cond_false, Srt, List.pairwise_cons]
   refine ⟨fun z hz => ?_, Srt_insX h.2⟩
   rcases insX_mem.1 hz with rfl | hz
   ·exact hb
   ·exact h.1 z hz
include hs in
theorem Srt_isortA : ∀ {l acc : List α}, Srt lt acc → Srt lt (isortA lt acc l)
 | [], acc, h => h
 | x :: l, acc, h => Srt_isortA (l := l) (Srt_insX hs h)
include hs in
theorem Srt_isort (l : List α) : Srt lt (isort lt l) := Srt_isortA hs List.Pairwise.nil
theorem insX_end {x : α} {B : List α} (hB : ∀ b ∈ B, lt x b = true) : insX lt x B = x :: B := by
 cases B with
 | nil => rfl
 | cons y B => simp [insX, hB y (by simp)]
theorem insX_mid {x : α} : ∀ {A B : List α}, (∀ a ∈ A, lt x a = false) → (∀ b ∈ B, lt x b = true) → insX lt x (A ++ B) = A ++ x :: B
 | [], B, _, hB => insX_end hB
 | y :: A, B, hA, hB => by
  simp only [List.cons_append, insX, hA y (by simp), cond_false]
  rw [insX_mid (fun a ha => hA a (List.mem_cons_of_mem _ ha)) hB]
include hs in
theorem ins_done {x y : α} {A B : List α} (h : Srt lt (A ++ y :: B)) (hB : ∀ b ∈ B, lt x b = true) (hxy : lt x y = false) : (A ++ [y]) ++ x :: B = insX lt x ((A ++ [y]) ++ B) := by
 refine (insX_mid (fun a ha => ?_) hB).symm
 rcases List.mem_append.1 ha with ha | ha
 ·have := (List.pairwise_append.1 h).2.2 a ha y (by simp)
  exact hs.tr _ _ _ this hxy
 ·obtain rfl : a = y := by simpa using ha
  exact hxy
include hs in
theorem insX_comm {x y : α} (hxy : lt x y = true) : ∀ {l : List α}, Srt lt l → insX lt x (insX lt y l) = insX lt y (insX lt x l)
 | [], _ => by simp [insX, hxy, hs.asym _ _ hxy]
 | z :: l, h => by
  simp only [Srt, List.pairwise_cons] at h
  have hyx := hs.asym _ _ hxy
  cases h1 : lt y z with
  | true =>
   have h2 : lt x z = true := by
    cases hc : lt x z with
    | true => rfl
    | false => have := hs.tr _ _ _ (hs.asym _ _ h1) hc; rw [hxy] at this; cases this
   simp [insX, h1, h2, hxy, hyx]
  | false =>
   cases h2 : lt x z with
   | true => simp [insX, h1, h2, hyx]
   | false => simp [insX, h1, h2, insX_comm hxy h.2]
include hs in
theorem isortA_ins {x : α} : ∀ (R acc : List α), Srt lt acc → (∀ r ∈ R, lt x r = true) → isortA lt (insX lt x acc) R = insX lt x (isortA lt acc R)
 | [], acc, _, _ => rfl
 | y :: R, acc, h, k => by
  simp only [isortA]
  rw [← isortA_ins R (insX lt y acc) (Srt_insX hs h) (fun r hr => k r (List.mem_cons_of_mem _ hr)), insX_comm hs (k y (by simp)) h]
include hs in
theorem isortA_insX {x : α} : ∀ (R acc : List α), Srt lt acc → Srt lt R → isortA lt acc (insX lt x R) = insX lt x (isortA lt acc R)
 | [], acc, _, _ => rfl
 | y :: R, acc, h, k => by
  simp only [Srt, List.pairwise_cons] at k
  simp only [insX]
  cases hb : lt x y with
  | true =>
   simp only [cond_true, isortA]
   rw [← isortA_ins hs R _ (Srt_insX hs h), insX_comm hs hb h]
   intro r hr
   cases hc : lt x r with
   | true => rfl
   | false => have := hs.tr _ _ _ (k.1 r hr) hc; rw [hb] at this; cases this
  | false =>
   simp only [cond_false, isortA]
   exact isortA_insX R _ (Srt_insX hs h) k.2
include hs in
theorem isortA_isortA : ∀ (R B acc : List α), Srt lt acc → Srt lt B → isortA lt acc (isortA lt B R) = isortA lt (isortA lt acc B) R
 | [], B, acc, _, _ => rfl
 | x :: R, B, acc, h, k => by
  simp only [isortA]
  rw [isortA_isortA R (insX lt x B) acc h (Srt_insX hs k), isortA_insX hs B acc h k]
include hs in
theorem merge_isortA : ∀ (L R : List α), Srt lt L → Srt lt R → mergeS lt L R = isortA lt L R
 | L, [], _, _ => by simp [mergeS_nilR, isortA]
 | [], y :: R, _, h => by
  rw [mergeS_nilL]
  clear merge_isortA
  have aux : ∀ (R A : List α), Srt lt (A ++ R) → isortA lt A R = A ++ R := by
   intro R
   induction R with
   | nil => intro A _; simp [isortA]
   | cons x R ih =>
    intro A hA
    have e : insX lt x A = A ++ [x] := by
     have := insX_mid (lt := lt) (x := x) (A := A) (B := []) (fun a ha => (List.pairwise_append.1 hA).2.2 a ha x (by simp)) (by simp)
     simpa using this
    simp only [isortA]
    rw [e, ih (A ++ [x]) (by simpa using hA)]; simp
  exact (aux (y :: R) [] (by simpa using h)).symm
 | x :: L, y :: R, h, k => by
  have h' := h; have k' := k
  simp only [Srt, List.pairwise_cons] at h k
  simp only [mergeS]
  cases hb : lt y x with
  | true =>
   simp only [cond_true]
   rw [merge_isortA (x :: L) R h' k.2]
   simp only [isortA]
   have e : insX lt y (x :: L) = y :: x :: L := by simp [insX, hb]
   rw [e]
   clear merge_isortA
   have aux : ∀ (R A : List α), (∀ r ∈ R, lt r y = false) → isortA lt (y :: A) R = y :: isortA lt A R := by
    intro R
    induction R with
    | nil => intro A _; rfl
    | cons z R ih =>
     intro A hA
     simp only [isortA, insX, hA z (by simp), cond_false]
     exact ih _ (fun r hr => hA r (List.mem_cons_of_mem _ hr))
   exact (aux R (x :: L) (fun r hr => k.1 r hr)).symm
  | false =>
   simp only [cond_false]
   rw [merge_isortA L (y :: R) h.2 k']
   clear merge_isortA
   have aux : ∀ (R A : List α), (∀ r ∈ R, lt r x = false) → isortA lt (x :: A) R = x :: isortA lt A R := by
    intro R
    induction R with
    | nil => intro A _; rfl
    | cons z R ih =>
     intro A hA
     simp only [isortA, insX, hA z (by simp), cond_false]
     exact ih _ (fun r hr => hA r (List.mem_cons_of_mem _ hr))
   refine (aux (y :: R) L (fun r hr => ?_)).symm
   rcases List.mem_cons.1 hr with rfl | hr
   ·exact hb
   ·exact hs.tr _ _ _ hb (k.1 r hr)
termination_by L R => L.length + R.length
include hs in
theorem merge_isort (A B : List α) : mergeS lt (isort lt A) (isort lt B) = isort lt (A ++ B) := by
 rw [merge_isortA hs _ _ (Srt_isort hs A) (Srt_isort hs B), isort, isort, isort, isortA_isortA hs B [] _ (Srt_isortA hs List.Pairwise.nil) List.Pairwise.nil, isortA_app]
 rfl
end laws
end Go.Proofs.YtjkfadaedgidpaaGreat
namespace Go.Proofs.YtjkfadaedgidpaaGreat
open Go.RowKit
set_option linter.unusedVariables false
set_option linter.unusedSimpArgs false
def aV (M : List (List D)) : List (List AV) := M.map (·.map .d)
def swp (M : List (List D)) (i k : Nat) : List (List D) := (M.set i (M.getD k [])).set k (M.getD i [])
def okM (Pd : List D → Prop) (M : List (List D)) : Prop := ∀ e, e ∈ M → Pd e
def ltc (c : List D → List D → Int) (x y : List D) : Bool := decide (c x y < 0)
structure SC (P : Program) (cf : FuncId) (cs : List D) (c : List D → List D → Int) (Pd : List D → Prop) (sz : Nat) : Prop where
 go : goFn P cf
 call : ∀ x y, Pd x → Pd y → ACalls P cf ([.agg x, .agg y] ++ cs) [] (.d (iv (c x y)))
 len : ∀ x, Pd x → x.length = sz
 flat : ∀ x, Pd x → flatDs x
 cell : ∀ x, Pd x → cell1s (x.map AV.d)
 swo : Swo (ltc c)
theorem gd_mid (A : List (List D)) (x : List D) (B : List (List D)) : (A ++ x :: B).getD A.length [] = x := by simp [List.getD]
theorem st_mid (A : List (List D)) (x y : List D) (B : List (List D)) : (A ++ x :: B).set A.length y = A ++ y :: B := by simp
theorem gd_mid' {n : Nat} {A : List (List D)} (x : List D) (B : List (List D)) (h : n = A.length) : (A ++ x :: B).getD n [] = x := by subst h; exact gd_mid A x B
theorem st_mid' {n : Nat} {A : List (List D)} (x y : List D) (B : List (List D)) (h : n = A.length) : (A ++ x :: B).set n y = A ++ y :: B := by subst h; exact st_mid A x y B
theorem gd_mem {M : List (List D)} {k : Nat} (h : k < M.length) : M.getD k [] ∈ M := by
 have : M.getD k [] = M[k] := by simp [List.getD, h]
 rw [this]; exact List.getElem_mem h
theorem swp_mid {i k : Nat} {A B C : List (List D)} {x y : List D} (hi : i = A.length) (hk : k = A.length + 1 + B.length) : swp (A ++ x :: (B ++ y :: C)) i k = A ++ y :: (B ++ x :: C) := by
 have e1 : (A ++ x :: (B ++ y :: C)).getD k [] = y := by
  rw [show A ++ x :: (B ++ y :: C) = (A ++ x :: B) ++ y :: C by simp]
  exact gd_mid' y C (by simp; omega)
 unfold swp
 rw [e1, gd_mid' x _ hi, st_mid' x y _ hi, show A ++ y :: (B ++ y :: C) = (A ++ y :: B) ++ y :: C by simp, st_mid' y x C (by simp; omega)]
 simp
theorem swp_symm (M : List (List D)) {i k : Nat} (h : i ≠ k) : swp M i k = swp M k i := by
 unfold swp; exact List.set_comm _ _ h
theorem swp_mid2 {i k : Nat} {A B C : List (List D)} {x y : List D} (hi : i = A.length) (hk : k = A.length + 1 + B.length) : swp (A ++ x :: (B ++ y :: C)) k i = A ++ y :: (B ++ x :: C) := by
 rw [swp_symm _ (by omega), swp_mid hi hk]
theorem swp_len (M : List (List D)) (i k : Nat) : (swp M i k).length = M.length := by simp [swp]
variable {Pd : List D → Prop} {sz : Nat}
theorem okM_set {M : List (List D)} (h : okM Pd M) {i k : Nat} (hk : k < M.length) : okM Pd (M.set i (M.getD k [])) := fun e he => by
 rcases List.mem_or_eq_of_mem_set he with he | rfl
 ·exact h e he
 ·exact h _ (gd_mem hk)
theorem okM_swp {M : List (List D)} (h : okM Pd M) {i k : Nat} (hi : i < M.length) (hk : k < M.length) : okM Pd (swp M i k) := fun e he => by
 rcases List.mem_or_eq_of_mem_set he with he | rfl
 ·exact okM_set h hk e he
 ·exact h _ (gd_mem hi)
theorem okM_app {A B : List (List D)} : okM Pd (A ++ B) ↔ okM Pd A ∧ okM Pd B := by
 simp only [okM, List.mem_append]
 exact ⟨fun h => ⟨fun e he => h e (.inl he), fun e he => h e (.inr he)⟩, fun h e he => he.elim (h.1 e) (h.2 e)⟩
theorem okM_cons {x : List D} {B : List (List D)} : okM Pd (x :: B) ↔ Pd x ∧ okM Pd B := by simp [okM]
theorem aV_len (M : List (List D)) : (aV M).length = M.length := by simp [aV]
theorem aV_get (M : List (List D)) (i : Nat) : (aV M).getD i [] = (M.getD i []).map .d := by
 simp only [aV, List.getD, List.getElem?_map]
 cases M[i]? <;> rfl
theorem aV_set (M : List (List D)) (i : Nat) (X : List D) : (aV M).set i (X.map .d) = aV (M.set i X) := by simp [aV, List.map_set]
theorem aV_ids (M : List (List D)) : ∀ e ∈ aV M, AV.idsL e = [] := fun e he => ids_data e he
theorem tkD (M : List (List D)) (h : ∀ e, e ∈ M → e.length = sz) (i : Nat) : List.take sz ((M.getD i []).map AV.d) = (M.getD i []).map AV.d := by
 apply List.take_of_length_le
 simp only [List.length_map]
 rcases Nat.lt_or_ge i M.length with hi | hi
 ·rw [h _ (gd_mem hi)]; exact Nat.le_refl _
 ·simp [List.getD, List.getElem?_eq_none hi]
theorem lenD {M : List (List D)} (h : ∀ e, e ∈ M → e.length = sz) {i : Nat} (hi : i < M.length) : (M.getD i []).length = sz := h _ (gd_mem hi)
theorem splD {X Y : List D} (h : X.length = Y.length) : splice (X.map AV.d) 0 (Y.map AV.d) = Y.map AV.d := by simp [splice, h]
theorem ge0 (n : Nat) : (0 ≤ (n : Int)) = True := by simp
theorem ltI {i n : Nat} (h : i < n) : ((i : Int) < (n : Int)) = True := by simp only [eq_iff_iff, iff_true]; omega
theorem okM.len {P : Program} {cf : FuncId} {cs : List D} {c : List D → List D → Int} (h : SC P cf cs c Pd sz) {M : List (List D)} (hM : okM Pd M) : ∀ e, e ∈ M → e.length = sz := fun e he => h.len e (hM e he)
theorem set_len {R : List (List D)} (hz : ∀ e, e ∈ R → e.length = sz) {i k : Nat} (hk : k < R.length) : ∀ e, e ∈ R.set i (R.getD k []) → e.length = sz := fun e he => by
 rcases List.mem_or_eq_of_mem_set he with he | rfl
 ·exact hz e he
 ·exact hz _ (gd_mem hk)
theorem swpF {P : Program} {cf : FuncId} {cs : List D} {c : List D → List D → Int} (h : SC P cf cs c Pd sz) {R : List (List D)} (hM : okM Pd R) {i k : Nat} (hi : i < R.length) (hk : k < R.length) :
  (R.getD i []).length = sz ∧ (R.getD k []).length = sz ∧ ((R.set i (R.getD k [])).getD k []).length = sz ∧
  List.take sz ((R.getD i []).map AV.d) = (R.getD i []).map AV.d ∧ List.take sz ((R.getD k []).map AV.d) = (R.getD k []).map AV.d ∧
  splice ((R.getD i []).map AV.d) 0 ((R.getD k []).map AV.d) = (R.getD k []).map AV.d ∧ splice (((R.set i (R.getD k [])).getD k []).map AV.d) 0 ((R.getD i []).map AV.d) = (R.getD i []).map AV.d ∧
  cell1s ((R.getD i []).map AV.d) = True ∧ cell1s ((R.getD k []).map AV.d) = True ∧ (i < R.length) = True ∧ (k < R.length) = True := by
 have hz := okM.len h hM
 have e1 := lenD hz hi
 have e2 := lenD hz hk
 have e3 : ((R.set i (R.getD k [])).getD k []).length = sz := lenD (set_len hz hk) (by simpa using hk)
 exact ⟨e1, e2, e3, tkD R hz i, tkD R hz k, splD (by rw [e1, e2]), splD (by rw [e3, e1]), eq_true (h.cell _ (hM _ (gd_mem hi))), eq_true (h.cell _ (hM _ (gd_mem hk))), eq_true hi, eq_true hk⟩
theorem midW {i j : Nat} (h : i + j ≤ 4000000) : IntKind.wrap .i64 ((IntKind.wrap .u64 (IntKind.wrap .i64 ((i : Int) + (j : Int)))).fdiv (2 ^ min (Int.toNat 1) IntKind.u64.bits)) = (((i + j) / 2 : Nat) : Int) := by
 rw [wrapI (n := (i : Int) + j) (by omega) (by omega), wrapU (by omega) (by omega), show min (Int.toNat 1) IntKind.u64.bits = 1 from rfl, Int.fdiv_eq_ediv_of_nonneg _ (by decide)]
 rw [wrapI (by omega) (by omega)]
 omega
theorem ldF {P : Program} {cf : FuncId} {cs : List D} {c : List D → List D → Int} (h : SC P cf cs c Pd sz) {R : List (List D)} (hM : okM Pd R) {i : Nat} (hi : i < R.length) :
  (R.getD i []).length = sz ∧ List.take sz ((R.getD i []).map AV.d) = (R.getD i []).map AV.d ∧ ((i : Int) < (R.length : Int)) = True ∧ (i < R.length) = True :=
 ⟨lenD (okM.len h hM) hi, tkD R (okM.len h hM) i, ltI hi, eq_true hi⟩
theorem asEc_map (s : AS) : ∀ X : List D, asEc s (X.map AV.d) X = True
 | [] => by simp [asEc]
 | x :: X => by
  simp only [List.map_cons, asEc, eq_iff_iff, iff_true]
  refine ⟨x, X, rfl, ?_, by rw [asEc_map s X]; trivial⟩
  rw [asD_self]; trivial
theorem asGs_map (s : AS) (X : List D) : asGs s (X.map AV.d) = True := by
 induction X with
 | nil => simp [asGs]
 | cons x X ih => simp only [List.map_cons, asGs, ih, asG_d, and_self]
theorem cmp_pos {x y : List D} {c : List D → List D → Int} (h : decide (c x y < 0) = true) : ltc c x y = true := h
theorem cmp_neg {x y : List D} {c : List D → List D → Int} (h : decide (c x y < 0) = false) : ltc c x y = false := h
def swpR (M : List (List D)) (a b : Nat) : Nat → List (List D)
 | 0 => M
 | n + 1 => swp (swpR M a b n) (a + n) (b + n)
theorem swpR_len (M : List (List D)) (a b : Nat) : ∀ n, (swpR M a b n).length = M.length
 | 0 => rfl
 | n + 1 => by simp only [swpR, swp_len, swpR_len M a b n]
theorem okM_swpR {M : List (List D)} (h : okM Pd M) (a b : Nat) : ∀ n, a + n ≤ M.length → b + n ≤ M.length → okM Pd (swpR M a b n)
 | 0, _, _ => h
 | n + 1, h1, h2 => okM_swp (okM_swpR h a b n (by omega) (by omega)) (by rw [swpR_len]; omega) (by rw [swpR_len]; omega)
theorem swpR_eq {P X B Y Q : List (List D)} : ∀ (n : Nat) {a b : Nat}, X.length = n → Y.length = n → a = P.length → b = P.length + n + B.length → ∀ X' Y', swpR (P ++ (X ++ X' ++ (B ++ (Y ++ Y' ++ Q)))) a (b + X'.length) n = P ++ (Y ++ X' ++ (B ++ (X ++ Y' ++ Q))) := by
 intro n
 induction n generalizing X Y with
 | zero =>
  intro a b hX hY ha hb X' Y'
  obtain rfl := List.eq_nil_of_length_eq_zero hX
  obtain rfl := List.eq_nil_of_length_eq_zero hY
  simp [swpR]
 | succ n ih =>
  intro a b hX hY ha hb X' Y'
  obtain ⟨X1, x, rfl⟩ : ∃ X1 x, X = X1 ++ [x] := by
   rcases List.eq_nil_or_concat X with h | ⟨X1, x, h⟩
   ·subst h; simp at hX
   ·exact ⟨X1, x, by simpa using h⟩
  obtain ⟨Y1, y, rfl⟩ : ∃ Y1 y, Y = Y1 ++ [y] := by
   rcases List.eq_nil_or_concat Y with h | ⟨Y1, y, h⟩
   ·subst h; simp at hY
   ·exact ⟨Y1, y, by simpa using h⟩
  simp only [List.length_append, List.length_singleton, Nat.add_right_cancel_iff] at hX hY
  have e := ih (X := X1) (Y := Y1) (a := a) (b := b - 1) hX hY ha (by omega) (x :: X') (y :: Y')
  have e2 : b - 1 + (x :: X').length = b + X'.length := by simp; omega
  rw [e2] at e
  simp only [swpR]
  rw [show P ++ (X1 ++ [x] ++ X' ++ (B ++ (Y1 ++ [y] ++ Y' ++ Q))) = P ++ (X1 ++ x :: X' ++ (B ++ (Y1 ++ y :: Y' ++ Q))) by simp, e]
  rw [show P ++ (Y1 ++ x :: X' ++ (B ++ (X1 ++ y :: Y' ++ Q))) = (P ++ Y1) ++ x :: ((X' ++ B ++ X1) ++ y :: (Y' ++ Q)) by simp]
  rw [swp_mid (by simp; omega) (by simp; omega)]
  simp
theorem swpR_mid {P X B Y Q : List (List D)} {a b n : Nat} (hX : X.length = n) (hY : Y.length = n) (ha : a = P.length) (hb : b = P.length + n + B.length) : swpR (P ++ (X ++ (B ++ (Y ++ Q)))) a b n = P ++ (Y ++ (B ++ (X ++ Q))) := by
 have e := swpR_eq (Q := Q) n hX hY ha hb [] []
 simpa using e
variable {c : List D → List D → Int}
theorem isort_mem {lt : List D → List D → Bool} {z : List D} : ∀ {l acc : List (List D)}, z ∈ isortA lt acc l ↔ z ∈ acc ∨ z ∈ l
 | [], acc => by simp [isortA]
 | x :: l, acc => by
  simp only [isortA, isort_mem (l := l), insX_mem, List.mem_cons]
  constructor
  ·rintro ((h | h) | h)
   ·exact .inr (.inl h)
   ·exact .inl h
   ·exact .inr (.inr h)
  ·rintro (h | h | h)
   ·exact .inl (.inr h)
   ·exact .inl (.inl h)
   ·exact .inr h
theorem okM_isort {lt : List D → List D → Bool} {l : List (List D)} (h : okM Pd l) : okM Pd (isort lt l) := fun e he => by
 rcases isort_mem.1 he with he | he
 ·cases he
 ·exact h e he
def InO (lt : List D → List D → Bool) (P S Q : List (List D)) (i : Nat) (R : List (List D)) : Prop :=
 (S = [] ∧ i = P.length + 1 ∧ R = P ++ (S ++ Q)) ∨ ∃ S1 S2, S = S1 ++ S2 ∧ S1 ≠ [] ∧ R = P ++ (isort lt S1 ++ (S2 ++ Q)) ∧ i = P.length + S1.length
def InI (lt : List D → List D → Bool) (P S Q : List (List D)) (i j : Nat) (R : List (List D)) : Prop :=
 ∃ S1 x S2 A B, S = S1 ++ x :: S2 ∧ S1 ≠ [] ∧ isort lt S1 = A ++ B ∧ (∀ b ∈ B, lt x b = true) ∧ R = P ++ (A ++ x :: (B ++ (S2 ++ Q))) ∧ i = P.length + S1.length ∧ j = P.length + A.length
section ins
variable {lt : List D → List D → Bool} {P S Q R : List (List D)} {i j : Nat}
theorem InO.start : InO lt P S Q (P.length + 1) (P ++ (S ++ Q)) := by
 cases S with
 | nil => exact .inl ⟨rfl, rfl, rfl⟩
 | cons x S => exact .inr ⟨[x], S, rfl, by simp, by simp [isort, isortA, insX], by simp⟩
theorem InO.len (h : InO lt P S Q i R) : R.length = P.length + S.length + Q.length := by
 rcases h with ⟨_, _, rfl⟩ | ⟨S1, S2, rfl, _, rfl, _⟩
 ·simp; omega
 ·simp [isort_len]; omega
theorem InO.ok (hM : okM Pd (P ++ (S ++ Q))) (h : InO lt P S Q i R) : okM Pd R := by
 rcases h with ⟨_, _, rfl⟩ | ⟨S1, S2, rfl, _, rfl, _⟩
 ·exact hM
 ·simp only [okM_app] at hM ⊢
  exact ⟨hM.1, okM_isort hM.2.1.1, hM.2.1.2, hM.2.2⟩
theorem InO.done (h : InO lt P S Q i R) (hi : P.length + S.length ≤ i) : R = P ++ (isort lt S ++ Q) := by
 rcases h with ⟨rfl, _, rfl⟩ | ⟨S1, S2, rfl, _, rfl, rfl⟩
 ·rfl
 ·have : S2 = [] := List.eq_nil_of_length_eq_zero (by simp at hi; omega)
  subst this; simp
theorem InO.more (h : InO lt P S Q i R) (hi : i < P.length + S.length) : InI lt P S Q i i R := by
 rcases h with ⟨rfl, rfl, rfl⟩ | ⟨S1, S2, rfl, h1, rfl, rfl⟩
 ·simp at hi; omega
 ·cases S2 with
  | nil => simp at hi
  | cons x S2 => exact ⟨S1, x, S2, isort lt S1, [], rfl, h1, by simp, by simp, by simp, rfl, by rw [isort_len]⟩
theorem InI.len (h : InI lt P S Q i j R) : R.length = P.length + S.length + Q.length ∧ i < P.length + S.length ∧ j ≤ i ∧ P.length ≤ j ∧ P.length < i := by
 obtain ⟨S1, x, S2, A, B, rfl, h0, h1, _, rfl, rfl, rfl⟩ := h
 have e := congrArg List.length h1
 have := List.length_pos_iff.2 h0
 simp only [isort_len, List.length_append] at e
 simp only [List.length_append, List.length_cons]
 omega
theorem InI.ok (hM : okM Pd (P ++ (S ++ Q))) (h : InI lt P S Q i j R) : okM Pd R := by
 obtain ⟨S1, x, S2, A, B, rfl, h0, h1, _, rfl, rfl, rfl⟩ := h
 simp only [okM_app, okM_cons] at hM ⊢
 have := okM_isort (lt := lt) hM.2.1.1
 rw [h1, okM_app] at this
 exact ⟨hM.1, this.1, hM.2.1.2.1, this.2, hM.2.1.2.2, hM.2.2⟩
theorem InI.step (h : InI lt P S Q i j R) (hj : P.length < j) (hl : lt (R.getD j []) (R.getD (j - 1) []) = true) : InI lt P S Q i (j - 1) (swp R j (j - 1)) := by
 obtain ⟨S1, x, S2, A, B, rfl, h0, h1, h2, rfl, rfl, rfl⟩ := h
 obtain ⟨A1, y, rfl⟩ : ∃ A1 y, A = A1 ++ [y] := by
  rcases List.eq_nil_or_concat A with h | ⟨X1, x, h⟩
  ·subst h; simp at hj
  ·exact ⟨X1, x, by simpa using h⟩
 have e1 : P ++ (A1 ++ [y] ++ x :: (B ++ (S2 ++ Q))) = (P ++ A1) ++ y :: ([] ++ x :: (B ++ (S2 ++ Q))) := by simp
 have e2 : P.length + (A1 ++ [y]).length - 1 = (P ++ A1).length := by simp
 have e3 : P.length + (A1 ++ [y]).length = (P ++ A1).length + 1 + ([] : List (List D)).length := by simp; omega
 have g1 : (P ++ (A1 ++ [y] ++ x :: (B ++ (S2 ++ Q)))).getD (P.length + (A1 ++ [y]).length) [] = x := by
  rw [show P ++ (A1 ++ [y] ++ x :: (B ++ (S2 ++ Q))) = (P ++ (A1 ++ [y])) ++ x :: (B ++ (S2 ++ Q)) by simp]
  exact gd_mid' _ _ (by simp)
 have g2 : (P ++ (A1 ++ [y] ++ x :: (B ++ (S2 ++ Q)))).getD (P.length + (A1 ++ [y]).length - 1) [] = y := by
  rw [e1]; exact gd_mid' _ _ e2
 rw [g1, g2] at hl
 rw [e1, swp_mid2 e2 e3]
 refine ⟨S1, x, S2, A1, y :: B, rfl, h0, by simp [h1], fun b hb => ?_, by simp, rfl, by simp⟩
 rcases List.mem_cons.1 hb with rfl | hb
 ·exact hl
 ·exact h2 b hb
theorem InI.done (hs : Swo lt) (h : InI lt P S Q i j R) (hj : j = P.length ∨ lt (R.getD j []) (R.getD (j - 1) []) = false) : InO lt P S Q (i + 1) R := by
 obtain ⟨S1, x, S2, A, B, rfl, h0, h1, h2, rfl, rfl, rfl⟩ := h
 refine .inr ⟨S1 ++ [x], S2, by simp, by simp, ?_, by simp; omega⟩
 rw [isort_snoc, h1]
 have hS : Srt lt (A ++ B) := h1 ▸ Srt_isort hs S1
 have key : insX lt x (A ++ B) = A ++ x :: B := by
  rcases List.eq_nil_or_concat A with h | ⟨A1, y, h⟩
  ·subst h; exact insX_end h2
  ·obtain rfl : A = A1 ++ [y] := by simpa using h
   rcases hj with hj | hj
   ·simp at hj
   ·have g1 : (P ++ (A1 ++ [y] ++ x :: (B ++ (S2 ++ Q)))).getD (P.length + (A1 ++ [y]).length) [] = x := by
     rw [show P ++ (A1 ++ [y] ++ x :: (B ++ (S2 ++ Q))) = (P ++ (A1 ++ [y])) ++ x :: (B ++ (S2 ++ Q)) by simp]
     exact gd_mid' _ _ (by simp)
    have g2 : (P ++ (A1 ++ [y] ++ x :: (B ++ (S2 ++ Q)))).getD (P.length + (A1 ++ [y]).length - 1) [] = y := by
     rw [show P ++ (A1 ++ [y] ++ x :: (B ++ (S2 ++ Q))) = (P ++ A1) ++ y :: (x :: (B ++ (S2 ++ Q))) by simp]
     exact gd_mid' _ _ (by simp)
    rw [g1, g2] at hj
    exact (ins_done hs (by simpa using hS) h2 hj).symm
 rw [key]; simp
end ins
section sym
variable {lt : List D → List D → Bool} {P L R Q M : List (List D)} {a b m mid i s : Nat} {x y : List D}
theorem Swo.irr (hs : Swo lt) (z : List D) : lt z z = false := by
 cases h : lt z z with
 | false => rfl
 | true => have := hs.asym _ _ h; rw [h] at this; cases this
theorem Srt.last (hs : Swo lt) {A : List (List D)} {z r : List D} (h : Srt lt (A ++ [z])) (hr : r ∈ A ++ [z]) : lt z r = false := by
 rcases List.mem_append.1 hr with hr | hr
 ·exact (List.pairwise_append.1 h).2.2 r hr z (by simp)
 ·obtain rfl : r = z := by simpa using hr
  exact hs.irr _
theorem Srt.first (hs : Swo lt) {A : List (List D)} {z r : List D} (h : Srt lt (z :: A)) (hr : r ∈ z :: A) : lt r z = false := by
 rcases List.mem_cons.1 hr with rfl | hr
 ·exact hs.irr _
 ·exact (List.pairwise_cons.1 h).1 r hr
theorem Srt.app {A B : List (List D)} (h : Srt lt (A ++ B)) : Srt lt A ∧ Srt lt B := ⟨(List.pairwise_append.1 h).1, (List.pairwise_append.1 h).2.1⟩
theorem lt_of_le_of_lt (hs : Swo lt) {u v w : List D} (h1 : lt v u = false) (h2 : lt v w = true) : lt u w = true := by
 cases h : lt u w with
 | true => rfl
 | false => have := hs.tr _ _ _ h h1; rw [h2] at this; cases this
theorem lt_of_lt_of_le (hs : Swo lt) {u v w : List D} (h1 : lt u v = true) (h2 : lt w v = false) : lt u w = true := by
 cases h : lt u w with
 | true => rfl
 | false => have := hs.tr _ _ _ h2 h; rw [h1] at this; cases this
theorem all_lt (hs : Swo lt) {A B : List (List D)} (hA : Srt lt A) (hB : Srt lt B) (h : A = [] ∨ B = [] ∨ ∃ A' z w B', A = A' ++ [z] ∧ B = w :: B' ∧ lt z w = true) : ∀ r ∈ A, ∀ l ∈ B, lt r l = true := by
 rcases h with rfl | rfl | ⟨A', z, w, B', rfl, rfl, h⟩
 ·intro r hr; cases hr
 ·intro r _ l hl; cases hl
 ·intro r hr l hl
  exact lt_of_le_of_lt hs (hA.last hs hr) (lt_of_lt_of_le hs h (hB.first hs hl))
theorem all_le (hs : Swo lt) {A B : List (List D)} (hA : Srt lt A) (hB : Srt lt B) (h : A = [] ∨ B = [] ∨ ∃ A' z w B', A = A' ++ [z] ∧ B = w :: B' ∧ lt w z = false) : ∀ r ∈ B, ∀ l ∈ A, lt r l = false := by
 rcases h with rfl | rfl | ⟨A', z, w, B', rfl, rfl, h⟩
 ·intro r _ l hl; cases hl
 ·intro r hr; cases hr
 ·intro r hr l hl
  exact hs.tr _ _ _ (hs.tr _ _ _ (hA.last hs hl) h) (hB.first hs hr)
theorem split_at (l : List (List D)) (n : Nat) (h : n ≤ l.length) : ∃ A B, l = A ++ B ∧ A.length = n := ⟨l.take n, l.drop n, by simp, by simp; omega⟩
theorem snoc_of {A : List (List D)} (h : 0 < A.length) : ∃ A' z, A = A' ++ [z] := by
 rcases List.eq_nil_or_concat A with h' | ⟨A', z, h'⟩
 ·subst h'; simp at h
 ·exact ⟨A', z, by simpa using h'⟩
theorem cons_of {A : List (List D)} (h : 0 < A.length) : ∃ z A', A = z :: A' := by
 cases A with
 | nil => simp at h
 | cons z A' => exact ⟨z, A', rfl⟩
theorem sym3 (hs : Swo lt) (hL : Srt lt L) (hR : Srt lt R) (hM : M = P ++ (L ++ (R ++ Q))) (ha : a = P.length) (hm : m = P.length + L.length) (hb : b = P.length + L.length + R.length)
  (h1 : a ≤ s) (h2 : s ≤ m) (h3 : s ≤ mid) (h4 : mid + m - s ≤ b)
  (h5 : s = a ∨ mid + m - s = b ∨ lt (M.getD (mid + m - s) []) (M.getD (s - 1) []) = false) (h6 : s = m ∨ s = mid ∨ lt (M.getD (mid + m - 1 - s) []) (M.getD s []) = true) :
  ∃ L1 L2 R1 R2, L = L1 ++ L2 ∧ R = R1 ++ R2 ∧ s = a + L1.length ∧ mid = s + R1.length ∧ mergeS lt L R = mergeS lt L1 R1 ++ mergeS lt L2 R2 := by
 obtain ⟨L1, L2, rfl, hl1⟩ := split_at L (s - a) (by omega)
 obtain ⟨R1, R2, rfl, hr1⟩ := split_at R (mid - s) (by omega)
 simp only [List.length_append] at hm hb
 refine ⟨L1, L2, R1, R2, rfl, rfl, by omega, by omega, merge_split _ _ _ _ (all_le hs hL.app.1 hR.app.2 ?_) (all_lt hs hR.app.1 hL.app.2 ?_)⟩
 ·rcases h5 with h5 | h5 | h5
  ·exact .inl (List.eq_nil_of_length_eq_zero (by omega))
  ·exact .inr (.inl (List.eq_nil_of_length_eq_zero (by omega)))
  ·rcases Nat.eq_zero_or_pos L1.length with h | h
   ·exact .inl (List.eq_nil_of_length_eq_zero h)
   rcases Nat.eq_zero_or_pos R2.length with h' | h'
   ·exact .inr (.inl (List.eq_nil_of_length_eq_zero h'))
   obtain ⟨A', z, rfl⟩ := snoc_of h
   obtain ⟨w, B', rfl⟩ := cons_of h'
   refine .inr (.inr ⟨A', z, w, B', rfl, rfl, ?_⟩)
   simp only [List.length_append, List.length_cons, List.length_nil] at *
   have g1 : M.getD (mid + m - s) [] = w := by
    rw [hM, show P ++ (A' ++ [z] ++ L2 ++ (R1 ++ w :: B' ++ Q)) = (P ++ (A' ++ [z] ++ L2) ++ R1) ++ w :: (B' ++ Q) by simp]
    exact gd_mid' _ _ (by simp; omega)
   have g2 : M.getD (s - 1) [] = z := by
    rw [hM, show P ++ (A' ++ [z] ++ L2 ++ (R1 ++ w :: B' ++ Q)) = (P ++ A') ++ z :: (L2 ++ (R1 ++ w :: B' ++ Q)) by simp]
    exact gd_mid' _ _ (by simp; omega)
   rw [g1, g2] at h5; exact h5
 ·rcases h6 with h6 | h6 | h6
  ·exact .inr (.inl (List.eq_nil_of_length_eq_zero (by omega)))
  ·exact .inl (List.eq_nil_of_length_eq_zero (by omega))
  ·rcases Nat.eq_zero_or_pos R1.length with h | h
   ·exact .inl (List.eq_nil_of_length_eq_zero h)
   rcases Nat.eq_zero_or_pos L2.length with h' | h'
   ·exact .inr (.inl (List.eq_nil_of_length_eq_zero h'))
   obtain ⟨A', z, rfl⟩ := snoc_of h
   obtain ⟨w, B', rfl⟩ := cons_of h'
   refine .inr (.inr ⟨A', z, w, B', rfl, rfl, ?_⟩)
   simp only [List.length_append, List.length_cons, List.length_nil] at *
   have g1 : M.getD (mid + m - 1 - s) [] = z := by
    rw [hM, show P ++ (L1 ++ w :: B' ++ (A' ++ [z] ++ R2 ++ Q)) = (P ++ (L1 ++ w :: B') ++ A') ++ z :: (R2 ++ Q) by simp]
    exact gd_mid' _ _ (by simp; omega)
   have g2 : M.getD s [] = w := by
    rw [hM, show P ++ (L1 ++ w :: B' ++ (A' ++ [z] ++ R2 ++ Q)) = (P ++ L1) ++ w :: (B' ++ (A' ++ [z] ++ R2 ++ Q)) by simp]
    exact gd_mid' _ _ (by simp; omega)
   rw [g1, g2] at h6; exact h6
theorem sym1 (hs : Swo lt) (hR : Srt lt R) (hM : M = P ++ ([x] ++ (R ++ Q))) (ha : a = P.length) (hm : m = P.length + 1) (hb : b = P.length + 1 + R.length) (h1 : m ≤ i) (h2 : i ≤ b)
  (h5 : i = m ∨ lt (M.getD (i - 1) []) (M.getD a []) = true) (h6 : i = b ∨ lt (M.getD i []) (M.getD a []) = false) :
  ∃ R1 R2, R = R1 ++ R2 ∧ i = m + R1.length ∧ mergeS lt [x] R = R1 ++ x :: R2 := by
 obtain ⟨R1, R2, rfl, hr1⟩ := split_at R (i - m) (by omega)
 simp only [List.length_append] at hb
 have gx : M.getD a [] = x := by rw [hM]; exact gd_mid' _ _ ha
 rw [gx] at h5 h6
 have e1 : ∀ r ∈ R1, ∀ l ∈ [x], lt r l = true := all_lt hs hR.app.1 (by simp [Srt]) (by
  rcases h5 with h5 | h5
  ·exact .inl (List.eq_nil_of_length_eq_zero (by omega))
  ·rcases Nat.eq_zero_or_pos R1.length with h | h
   ·exact .inl (List.eq_nil_of_length_eq_zero h)
   obtain ⟨A', z, rfl⟩ := snoc_of h
   refine .inr (.inr ⟨A', z, x, [], rfl, rfl, ?_⟩)
   simp only [List.length_append, List.length_singleton] at *
   have g1 : M.getD (i - 1) [] = z := by
    rw [hM, show P ++ ([x] ++ (A' ++ [z] ++ R2 ++ Q)) = (P ++ [x] ++ A') ++ z :: (R2 ++ Q) by simp]
    exact gd_mid' _ _ (by simp; omega)
   rw [g1] at h5; exact h5)
 have e2 : ∀ r ∈ R2, ∀ l ∈ [x], lt r l = false := all_le hs (by simp [Srt]) hR.app.2 (by
  rcases h6 with h6 | h6
  ·exact .inr (.inl (List.eq_nil_of_length_eq_zero (by omega)))
  ·rcases Nat.eq_zero_or_pos R2.length with h | h
   ·exact .inr (.inl (List.eq_nil_of_length_eq_zero h))
   obtain ⟨w, B', rfl⟩ := cons_of h
   refine .inr (.inr ⟨[], x, w, B', rfl, rfl, ?_⟩)
   have g1 : M.getD i [] = w := by
    rw [hM, show P ++ ([x] ++ (R1 ++ w :: B' ++ Q)) = (P ++ [x] ++ R1) ++ w :: (B' ++ Q) by simp]
    exact gd_mid' _ _ (by simp; omega)
   rw [g1] at h6; exact h6)
 refine ⟨R1, R2, rfl, by omega, ?_⟩
 have k1 := merge_split (lt := lt) [] R1 [x] R2 (fun r _ l hl => by cases hl) e1
 have k2 := merge_split (lt := lt) [x] [] [] R2 e2 (fun r hr => by cases hr)
 simp only [List.nil_append, List.append_nil, mergeS_nilL, mergeS_nilR] at k1 k2
 rw [k1, k2]; rfl
theorem sym2 (hs : Swo lt) (hL : Srt lt L) (hM : M = P ++ (L ++ ([y] ++ Q))) (ha : a = P.length) (hm : m = P.length + L.length) (h1 : a ≤ i) (h2 : i ≤ m)
  (h5 : i = a ∨ lt (M.getD m []) (M.getD (i - 1) []) = false) (h6 : i = m ∨ lt (M.getD m []) (M.getD i []) = true) :
  ∃ L1 L2, L = L1 ++ L2 ∧ i = a + L1.length ∧ mergeS lt L [y] = L1 ++ y :: L2 := by
 obtain ⟨L1, L2, rfl, hr1⟩ := split_at L (i - a) (by omega)
 have hm' := hm
 simp only [List.length_append] at hm
 have gx : M.getD m [] = y := by rw [hM, show P ++ (L1 ++ L2 ++ ([y] ++ Q)) = (P ++ (L1 ++ L2)) ++ y :: Q by simp]; exact gd_mid' _ _ (by simp; omega)
 rw [gx] at h5 h6
 have e1 : ∀ r ∈ [y], ∀ l ∈ L2, lt r l = true := all_lt hs (by simp [Srt]) hL.app.2 (by
  rcases h6 with h6 | h6
  ·exact .inr (.inl (List.eq_nil_of_length_eq_zero (by omega)))
  ·rcases Nat.eq_zero_or_pos L2.length with h | h
   ·exact .inr (.inl (List.eq_nil_of_length_eq_zero h))
   obtain ⟨w, B', rfl⟩ := cons_of h
   refine .inr (.inr ⟨[], y, w, B', rfl, rfl, ?_⟩)
   have g1 : M.getD i [] = w := by
    rw [hM, show P ++ (L1 ++ w :: B' ++ ([y] ++ Q)) = (P ++ L1) ++ w :: (B' ++ ([y] ++ Q)) by simp]
    exact gd_mid' _ _ (by simp; omega)
   rw [g1] at h6; exact h6)
 have e2 : ∀ r ∈ [y], ∀ l ∈ L1, lt r l = false := all_le hs hL.app.1 (by simp [Srt]) (by
  rcases h5 with h5 | h5
  ·exact .inl (List.eq_nil_of_length_eq_zero (by omega))
  ·rcases Nat.eq_zero_or_pos L1.length with h | h
   ·exact .inl (List.eq_nil_of_length_eq_zero h)
   obtain ⟨A', z, rfl⟩ := snoc_of h
   refine .inr (.inr ⟨A', z, y, [], rfl, rfl, ?_⟩)
   simp only [List.length_append, List.length_singleton] at *
   have g1 : M.getD (i - 1) [] = z := by
    rw [hM, show P ++ (A' ++ [z] ++ L2 ++ ([y] ++ Q)) = (P ++ A') ++ z :: (L2 ++ ([y] ++ Q)) by simp]
    exact gd_mid' _ _ (by simp; omega)
   rw [g1] at h5; exact h5)
 refine ⟨L1, L2, rfl, by omega, ?_⟩
 have k1 := merge_split (lt := lt) L1 [] L2 [y] e2 (fun r hr => by cases hr)
 have k2 := merge_split (lt := lt) [] [y] L2 [] (fun r hr => by cases hr) e1
 simp only [List.nil_append, List.append_nil, mergeS_nilL, mergeS_nilR] at k1 k2
 rw [k1, k2]; rfl
theorem okM_merge (hM : okM Pd (P ++ (L ++ (R ++ Q)))) : okM Pd (P ++ (mergeS lt L R ++ Q)) := by
 have aux : ∀ (L R : List (List D)), okM Pd L → okM Pd R → okM Pd (mergeS lt L R) := by
  intro L R
  induction L, R using mergeS.induct (lt := lt) with
  | case1 R => intro _ h; rw [mergeS_nilL]; exact h
  | case2 x L => intro h _; rw [mergeS_nilR]; exact h
  | case3 x L y R hb ih =>
   intro h1 h2
   simp only [mergeS, hb, cond_true]
   exact okM_cons.2 ⟨(okM_cons.1 h2).1, ih h1 (okM_cons.1 h2).2⟩
  | case4 x L y R hb ih =>
   intro h1 h2
   simp only [mergeS, hb, cond_false]
   exact okM_cons.2 ⟨(okM_cons.1 h1).1, ih (okM_cons.1 h1).2 h2⟩
 simp only [okM_app] at hM ⊢
 exact ⟨hM.1, aux _ _ hM.2.1 hM.2.2.1, hM.2.2.2⟩
theorem mergeS_len : ∀ (L R : List (List D)), (mergeS lt L R).length = L.length + R.length := by
 intro L R
 induction L, R using mergeS.induct (lt := lt) with
 | case1 R => simp [mergeS]
 | case2 x L => simp [mergeS]
 | case3 x L y R hb ih => simp only [mergeS, hb, cond_true, List.length_cons, ih]; omega
 | case4 x L y R hb ih => simp only [mergeS, hb, cond_false, List.length_cons, ih]; omega
inductive Chk (lt : List D → List D → Bool) (bs : Nat) : List (List D) → List (List D) → Prop
 | last (l : List (List D)) : l.length ≤ bs → Chk lt bs l (isort lt l)
 | cons (p l cur : List (List D)) : p.length = bs → Chk lt bs l cur → Chk lt bs (p ++ l) (isort lt p ++ cur)
theorem Chk.len {bs : Nat} {l cur : List (List D)} (h : Chk lt bs l cur) : cur.length = l.length := by
 induction h with
 | last l _ => exact isort_len l
 | cons p l cur _ _ ih => simp [isort_len, ih]
theorem Chk.ok {bs : Nat} {l cur : List (List D)} (h : Chk lt bs l cur) (hM : okM Pd l) : okM Pd cur := by
 induction h with
 | last l _ => exact okM_isort hM
 | cons p l cur _ _ ih => rw [okM_app] at hM ⊢; exact ⟨okM_isort hM.1, ih hM.2⟩
theorem Chk.fin {bs : Nat} {l cur : List (List D)} (h : Chk lt bs l cur) (hl : l.length ≤ bs) : cur = isort lt l := by
 cases h with
 | last _ _ => rfl
 | cons p l cur hp hc =>
  simp only [List.length_append] at hl
  have e1 : l = [] := List.eq_nil_of_length_eq_zero (by omega)
  subst e1
  have e2 : cur = [] := List.eq_nil_of_length_eq_zero (by rw [hc.len]; rfl)
  subst e2; simp
theorem Chk.two {bs : Nat} {B C : List (List D)} (h : Chk lt bs B C) (h0 : 0 < bs) (hl : bs + bs ≤ B.length) : ∃ c1 c2 r R, B = c1 ++ (c2 ++ r) ∧ C = isort lt c1 ++ (isort lt c2 ++ R) ∧ c1.length = bs ∧ c2.length = bs ∧ Chk lt bs r R := by
 cases h with
 | last l h => omega
 | cons p l cur hp hc =>
  simp only [List.length_append] at hl
  cases hc with
  | last l h => exact ⟨p, l, [], [], by simp, by simp, hp, by omega, .last [] (by simp)⟩
  | cons p2 l2 cur2 hp2 hc2 => exact ⟨p, p2, l2, cur2, rfl, rfl, hp, hp2, hc2⟩
theorem Chk.half {bs : Nat} {B C : List (List D)} (h : Chk lt bs B C) (h1 : bs < B.length) (h2 : B.length < bs + bs) : ∃ c1 c2, B = c1 ++ c2 ∧ C = isort lt c1 ++ isort lt c2 ∧ c1.length = bs := by
 cases h with
 | last l h => omega
 | cons p l cur hp hc =>
  simp only [List.length_append] at h2
  exact ⟨p, l, rfl, by rw [hc.fin (by omega)], hp⟩
end sym
theorem mcalls_fn0 {P : Program} {f cf : FuncId} {ms ms' rows : List ORow} {res : AV} (h : MCalls P f [.m 0, .d (.fn cf [])] ms ms' rows res) : MCalls P f [.m 0, .d (.v (.func (.func cf) #[] #[]))] ms ms' rows res := by
 intro I w g vs hgI hI hrows hdist hvs
 refine h I w g vs hgI hI hrows hdist ?_
 simp only [MRt] at hvs ⊢
 obtain ⟨u, t, o, rfl, h1, h2, u2, t2, rfl, h3, h4⟩ := hvs
 exact ⟨u, _, o, rfl, h1, h2, u2, t2, rfl, ⟨[], by simpa only [RD] using h3, by simp only [RDs]⟩, h4⟩
end Go.Proofs.YtjkfadaedgidpaaGreat
