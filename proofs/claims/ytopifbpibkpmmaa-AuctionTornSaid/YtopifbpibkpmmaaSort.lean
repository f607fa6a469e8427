/- The library's stable sort over own rows: what its functions do to a list of items, in plain Lean. No condition. -/
import Derived.Test.YtopifbpibkpmmaaSpecS
import Derived.Test.YtopifbpibkpmmaaAbsS
namespace Go.Proofs.Ytopifbpibkpmmaa
open Go.RowKit
set_option linter.unusedVariables false
set_option linter.unusedSimpArgs false
def aV (M : List (List D)) : List (List AV) := M.map (·.map .d)
def swp (M : List (List D)) (i k : Nat) : List (List D) := (M.set i (M.getD k [])).set k (M.getD i [])
def okM (Pd : List D → Prop) (M : List (List D)) : Prop := ∀ e, e ∈ M → Pd e
def ltc (c : List D → List D → Int) (x y : List D) : Bool := decide (c x y < 0)
structure SC (P : Program) (cf : FuncId) (cs : List D) (c : List D → List D → Int) (Pd : List D → Prop) (sz : Nat) : Prop where
 go : goFn P cf
 call : ∀ x y, Pd x → Pd y → ACalls P cf ([.agg x, .agg y] ++ cs) [] (.d (iv (c x y)))
 len : ∀ x, Pd x → x.length = sz
 flat : ∀ x, Pd x → flatDs x
 cell : ∀ x, Pd x → cell1s (x.map AV.d)
 swo : Swo (ltc c)
theorem gd_mid (A : List (List D)) (x : List D) (B : List (List D)) : (A ++ x :: B).getD A.length [] = x := by simp [List.getD]
theorem st_mid (A : List (List D)) (x y : List D) (B : List (List D)) : (A ++ x :: B).set A.length y = A ++ y :: B := by simp
theorem gd_mid' {n : Nat} {A : List (List D)} (x : List D) (B : List (List D)) (h : n = A.length) : (A ++ x :: B).getD n [] = x := by subst h; exact gd_mid A x B
theorem st_mid' {n : Nat} {A : List (List D)} (x y : List D) (B : List (List D)) (h : n = A.length) : (A ++ x :: B).set n y = A ++ y :: B := by subst h; exact st_mid A x y B
theorem gd_mem {M : List (List D)} {k : Nat} (h : k < M.length) : M.getD k [] ∈ M := by
 have : M.getD k [] = M[k] := by simp [List.getD, h]
 rw [this]; exact List.getElem_mem h
theorem swp_mid {i k : Nat} {A B C : List (List D)} {x y : List D} (hi : i = A.length) (hk : k = A.length + 1 + B.length) : swp (A ++ x :: (B ++ y :: C)) i k = A ++ y :: (B ++ x :: C) := by
 have e1 : (A ++ x :: (B ++ y :: C)).getD k [] = y := by
  rw [show A ++ x :: (B ++ y :: C) = (A ++ x :: B) ++ y :: C by simp]
  exact gd_mid' y C (by simp; omega)
 unfold swp
 rw [e1, gd_mid' x _ hi, st_mid' x y _ hi, show A ++ y :: (B ++ y :: C) = (A ++ y :: B) ++ y :: C by simp, st_mid' y x C (by simp; omega)]
 simp
theorem swp_symm (M : List (List D)) {i k : Nat} (h : i ≠ k) : swp M i k = swp M k i := by
 unfold swp; exact List.set_comm _ _ h
theorem swp_mid2 {i k : Nat} {A B C : List (List D)} {x y : List D} (hi : i = A.length) (hk : k = A.length + 1 + B.length) : swp (A ++ x :: (B ++ y :: C)) k i = A ++ y :: (B ++ x :: C) := by
 rw [swp_symm _ (by omega), swp_mid hi hk]
variable {Pd : List D → Prop} {sz : Nat}
theorem okM_app {A B : List (List D)} : okM Pd (A ++ B) ↔ okM Pd A ∧ okM Pd B := by
 simp only [okM, List.mem_append]
 exact ⟨fun h => ⟨fun e he => h e (.inl he), fun e he => h e (.inr he)⟩, fun h e he => he.elim (h.1 e) (h.2 e)⟩
theorem okM_cons {x : List D} {B : List (List D)} : okM Pd (x :: B) ↔ Pd x ∧ okM Pd B := by simp [okM]
theorem aV_len (M : List (List D)) : (aV M).length = M.length := by simp [aV]
theorem aV_get (M : List (List D)) (i : Nat) : (aV M).getD i [] = (M.getD i []).map .d := by
 simp only [aV, List.getD, List.getElem?_map]
 cases M[i]? <;> rfl
theorem aV_set (M : List (List D)) (i : Nat) (X : List D) : (aV M).set i (X.map .d) = aV (M.set i X) := by simp [aV, List.map_set]
theorem aV_ids (M : List (List D)) : ∀ e ∈ aV M, AV.idsL e = [] := fun e he => ids_data e he
theorem tkD (M : List (List D)) (h : ∀ e, e ∈ M → e.length = sz) (i : Nat) : List.take sz ((M.getD i []).map AV.d) = (M.getD i []).map AV.d := by
 apply List.take_of_length_le
 simp only [List.length_map]
 rcases Nat.lt_or_ge i M.length with hi | hi
 ·rw [h _ (gd_mem hi)]; exact Nat.le_refl _
 ·simp [List.getD, List.getElem?_eq_none hi]
theorem lenD {M : List (List D)} (h : ∀ e, e ∈ M → e.length = sz) {i : Nat} (hi : i < M.length) : (M.getD i []).length = sz := h _ (gd_mem hi)
theorem splD {X Y : List D} (h : X.length = Y.length) : splice (X.map AV.d) 0 (Y.map AV.d) = Y.map AV.d := by simp [splice, h]
theorem ge0 (n : Nat) : (0 ≤ (n : Int)) = True := by simp
theorem ltI {i n : Nat} (h : i < n) : ((i : Int) < (n : Int)) = True := by simp only [eq_iff_iff, iff_true]; omega
theorem okM.len {P : Program} {cf : FuncId} {cs : List D} {c : List D → List D → Int} (h : SC P cf cs c Pd sz) {M : List (List D)} (hM : okM Pd M) : ∀ e, e ∈ M → e.length = sz := fun e he => h.len e (hM e he)
theorem set_len {R : List (List D)} (hz : ∀ e, e ∈ R → e.length = sz) {i k : Nat} (hk : k < R.length) : ∀ e, e ∈ R.set i (R.getD k []) → e.length = sz := fun e he => by
 rcases List.mem_or_eq_of_mem_set he with he | rfl
 ·exact hz e he
 ·exact hz _ (gd_mem hk)
theorem swpF {P : Program} {cf : FuncId} {cs : List D} {c : List D → List D → Int} (h : SC P cf cs c Pd sz) {R : List (List D)} (hM : okM Pd R) {i k : Nat} (hi : i < R.length) (hk : k < R.length) :
  (R.getD i []).length = sz ∧ (R.getD k []).length = sz ∧ ((R.set i (R.getD k [])).getD k []).length = sz ∧
  List.take sz ((R.getD i []).map AV.d) = (R.getD i []).map AV.d ∧ List.take sz ((R.getD k []).map AV.d) = (R.getD k []).map AV.d ∧
  splice ((R.getD i []).map AV.d) 0 ((R.getD k []).map AV.d) = (R.getD k []).map AV.d ∧ splice (((R.set i (R.getD k [])).getD k []).map AV.d) 0 ((R.getD i []).map AV.d) = (R.getD i []).map AV.d ∧
  cell1s ((R.getD i []).map AV.d) = True ∧ cell1s ((R.getD k []).map AV.d) = True ∧ (i < R.length) = True ∧ (k < R.length) = True := by
 have hz := okM.len h hM
 have e1 := lenD hz hi
 have e2 := lenD hz hk
 have e3 : ((R.set i (R.getD k [])).getD k []).length = sz := lenD (set_len hz hk) (by simpa using hk)
 exact ⟨e1, e2, e3, tkD R hz i, tkD R hz k, splD (by rw [e1, e2]), splD (by rw [e3, e1]), eq_true (h.cell _ (hM _ (gd_mem hi))), eq_true (h.cell _ (hM _ (gd_mem hk))), eq_true hi, eq_true hk⟩
theorem asEc_map (s : AS) : ∀ X : List D, asEc s (X.map AV.d) X = True
 | [] => by simp [asEc]
 | x :: X => by
  simp only [List.map_cons, asEc, eq_iff_iff, iff_true]
  refine ⟨x, X, rfl, ?_, by rw [asEc_map s X]; trivial⟩
  rw [asD_self]; trivial
theorem asGs_map (s : AS) (X : List D) : asGs s (X.map AV.d) = True := by
 induction X with
 | nil => simp [asGs]
 | cons x X ih => simp only [List.map_cons, asGs, ih, asG_d, and_self]
theorem cmp_pos {x y : List D} {c : List D → List D → Int} (h : decide (c x y < 0) = true) : ltc c x y = true := h
theorem cmp_neg {x y : List D} {c : List D → List D → Int} (h : decide (c x y < 0) = false) : ltc c x y = false := h
def swpR (M : List (List D)) (a b : Nat) : Nat → List (List D)
 | 0 => M
 | n + 1 => swp (swpR M a b n) (a + n) (b + n)
variable {c : List D → List D → Int}
theorem isort_mem {lt : List D → List D → Bool} {z : List D} : ∀ {l acc : List (List D)}, z ∈ isortA lt acc l ↔ z ∈ acc ∨ z ∈ l
 | [], acc => by simp [isortA]
 | x :: l, acc => by
  simp only [isortA, isort_mem (l := l), insX_mem, List.mem_cons]
  constructor
  ·rintro ((h | h) | h)
   ·exact .inr (.inl h)
   ·exact .inl h
   ·exact .inr (.inr h)
  ·rintro (h | h | h)
   ·exact .inl (.inr h)
   ·exact .inl (.inl h)
   ·exact .inr h
theorem okM_isort {lt : List D → List D → Bool} {l : List (List D)} (h : okM Pd l) : okM Pd (isort lt l) := fun e he => by
 rcases isort_mem.1 he with he | he
 ·cases he
 ·exact h e he
def InO (lt : List D → List D → Bool) (P S Q : List (List D)) (i : Nat) (R : List (List D)) : Prop :=
 (S = [] ∧ i = P.length + 1 ∧ R = P ++ (S ++ Q)) ∨ ∃ S1 S2, S = S1 ++ S2 ∧ S1 ≠ [] ∧ R = P ++ (isort lt S1 ++ (S2 ++ Q)) ∧ i = P.length + S1.length
def InI (lt : List D → List D → Bool) (P S Q : List (List D)) (i j : Nat) (R : List (List D)) : Prop :=
 ∃ S1 x S2 A B, S = S1 ++ x :: S2 ∧ S1 ≠ [] ∧ isort lt S1 = A ++ B ∧ (∀ b ∈ B, lt x b = true) ∧ R = P ++ (A ++ x :: (B ++ (S2 ++ Q))) ∧ i = P.length + S1.length ∧ j = P.length + A.length
section ins
variable {lt : List D → List D → Bool} {P S Q R : List (List D)} {i j : Nat}
theorem InO.start : InO lt P S Q (P.length + 1) (P ++ (S ++ Q)) := by
 cases S with
 | nil => exact .inl ⟨rfl, rfl, rfl⟩
 | cons x S => exact .inr ⟨[x], S, rfl, by simp, by simp [isort, isortA, insX], by simp⟩
theorem InO.len (h : InO lt P S Q i R) : R.length = P.length + S.length + Q.length := by
 rcases h with ⟨_, _, rfl⟩ | ⟨S1, S2, rfl, _, rfl, _⟩
 ·simp; omega
 ·simp [isort_len]; omega
theorem InO.ok (hM : okM Pd (P ++ (S ++ Q))) (h : InO lt P S Q i R) : okM Pd R := by
 rcases h with ⟨_, _, rfl⟩ | ⟨S1, S2, rfl, _, rfl, _⟩
 ·exact hM
 ·simp only [okM_app] at hM ⊢
  exact ⟨hM.1, okM_isort hM.2.1.1, hM.2.1.2, hM.2.2⟩
theorem InO.done (h : InO lt P S Q i R) (hi : P.length + S.length ≤ i) : R = P ++ (isort lt S ++ Q) := by
 rcases h with ⟨rfl, _, rfl⟩ | ⟨S1, S2, rfl, _, rfl, rfl⟩
 ·rfl
 ·have : S2 = [] := List.eq_nil_of_length_eq_zero (by simp at hi; omega)
  subst this; simp
theorem InO.more (h : InO lt P S Q i R) (hi : i < P.length + S.length) : InI lt P S Q i i R := by
 rcases h with ⟨rfl, rfl, rfl⟩ | ⟨S1, S2, rfl, h1, rfl, rfl⟩
 ·simp at hi; omega
 ·cases S2 with
  | nil => simp at hi
  | cons x S2 => exact ⟨S1, x, S2, isort lt S1, [], rfl, h1, by simp, by simp, by simp, rfl, by rw [isort_len]⟩
theorem InI.len (h : InI lt P S Q i j R) : R.length = P.length + S.length + Q.length ∧ i < P.length + S.length ∧ j ≤ i ∧ P.length ≤ j ∧ P.length < i := by
 obtain ⟨S1, x, S2, A, B, rfl, h0, h1, _, rfl, rfl, rfl⟩ := h
 have e := congrArg List.length h1
 have := List.length_pos_iff.2 h0
 simp only [isort_len, List.length_append] at e
 simp only [List.length_append, List.length_cons]
 omega
theorem InI.ok (hM : okM Pd (P ++ (S ++ Q))) (h : InI lt P S Q i j R) : okM Pd R := by
 obtain ⟨S1, x, S2, A, B, rfl, h0, h1, _, rfl, rfl, rfl⟩ := h
 simp only [okM_app, okM_cons] at hM ⊢
 have := okM_isort (lt := lt) hM.2.1.1
 rw [h1, okM_app] at this
 exact ⟨hM.1, this.1, hM.2.1.2.1, this.2, hM.2.1.2.2, hM.2.2⟩
theorem InI.step (h : InI lt P S Q i j R) (hj : P.length < j) (hl : lt (R.getD j []) (R.getD (j - 1) []) = true) : InI lt P S Q i (j - 1) (swp R j (j - 1)) := by
 obtain ⟨S1, x, S2, A, B, rfl, h0, h1, h2, rfl, rfl, rfl⟩ := h
 obtain ⟨A1, y, rfl⟩ : ∃ A1 y, A = A1 ++ [y] := by
  rcases List.eq_nil_or_concat A with h | ⟨X1, x, h⟩
  ·subst h; simp at hj
  ·exact ⟨X1, x, by simpa using h⟩
 have e1 : P ++ (A1 ++ [y] ++ x :: (B ++ (S2 ++ Q))) = (P ++ A1) ++ y :: ([] ++ x :: (B ++ (S2 ++ Q))) := by simp
 have e2 : P.length + (A1 ++ [y]).length - 1 = (P ++ A1).length := by simp
 have e3 : P.length + (A1 ++ [y]).length = (P ++ A1).length + 1 + ([] : List (List D)).length := by simp; omega
 have g1 : (P ++ (A1 ++ [y] ++ x :: (B ++ (S2 ++ Q)))).getD (P.length + (A1 ++ [y]).length) [] = x := by
  rw [show P ++ (A1 ++ [y] ++ x :: (B ++ (S2 ++ Q))) = (P ++ (A1 ++ [y])) ++ x :: (B ++ (S2 ++ Q)) by simp]
  exact gd_mid' _ _ (by simp)
 have g2 : (P ++ (A1 ++ [y] ++ x :: (B ++ (S2 ++ Q)))).getD (P.length + (A1 ++ [y]).length - 1) [] = y := by
  rw [e1]; exact gd_mid' _ _ e2
 rw [g1, g2] at hl
 rw [e1, swp_mid2 e2 e3]
 refine ⟨S1, x, S2, A1, y :: B, rfl, h0, by simp [h1], fun b hb => ?_, by simp, rfl, by simp⟩
 rcases List.mem_cons.1 hb with rfl | hb
 ·exact hl
 ·exact h2 b hb
theorem InI.done (hs : Swo lt) (h : InI lt P S Q i j R) (hj : j = P.length ∨ lt (R.getD j []) (R.getD (j - 1) []) = false) : InO lt P S Q (i + 1) R := by
 obtain ⟨S1, x, S2, A, B, rfl, h0, h1, h2, rfl, rfl, rfl⟩ := h
 refine .inr ⟨S1 ++ [x], S2, by simp, by simp, ?_, by simp; omega⟩
 rw [isort_snoc, h1]
 have hS : Srt lt (A ++ B) := h1 ▸ Srt_isort hs S1
 have key : insX lt x (A ++ B) = A ++ x :: B := by
  rcases List.eq_nil_or_concat A with h | ⟨A1, y, h⟩
  ·subst h; exact insX_end h2
  ·obtain rfl : A = A1 ++ [y] := by simpa using h
   rcases hj with hj | hj
   ·simp at hj
   ·have g1 : (P ++ (A1 ++ [y] ++ x :: (B ++ (S2 ++ Q)))).getD (P.length + (A1 ++ [y]).length) [] = x := by
     rw [show P ++ (A1 ++ [y] ++ x :: (B ++ (S2 ++ Q))) = (P ++ (A1 ++ [y])) ++ x :: (B ++ (S2 ++ Q)) by simp]
     exact gd_mid' _ _ (by simp)
    have g2 : (P ++ (A1 ++ [y] ++ x :: (B ++ (S2 ++ Q)))).getD (P.length + (A1 ++ [y]).length - 1) [] = y := by
     rw [show P ++ (A1 ++ [y] ++ x :: (B ++ (S2 ++ Q))) = (P ++ A1) ++ y :: (x :: (B ++ (S2 ++ Q))) by simp]
     exact gd_mid' _ _ (by simp)
    rw [g1, g2] at hj
    exact (ins_done hs (by simpa using hS) h2 hj).symm
 rw [key]; simp
end ins
section sym
variable {lt : List D → List D → Bool} {P L R Q M : List (List D)} {a b m mid i s : Nat} {x y : List D}
theorem Swo.irr (hs : Swo lt) (z : List D) : lt z z = false := by
 cases h : lt z z with
 | false => rfl
 | true => have := hs.asym _ _ h; rw [h] at this; cases this
theorem Srt.last (hs : Swo lt) {A : List (List D)} {z r : List D} (h : Srt lt (A ++ [z])) (hr : r ∈ A ++ [z]) : lt z r = false := by
 rcases List.mem_append.1 hr with hr | hr
 ·exact (List.pairwise_append.1 h).2.2 r hr z (by simp)
 ·obtain rfl : r = z := by simpa using hr
  exact hs.irr _
theorem Srt.first (hs : Swo lt) {A : List (List D)} {z r : List D} (h : Srt lt (z :: A)) (hr : r ∈ z :: A) : lt r z = false := by
 rcases List.mem_cons.1 hr with rfl | hr
 ·exact hs.irr _
 ·exact (List.pairwise_cons.1 h).1 r hr
theorem Srt.app {A B : List (List D)} (h : Srt lt (A ++ B)) : Srt lt A ∧ Srt lt B := ⟨(List.pairwise_append.1 h).1, (List.pairwise_append.1 h).2.1⟩
theorem lt_of_le_of_lt (hs : Swo lt) {u v w : List D} (h1 : lt v u = false) (h2 : lt v w = true) : lt u w = true := by
 cases h : lt u w with
 | true => rfl
 | false => have := hs.tr _ _ _ h h1; rw [h2] at this; cases this
theorem lt_of_lt_of_le (hs : Swo lt) {u v w : List D} (h1 : lt u v = true) (h2 : lt w v = false) : lt u w = true := by
 cases h : lt u w with
 | true => rfl
 | false => have := hs.tr _ _ _ h2 h; rw [h1] at this; cases this
inductive Chk (lt : List D → List D → Bool) (bs : Nat) : List (List D) → List (List D) → Prop
 | last (l : List (List D)) : l.length ≤ bs → Chk lt bs l (isort lt l)
 | cons (p l cur : List (List D)) : p.length = bs → Chk lt bs l cur → Chk lt bs (p ++ l) (isort lt p ++ cur)
theorem Chk.len {bs : Nat} {l cur : List (List D)} (h : Chk lt bs l cur) : cur.length = l.length := by
 induction h with
 | last l _ => exact isort_len l
 | cons p l cur _ _ ih => simp [isort_len, ih]
theorem Chk.ok {bs : Nat} {l cur : List (List D)} (h : Chk lt bs l cur) (hM : okM Pd l) : okM Pd cur := by
 induction h with
 | last l _ => exact okM_isort hM
 | cons p l cur _ _ ih => rw [okM_app] at hM ⊢; exact ⟨okM_isort hM.1, ih hM.2⟩
theorem Chk.fin {bs : Nat} {l cur : List (List D)} (h : Chk lt bs l cur) (hl : l.length ≤ bs) : cur = isort lt l := by
 cases h with
 | last _ _ => rfl
 | cons p l cur hp hc =>
  simp only [List.length_append] at hl
  have e1 : l = [] := List.eq_nil_of_length_eq_zero (by omega)
  subst e1
  have e2 : cur = [] := List.eq_nil_of_length_eq_zero (by rw [hc.len]; rfl)
  subst e2; simp
theorem Chk.two {bs : Nat} {B C : List (List D)} (h : Chk lt bs B C) (h0 : 0 < bs) (hl : bs + bs ≤ B.length) : ∃ c1 c2 r R, B = c1 ++ (c2 ++ r) ∧ C = isort lt c1 ++ (isort lt c2 ++ R) ∧ c1.length = bs ∧ c2.length = bs ∧ Chk lt bs r R := by
 cases h with
 | last l h => omega
 | cons p l cur hp hc =>
  simp only [List.length_append] at hl
  cases hc with
  | last l h => exact ⟨p, l, [], [], by simp, by simp, hp, by omega, .last [] (by simp)⟩
  | cons p2 l2 cur2 hp2 hc2 => exact ⟨p, p2, l2, cur2, rfl, rfl, hp, hp2, hc2⟩
end sym
theorem mcalls_fn0 {P : Program} {f cf : FuncId} {ms ms' rows : List ORow} {res : AV} (h : MCalls P f [.m 0, .d (.fn cf [])] ms ms' rows res) : MCalls P f [.m 0, .d (.v (.func (.func cf) #[] #[]))] ms ms' rows res := by
 intro I w g vs hgI hI hrows hdist hvs
 refine h I w g vs hgI hI hrows hdist ?_
 simp only [MRt] at hvs ⊢
 obtain ⟨u, t, o, rfl, h1, h2, u2, t2, rfl, h3, h4⟩ := hvs
 exact ⟨u, _, o, rfl, h1, h2, u2, t2, rfl, ⟨[], by simpa only [RD] using h3, by simp only [RDs]⟩, h4⟩
end Go.Proofs.Ytopifbpibkpmmaa
