/- A sum in parts: rests in order; the split. In plain Lean. No condition. -/
import Derived.Test.YtjkfadaedgidpaaSpecJ
import Derived.Test.YtjkfadaedgidpaaSort
namespace Go.Proofs.Ytjkfadaedgidpaa
open Go.RowKit
set_option linter.unusedVariables false
set_option linter.unusedSimpArgs false
structure RestV where
 r : Nat
 at_ : Nat
def restC (x : RestV) : List D := [uw (x.r / 18446744073709551616), uw (x.r % 18446744073709551616), iv (x.at_ : Int)]
def restD : List D → RestV
 | [.v (.int _ h), .v (.int _ l), .v (.int _ a)] => ⟨h.toNat * 18446744073709551616 + l.toNat, a.toNat⟩
 | _ => ⟨0, 0⟩
theorem restD_C (x : RestV) : restD (restC x) = x := by
 obtain ⟨r, a⟩ := x
 simp only [restC, restD, uw, iv, Int.toNat_natCast]
 congr 1; omega
def isRest (x : List D) : Prop := ∃ b, x = restC b
theorem okM_rests (l : List RestV) : okM isRest (l.map restC) := fun e he => by
 obtain ⟨b, _, rfl⟩ := List.mem_map.1 he
 exact ⟨b, rfl⟩
def restLt (a b : RestV) : Bool := decide (cmpG b.r a.r < 0)
theorem cmpG_lt {a b : Nat} : cmpG a b < 0 ↔ a < b := by
 simp only [cmpG, cmpI]
 by_cases h : (a : Int) < b <;> by_cases k : (a : Int) > b <;> simp [h, k] <;> omega
theorem restLt_iff {a b : RestV} : restLt a b = true ↔ b.r < a.r := by rw [restLt, decide_eq_true_iff]; exact cmpG_lt
theorem restLt_swo : Swo restLt where
 asym a b h := by
  have h := restLt_iff.1 h
  cases h2 : restLt b a with
  | false => rfl
  | true => have h2 := restLt_iff.1 h2; omega
 tr a b c h1 h2 := by
  cases h3 : restLt c a with
  | false => rfl
  | true =>
   exfalso
   have h3 := restLt_iff.1 h3
   have h1 : ¬ a.r < b.r := fun h => by rw [restLt_iff.2 h] at h1; cases h1
   have h2 : ¬ b.r < c.r := fun h => by rw [restLt_iff.2 h] at h2; cases h2
   omega
def restCmp (x y : List D) : Int := cmpG (restD y).r (restD x).r
theorem restCmp_swo : Swo (ltc restCmp) where
 asym a b h := restLt_swo.asym (restD a) (restD b) h
 tr a b c h1 h2 := restLt_swo.tr (restD a) (restD b) (restD c) h1 h2
theorem isort_mapR {α β : Type} (f : α → β) {lt : α → α → Bool} {lt' : β → β → Bool} (h : ∀ a b, lt' (f a) (f b) = lt a b) (l : List α) : isort lt' (l.map f) = (isort lt l).map f := by
 have ins : ∀ (x : α) (l : List α), insX lt' (f x) (l.map f) = (insX lt x l).map f := by
  intro x l
  induction l with
  | nil => rfl
  | cons y l ih =>
   simp only [List.map_cons, insX, h]
   cases lt x y with
   | true => rfl
   | false => simp [ih]
 have aux : ∀ (l acc : List α), isortA lt' (acc.map f) (l.map f) = (isortA lt acc l).map f := by
  intro l
  induction l with
  | nil => intro acc; rfl
  | cons x l ih => intro acc; simp only [List.map_cons, isortA, ins, ih]
 exact aux l []
def restOrder (l : List RestV) : List RestV := isort restLt l
theorem sort_rests (l : List RestV) : isort (ltc restCmp) (l.map restC) = (restOrder l).map restC :=
 isort_mapR restC (fun a b => by simp only [ltc, restCmp, restD_C, restLt]) l
def sN (l : List Int) : Nat := (l.map Int.toNat).sum
def qsV (T S : Nat) (l : List Int) : List Int := l.map fun w => ((T * w.toNat / S : Nat) : Int)
def rsV (T S : Nat) (l : List Int) : List RestV := l.zipIdx.map fun p => ⟨T * p.1.toNat % S, p.2⟩
def leftV (T S : Nat) (l : List Int) : Int := (T : Int) - (qsV T S l).sum
theorem sN_snoc (l : List Int) (x : Int) : sN (l ++ [x]) = sN l + x.toNat := by simp [sN]
theorem qsV_snoc (T S : Nat) (l : List Int) (x : Int) : qsV T S (l ++ [x]) = qsV T S l ++ [((T * x.toNat / S : Nat) : Int)] := by simp [qsV]
theorem rsV_snoc (T S : Nat) (l : List Int) (x : Int) : rsV T S (l ++ [x]) = rsV T S l ++ [⟨T * x.toNat % S, l.length⟩] := by simp [rsV, List.zipIdx_append]
theorem qsV_len (T S : Nat) (l : List Int) : (qsV T S l).length = l.length := by simp [qsV]
theorem rsV_len (T S : Nat) (l : List Int) : (rsV T S l).length = l.length := by simp [rsV]
theorem leftV_snoc (T S : Nat) (l : List Int) (x : Int) : leftV T S (l ++ [x]) = leftV T S l - ((T * x.toNat / S : Nat) : Int) := by
 simp only [leftV, qsV_snoc, List.sum_append, List.sum_cons, List.sum_nil]; omega
def rSum (T S : Nat) (l : List Int) : Nat := (l.map fun w => T * w.toNat % S).sum
theorem left_sum {T S : Nat} : ∀ l : List Int, (S : Int) * (qsV T S l).sum + (rSum T S l : Int) = (T : Int) * (sN l : Int)
 | [] => by simp [qsV, rSum, sN]
 | w :: l => by
  have ih := left_sum (T := T) (S := S) l
  have e := Nat.div_add_mod (T * w.toNat) S
  have e : (S : Int) * ((T * w.toNat / S : Nat) : Int) + ((T * w.toNat % S : Nat) : Int) = (T : Int) * (w.toNat : Int) := by exact_mod_cast e
  simp only [qsV, rSum, sN, List.map_cons, List.sum_cons] at ih ⊢
  rw [Int.mul_add, Int.natCast_add, Int.natCast_add, Int.mul_add]
  omega
theorem rSum_le {T S : Nat} (hS : 0 < S) : ∀ l : List Int, rSum T S l ≤ l.length * (S - 1)
 | [] => by simp [rSum]
 | w :: l => by
  have ih := rSum_le (T := T) hS l
  have := Nat.mod_lt (T * w.toNat) hS
  simp only [rSum, List.map_cons, List.sum_cons, List.length_cons, Nat.add_mul, Nat.one_mul] at ih ⊢
  omega
theorem left_bnd {T : Nat} {l : List Int} (hS : 0 < sN l) : 0 ≤ leftV T (sN l) l ∧ leftV T (sN l) l ≤ l.length := by
 have h1 := left_sum (T := T) (S := sN l) l
 have h2 := rSum_le (T := T) hS l
 have h3 : (sN l : Int) * leftV T (sN l) l = (rSum T (sN l) l : Int) := by
  simp only [leftV, Int.mul_sub]
  rw [Int.mul_comm (sN l : Int) (T : Int)]; omega
 have hS' : (0 : Int) < (sN l : Int) := by omega
 refine ⟨?_, ?_⟩
 ·have : 0 ≤ (sN l : Int) * leftV T (sN l) l := by rw [h3]; omega
  exact Int.nonneg_of_mul_nonneg_right this hS' |> fun h => h
 ·have h4 : rSum T (sN l) l ≤ l.length * sN l := Nat.le_trans h2 (Nat.mul_le_mul_left _ (by omega))
  have h5 : (sN l : Int) * leftV T (sN l) l ≤ (sN l : Int) * (l.length : Int) := by
   rw [h3, Int.mul_comm]; exact_mod_cast h4
  exact Int.le_of_mul_le_mul_left h5 hS'
theorem qs_nn (T S : Nat) : ∀ l : List Int, 0 ≤ (qsV T S l).sum
 | [] => by simp [qsV]
 | w :: l => by
  have := qs_nn T S l
  have h2 : 0 ≤ ((T * w.toNat / S : Nat) : Int) := Int.natCast_nonneg _
  simp only [qsV, List.map_cons, List.sum_cons] at this ⊢
  exact Int.add_nonneg h2 this
theorem left_pre (T S : Nat) (a b : List Int) : leftV T S (a ++ b) ≤ leftV T S a ∧ leftV T S a ≤ T := by
 have h1 := qs_nn T S a
 have h2 := qs_nn T S b
 have e : (qsV T S (a ++ b)).sum = (qsV T S a).sum + (qsV T S b).sum := by simp [qsV]
 simp only [leftV, e]; omega
def bump (p : List Int) (k : Nat) : List Int := p.set k (p.getD k 0 + 1)
def bumpV (p : List Int) (ks : List Nat) : List Int := ks.foldl bump p
theorem bump_len (p : List Int) (k : Nat) : (bump p k).length = p.length := by simp [bump]
theorem bumpV_snoc (p : List Int) (ks : List Nat) (k : Nat) : bumpV p (ks ++ [k]) = bump (bumpV p ks) k := by simp [bumpV]
theorem bumpV_len (p : List Int) : ∀ ks : List Nat, (bumpV p ks).length = p.length := by
 intro ks
 induction ks generalizing p with
 | nil => rfl
 | cons k ks ih => simp only [bumpV, List.foldl_cons] at ih ⊢; rw [ih, bump_len]
def zerosI (n : Nat) : List Int := List.replicate n 0
def atsV (T S : Nat) (l : List Int) (k : Nat) : List Nat := ((restOrder (rsV T S l)).take k).map RestV.at_
def splitE (t : Int) (l : List Int) : Int := bif sRE t l == 0 then (bif sN l == 0 then (bif t == 0 then 0 else 2) else 0) else sRE t l
def splitV (t : Int) (l : List Int) : List Int :=
 bif sRE t l == 0 then (bif sN l == 0 then (bif t == 0 then zerosI l.length else []) else bumpV (qsV t.toNat (sN l) l) (atsV t.toNat (sN l) l (leftV t.toNat (sN l) l).toNat)) else []
theorem sN_le : ∀ {l : List Int}, (∀ x ∈ l, 0 ≤ x ∧ x ≤ 4611686018427387904) → sN l ≤ l.length * 4611686018427387904
 | [], _ => by simp [sN]
 | x :: l, h => by
  have ih := sN_le (l := l) fun y hy => h y (List.mem_cons_of_mem _ hy)
  have hx := h x (by simp)
  simp only [sN, List.map_cons, List.sum_cons, List.length_cons] at ih ⊢
  omega
theorem sN_zero (n : Nat) : (((n / 18446744073709551616 : Nat) : Int) == 0 && ((n % 18446744073709551616 : Nat) : Int) == 0) = (n == 0) := by
 rw [Bool.eq_iff_iff]; simp; omega
theorem q_le {T S w : Nat} (h : w ≤ S) : T * w / S ≤ T := by
 rcases Nat.eq_zero_or_pos S with rfl | hS
 ·simp
 ·exact Nat.div_le_of_le_mul (by rw [Nat.mul_comm S T]; exact Nat.mul_le_mul_left _ h)
theorem w_le : ∀ {l : List Int} {x : Int}, x ∈ l → x.toNat ≤ sN l
 | y :: l, x, h => by
  simp only [sN, List.map_cons, List.sum_cons]
  rcases List.mem_cons.1 h with rfl | h
  ·omega
  ·have := w_le h; simp only [sN] at this; omega
end Go.Proofs.Ytjkfadaedgidpaa
