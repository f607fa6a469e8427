/- A sum in parts: greedy parts; what may be. In plain Lean. No condition. -/
import Derived.Test.YtjkfadaedgidpaaSpecJF
namespace Go.Proofs.Ytjkfadaedgidpaa
open Go.RowKit
set_option linter.unusedVariables false
set_option linter.unusedSimpArgs false
def mayX (n : Int) : Bool := decide (n < 0) || decide (n > 4611686018427387904)
def mayB (t : Int) (l : List Int) : Bool := bif mayX t || decide ((l.length : Int) > 200) then false else !(l.any mayX)
theorem mayX_ok {n : Int} (h : mayX n = false) : 0 ≤ n ∧ n ≤ 4611686018427387904 := by
  simp only [mayX, Bool.or_eq_false_iff, decide_eq_false_iff_not] at h; omega
theorem may_ok {t : Int} {l : List Int} (h : mayB t l = true) : mayOk t l := by
  simp only [mayB] at h
  cases h1 : mayX t || decide ((l.length : Int) > 200) with
  | true => rw [h1] at h; cases h
  | false =>
    rw [h1] at h
    simp only [Bool.or_eq_false_iff, decide_eq_false_iff_not] at h1
    refine ⟨mayX_ok h1.1, fun x hx => mayX_ok ?_, by omega⟩
    have h : l.any mayX = false := by simpa using h
    have := List.any_eq_false.1 h x hx
    simpa using this
/- Greedy. -/
theorem gPart_app : ∀ (t : Int) (a b : List Int), gPart t (a ++ b) = gPart t a ++ gPart (gLeft t a) b
  | t, [], b => rfl
  | t, c :: a, b => by simp only [List.cons_append, gPart, gLeft, gPart_app (t - mi c t) a b]
theorem gLeft_app : ∀ (t : Int) (a b : List Int), gLeft t (a ++ b) = gLeft (gLeft t a) b
  | t, [], b => rfl
  | t, c :: a, b => by simp only [List.cons_append, gLeft, gLeft_app (t - mi c t) a b]
theorem gV_ok {t : Int} {l : List Int} (h : sRE t l = 0) : gV t l = gPart t l ∧ gR t l = gLeft t l := by simp only [gV, gR, h]; exact ⟨rfl, rfl⟩
theorem gLeft_mono : ∀ {t u : Int} {l : List Int}, t ≤ u → gLeft t l ≤ gLeft u l
  | t, u, [], h => h
  | t, u, c :: l, h => by
    simp only [gLeft]
    refine gLeft_mono (l := l) ?_
    simp only [mi]; split <;> split <;> omega
theorem gPart_mono : ∀ {t u : Int} {l : List Int} (i : Nat), t ≤ u → (gPart t l).getD i 0 ≤ (gPart u l).getD i 0
  | t, u, [], i, h => by simp [gPart]
  | t, u, c :: l, 0, h => by
    simp only [gPart, List.getD_cons_zero, mi]; split <;> split <;> omega
  | t, u, c :: l, i + 1, h => by
    simp only [gPart, List.getD_cons_succ]
    refine gPart_mono i ?_
    simp only [mi]; split <;> split <;> omega
theorem gLeft_cap {t c d : Int} {a b : List Int} (h : c ≤ d) : gLeft t (a ++ d :: b) ≤ gLeft t (a ++ c :: b) := by
  rw [gLeft_app, gLeft_app]
  simp only [gLeft]
  refine gLeft_mono ?_
  simp only [mi]; split <;> split <;> omega
theorem gPart_mid (t : Int) (pre post : List Int) (x : Int) : (gPart t (pre ++ x :: post)).getD pre.length 0 = mi x (gLeft t pre) := by
  rw [gPart_app, List.getD_eq_getElem?_getD, List.getElem?_append_right (by rw [gPart_len]; exact Nat.le_refl _), gPart_len]
  simp [gPart]
/- Lists of numbers in memory. -/
theorem intsD_get {p : List Int} {k : Nat} (h : k < p.length) : (p.map fun n => [iv n]).getD k [] = [iv (p.getD k 0)] := by
  simp [List.getD_eq_getElem?_getD, List.getElem?_eq_getElem h]
theorem getD_mem {p : List Int} {k : Nat} (h : k < p.length) : p.getD k 0 ∈ p := by
  rw [List.getD_eq_getElem?_getD, List.getElem?_eq_getElem h]; exact List.getElem_mem h
theorem wk03 : splitV 10 [1, 1, 1] = [4, 3, 3] ∧ splitE 10 [1, 1, 1] = 0 := by decide
theorem scl_all {l : List Int} {k : Nat} (hk0 : 0 < k) (hk : k ≤ 1000) {t : Int} (hm : mayOk t l) (h : ∀ x ∈ l, x ≤ 1125899906842624) : mayOk t (l.map fun w => w * (k : Int)) := by
  refine ⟨hm.1, fun x hx => ?_, by rw [List.length_map]; exact hm.2.2⟩
  obtain ⟨w, hw, rfl⟩ := List.mem_map.1 hx
  have h1 := (hm.2.1 w hw).1
  have h2 := h w hw
  refine ⟨Int.mul_nonneg h1 (Int.natCast_nonneg k), ?_⟩
  have : w * (k : Int) ≤ 1125899906842624 * (k : Int) := Int.mul_le_mul_of_nonneg_right h2 (Int.natCast_nonneg k)
  omega

def oneI (n : Int) : List D := [iv n]
def spoilI (_ : Int) : Int := -77
theorem ints_one (l : List Int) : ints l = .sl 1 (l.map oneI) := rfl
def belowV : Int → List Int → Bool
  | _, [] => false
  | t, c :: l => decide (mi c t < c) || belowV (t - mi c t) l
theorem belowV_snoc : ∀ (t : Int) (l : List Int) (x : Int), belowV t (l ++ [x]) = (belowV t l || decide (mi x (gLeft t l) < x))
  | t, [], x => by simp only [belowV, gLeft, List.nil_append, Bool.or_false, Bool.false_or]; rfl
  | t, c :: l, x => by simp only [List.cons_append, belowV, gLeft, belowV_snoc (t - mi c t) l x, Bool.or_assoc]; rfl
theorem gLeft_zero : ∀ {l : List Int}, (∀ x ∈ l, 0 ≤ x) → gLeft 0 l = 0
  | [], _ => rfl
  | c :: l, h => by
    have h1 := h c (by simp)
    have e : mi c 0 = 0 := by simp only [mi]; split <;> omega
    simp only [gLeft, e, Int.sub_zero]
    exact gLeft_zero fun x hx => h x (by simp [hx])
theorem belowV_zero : ∀ {t : Int} {l : List Int}, (∀ x ∈ l, 0 ≤ x) → belowV t l = true → gLeft t l = 0
  | t, [], _, h => by cases h
  | t, c :: l, hl, h => by
    simp only [belowV, Bool.or_eq_true, decide_eq_true_eq] at h
    simp only [gLeft]
    rcases h with h | h
    · have e : t - mi c t = 0 := by simp only [mi] at *; split at h <;> split <;> omega
      rw [e]; exact gLeft_zero fun x hx => hl x (by simp [hx])
    · exact belowV_zero (fun x hx => hl x (by simp [hx])) h
theorem mi_zero {x : Int} (h : 0 ≤ x) : mi x 0 = 0 := by simp only [mi]; split <;> omega
theorem set_split {l : List Int} {k : Nat} (h : k < l.length) (v : Int) : ∃ a c b, l = a ++ c :: b ∧ l.set k v = a ++ v :: b ∧ a.length = k ∧ l.getD k 0 = c := by
  refine ⟨l.take k, l[k], l.drop (k + 1), ?_, ?_, ?_, ?_⟩
  · rw [List.getElem_cons_drop]; exact (List.take_append_drop k l).symm
  · exact List.set_eq_take_append_cons_drop .. |>.trans (by simp [h])
  · simp; omega
  · simp [List.getD_eq_getElem?_getD, h]
theorem grows_cap {t : Int} {l : List Int} {k : Nat} {cap : Int} (h : k < l.length) : gLeft t (l.set k (if l.getD k 0 < cap then cap else l.getD k 0)) ≤ gLeft t l := by
  obtain ⟨a, c, b, h1, h2, h3, h4⟩ := set_split h (if l.getD k 0 < cap then cap else l.getD k 0)
  rw [h2, h4, show gLeft t l = gLeft t (a ++ c :: b) by rw [← h1]]
  refine gLeft_cap ?_
  split <;> omega
theorem grows_may {t cap : Int} {l : List Int} {k : Nat} (h : k < l.length) (hm : mayOk t l) (h0 : 0 ≤ cap) (h1 : cap ≤ 4611686018427387904) : mayOk t (l.set k (if l.getD k 0 < cap then cap else l.getD k 0)) := by
  refine ⟨hm.1, fun x hx => ?_, by simp; exact hm.2.2⟩
  rcases List.mem_or_eq_of_mem_set hx with h2 | h2
  · exact hm.2.1 x h2
  · rw [h2]
    have := hm.2.1 _ (getD_mem h)
    split <;> omega
theorem parts_may {t : Int} {l : List Int} {k : Nat} (hm : mayOk t l) : mayOk t (l.take k) :=
  ⟨hm.1, fun x hx => hm.2.1 x (List.mem_of_mem_take hx), by have := hm.2.2; simp; omega⟩
theorem gLeft_bnd' {t : Int} {l : List Int} (h0 : 0 ≤ t) (h : ∀ x ∈ l, 0 ≤ x) : 0 ≤ gLeft t l ∧ gLeft t l ≤ t := gLeft_bnd h0 h
theorem parts_may2 {t : Int} {l : List Int} {k : Nat} (hm : mayOk t l) : mayOk (gLeft t (l.take k)) (l.drop k) := by
  have hb := gLeft_bnd' (t := t) (l := l.take k) hm.1.1 (fun x hx => (hm.2.1 x (List.mem_of_mem_take hx)).1)
  have := hm.1.2
  exact ⟨⟨hb.1, by omega⟩, fun x hx => hm.2.1 x (List.mem_of_mem_drop hx), by have := hm.2.2; simp; omega⟩
theorem parts_part (t : Int) (l : List Int) (k : Nat) : gPart t (l.take k) ++ gPart (gLeft t (l.take k)) (l.drop k) = gPart t l := by
  rw [← gPart_app, List.take_append_drop]
theorem parts_left (t : Int) (l : List Int) (k : Nat) : gLeft (gLeft t (l.take k)) (l.drop k) = gLeft t l := by
  rw [← gLeft_app, List.take_append_drop]
theorem modK {a : Int} {n : Nat} (h : 0 < n) (hn : n ≤ 1000000) : ∃ K : Nat, IntKind.wrap .i64 (IntKind.wrap .u64 ((IntKind.wrap .u64 a).tmod (n : Int))) = (K : Int) ∧ K < n := by
  have h0 : 0 ≤ IntKind.wrap .u64 a := by rw [wrapU_]; omega
  refine ⟨((IntKind.wrap .u64 a).tmod (n : Int)).toNat, ?_, ?_⟩
  · have h1 := Int.tmod_nonneg (n : Int) h0
    have h2 := Int.tmod_lt_of_pos (IntKind.wrap .u64 a) (show (0 : Int) < n by omega)
    rw [wrapU (by omega) (by omega), wrapI (by omega) (by omega)]; omega
  · have h1 := Int.tmod_nonneg (n : Int) h0
    have h2 := Int.tmod_lt_of_pos (IntKind.wrap .u64 a) (show (0 : Int) < n by omega)
    omega
theorem modK' {a : Int} {n : Nat} (h : 0 < n) (hn : n ≤ 1000000) : ∃ K : Nat, IntKind.wrap .i64 ((IntKind.wrap .u64 a).tmod (n : Int)) = (K : Int) ∧ K < n := by
  obtain ⟨K, h1, h2⟩ := modK (a := a) h hn
  refine ⟨K, ?_, h2⟩
  have h0 : 0 ≤ IntKind.wrap .u64 a := by rw [wrapU_]; omega
  have h1' := Int.tmod_nonneg (n : Int) h0
  have h2' := Int.tmod_lt_of_pos (IntKind.wrap .u64 a) (show (0 : Int) < n by omega)
  rw [wrapU (n := (IntKind.wrap .u64 a).tmod (n : Int)) (by omega) (by omega)] at h1
  exact h1
end Go.Proofs.Ytjkfadaedgidpaa
