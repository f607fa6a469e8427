/- Small facts on lists and numbers that walks use. No condition. -/
import Derived.Test.YtjkfadaedgidpaaGreatAbsT
namespace Go.Proofs.YtjkfadaedgidpaaGreat
open Go.RowKit
set_option linter.unusedVariables false
set_option linter.unusedSimpArgs false
theorem wrapI {n : Int} (h0 : -9223372036854775808 ≤ n) (h1 : n < 9223372036854775808) : IntKind.wrap .i64 n = n := by
 rw [IntKind.wrap_i64]; omega
theorem wrapU {n : Int} (h0 : 0 ≤ n) (h1 : n < 18446744073709551616) : IntKind.wrap .u64 n = n := by
 rw [IntKind.wrap_u64]; omega
theorem wrap_len {α : Type} (pre : List α) (x : α) (h : pre.length < 4611686018427387904) : IntKind.wrap .i64 ((pre.length : Int) + 1) = ((pre ++ [x]).length : Int) := by
 rw [wrapI (by omega) (by omega)]; simp
theorem getD_mid {α β : Type} (f : α → β) (pre post : List α) (x : α) (d : β) : ((pre ++ x :: post).map f).getD ((pre.length : Int).toNat) d = f x := by
 simp [List.getD]
theorem len_map {α β : Type} (f : α → β) (l : List α) : (l.map f).length = l.length := by simp
theorem lt_mid {α : Type} (pre post : List α) (x : α) : ((pre.length : Int) < ((pre ++ x :: post).length : Int)) = True := by
 simp only [List.length_append, List.length_cons, eq_iff_iff, iff_true]; omega
theorem ge_mid {α : Type} (pre : List α) : (0 ≤ (pre.length : Int)) = True := by
 simp only [eq_iff_iff, iff_true]; omega
theorem more_of {α : Type} {pre post : List α} (h : decide ((pre.length : Int) < ((pre ++ post).length : Int)) = true) : ∃ x t, post = x :: t := by
 cases post with
 | nil => simp at h
 | cons x t => exact ⟨x, t, rfl⟩
theorem none_of {α : Type} {pre post : List α} (h : decide ((pre.length : Int) < ((pre ++ post).length : Int)) = false) : post = [] := by
 cases post with
 | nil => rfl
 | cons x t => simp at h; omega
def ints (l : List Int) : D := .sl 1 (l.map fun n => [iv n])
theorem ofV_pair (a b : Value) : ofV (.tuple #[a, b]) = .tp [.d (.v a), .d (.v b)] := rfl
theorem ofV_int (k : IntKind) (n : Int) : ofV (.int k n) = .d (.v (.int k n)) := rfl
theorem ofV_bool (b : Bool) : ofV (.bool b) = .d (.v (.bool b)) := rfl
def loN (t : Int) : Int := t % 18446744073709551616
def hiN (t : Int) : Int := (t / 18446744073709551616) % 18446744073709551616
theorem shr63 {x : Int} (h0 : -9223372036854775808 ≤ x) (h1 : x < 9223372036854775808) : x.fdiv (2 ^ (min (Int.toNat 63) (IntKind.bits .i64))) = if x < 0 then -1 else 0 := by
 rw [show (2 : Int) ^ (min (Int.toNat 63) (IntKind.bits .i64)) = 9223372036854775808 from by decide, Int.fdiv_eq_ediv_of_nonneg _ (by decide)]
 split <;> omega
theorem wrapI_ (n : Int) : IntKind.wrap .i64 n = (n + 9223372036854775808) % 18446744073709551616 - 9223372036854775808 := by rw [IntKind.wrap_i64]
theorem wrapU_ (n : Int) : IntKind.wrap .u64 n = n % 18446744073709551616 := by rw [IntKind.wrap_u64]
theorem lo_nn (t : Int) : 0 ≤ loN t := by simp only [loN]; omega
theorem hi_nn (t : Int) : 0 ≤ hiN t := by simp only [hiN]; omega
theorem wu_nn (t : Int) : 0 ≤ IntKind.wrap .u64 t := by rw [wrapU_]; omega
theorem add_lo (s x : Int) : (loN s + IntKind.wrap .u64 x + 0) % 18446744073709551616 = loN (s + x) := by
 rw [wrapU_]; simp only [loN]; omega
theorem carry0 (s x : Int) : 0 ≤ (loN s + IntKind.wrap .u64 x + 0) / 18446744073709551616 := by
 rw [wrapU_]; simp only [loN]; omega
theorem carry1 (s x : Int) : (loN s + IntKind.wrap .u64 x + 0) / 18446744073709551616 ≤ 1 := by
 rw [wrapU_]; simp only [loN]; omega
theorem add_hi (s : Int) {x : Int} (h0 : -9223372036854775808 ≤ x) (h1 : x < 9223372036854775808) :
  (hiN s + IntKind.wrap .u64 (x.fdiv (2 ^ (min (Int.toNat 63) (IntKind.bits .i64)))) + (loN s + IntKind.wrap .u64 x + 0) / 18446744073709551616) % 18446744073709551616 = hiN (s + x) := by
 rw [shr63 h0 h1, wrapU_, wrapU_]; simp only [loN, hiN]
 split <;> omega
theorem RowLe.data_ {f : Nat → Nat} {V : List Nat} {m' : Nat → Option ARow} {r : Nat} {ty : TypeId} {sz : Nat} {ap : Bool} {fam : Nat} {L L' : List (List D)} (h : L' = L) :
  RowLe f V m' r ⟨True, ty, sz, false, ap, fam, L.map (·.map .d)⟩ ⟨True, ty, sz, false, ap, fam, L'.map (·.map .d)⟩ := by
 subst h
 exact ⟨id, rfl, rfl, fun _ => rfl, id, (fun h => by cases h), VLess.data L'⟩
def grow (ty : TypeId) (sz : Nat) (fam : Nat) (L : List (List D)) : ARow := ⟨True, ty, sz, false, true, fam, L.map (·.map .d)⟩
theorem VLe.data_ {f : Nat → Nat} {V : List Nat} (x : D) : VLe f V (.d x) (.d x) := VLe.same rfl
theorem VLe.ref_ {f : Nat → Nat} {V : List Nat} {r n : Nat} (h : r ∉ V) : VLe f V (.ref (f r) n) (.ref r n) := .inr (.inl ⟨rfl, by simpa [AV.ids] using h⟩)
theorem VLe.nil_ {f : Nat → Nat} {V : List Nat} {r : Nat} (h : r ∈ V) : VLe f V (.d (.v (.slice none 0 0))) (.ref r 0) := .inr (.inr (.inl ⟨rfl, r, h, rfl⟩))
theorem VLe.nild_ {f : Nat → Nat} {V : List Nat} {sz : Nat} : VLe f V (.d (.v (.slice none 0 0))) (.d (.sl sz [])) := .inr (.inr (.inr ⟨rfl, sz, rfl⟩))
theorem idsL_data : ∀ (ds : List D), AV.idsL (ds.map .d) = []
 | [] => rfl
 | x :: ds => by simp only [List.map_cons, AV.idsL, AV.ids, List.nil_append]; exact idsL_data ds
theorem wf_data (L : List (List D)) (m : List (Nat × ARow)) : ∀ e, e ∈ L.map (·.map .d) → ∀ r', r' ∈ AV.idsL e → lookR m r' ≠ none := fun e he r' hr => by
 obtain ⟨l, _, rfl⟩ := List.mem_map.1 he
 rw [idsL_data] at hr
 simp at hr
def injK (f : Nat → Nat) (V ks : List Nat) : Bool := (ks.all fun a => ks.all fun b => V.contains a || V.contains b || f a != f b || a == b) && ks.all fun a => Nat.blt a 1000000000 || (!V.contains a && f a == a)
theorem lookR_key {m : List (Nat × ARow)} {r : Nat} (h : lookR m r ≠ none) : r ∈ m.map (·.1) := by
 cases hr : lookR m r with
 | none => exact (h hr).elim
 | some row => exact List.mem_map.2 ⟨_, lookR_mem hr, rfl⟩
theorem le_SK {n : Nat} {l l' : List (Nat × AV)} {m m' : List (Nat × ARow)} (f : Nat → Nat) (V : List Nat) (hi : injK f V (m'.map (·.1)) = true) (hl : leV f V l l') (hr : leR f V m m' m') (hwl : wfV m' l') (hwr : wfR m' m') : Le (S n l m) (S n l' m') :=
 le_S f V hl hr (fun r1 r2 h1 h2 h3 h4 h5 => by
  have := List.all_eq_true.1 (List.all_eq_true.1 (Bool.and_eq_true _ _ ▸ hi).1 r1 (lookR_key h1)) r2 (lookR_key h2)
  simpa [h3, h4, h5] using this) (fun r h1 h2 => by
  have h3 := List.all_eq_true.1 (Bool.and_eq_true _ _ ▸ hi).2 r (lookR_key h1)
  have h4 : ¬ r < 1000000000 := by unfold pinned at h2; omega
  simpa [h4] using h3) hwl hwr
theorem le_maxLen {n : Nat} (h : n ≤ 1000000) : n ≤ maxLen := Nat.le_trans h (by decide)
theorem imp2 (a b : Prop) : (a → b → a) = True := by simp only [eq_iff_iff, iff_true]; exact fun h _ => h
theorem cast6 : ((6 : Nat) : Int) = 6 := rfl
end Go.Proofs.YtjkfadaedgidpaaGreat
