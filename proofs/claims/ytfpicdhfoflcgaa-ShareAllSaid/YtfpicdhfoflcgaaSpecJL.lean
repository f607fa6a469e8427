/- A sum in parts: the other reading's wide numbers. In plain Lean. No condition. -/
import Derived.Test.YtfpicdhfoflcgaaSpecJK
import Derived.Test.YtfpicdhfoflcgaaSpecG
namespace Go.Proofs.Ytfpicdhfoflcgaa
open Go.RowKit
set_option linter.unusedVariables false
set_option linter.unusedSimpArgs false
def wN (B : Nat) : List D := [iv ((B / 18446744073709551616 : Nat) : Int), .v (.int .u64 ((B % 18446744073709551616 : Nat) : Int))]
def wNA (B : Nat) : AV := .ag [.d (iv ((B / 18446744073709551616 : Nat) : Int)), .d (.v (.int .u64 ((B % 18446744073709551616 : Nat) : Int)))]
theorem nat_div (B : Nat) : (B : Int) / 18446744073709551616 = ((B / 18446744073709551616 : Nat) : Int) := by omega
theorem nat_mod (B : Nat) : (B : Int) % 18446744073709551616 = ((B % 18446744073709551616 : Nat) : Int) := by omega
theorem wN_eq (B : Nat) : wideC (B : Int) = wN B := by rw [wideC, nat_div, nat_mod, wN]
theorem wNA_eq (B : Nat) : wideA (B : Int) = wNA B := by rw [wideA, nat_div, nat_mod, wNA]
theorem shlI {h : Nat} (hh : h < 4611686018427387904) : IntKind.wrap .i64 ((h : Int) * 2 ^ (min (Int.toNat 1) (IntKind.bits .i64))) = ((h * 2 : Nat) : Int) := by
  rw [show (2 : Int) ^ (min (Int.toNat 1) (IntKind.bits .i64)) = 2 from by decide, wrapI (by omega) (by omega)]; omega
theorem orI64 {h b : Nat} (hh : h < 4611686018427387904) (hb : b < 2) : IntKind.wrap .i64 ((BitVec.ofInt (IntKind.bits .i64) ((h * 2 : Nat) : Int) ||| BitVec.ofInt (IntKind.bits .i64) (b : Int)).toNat : Int) = ((h * 2 + b : Nat) : Int) := by
  have e := bv_or (x := h * 2) (b := b) (by omega) hb (by omega)
  have h2 : ((BitVec.ofInt (IntKind.bits .i64) ((h * 2 : Nat) : Int) ||| BitVec.ofInt (IntKind.bits .i64) (b : Int)).toNat : Int) = ((h * 2 + b : Nat) : Int) := by
    have e2 : IntKind.wrap .u64 ((BitVec.ofInt (IntKind.bits .i64) ((h * 2 : Nat) : Int) ||| BitVec.ofInt (IntKind.bits .i64) (b : Int)).toNat : Int) = ((h * 2 + b : Nat) : Int) := e
    have h3 : (BitVec.ofInt (IntKind.bits .i64) ((h * 2 : Nat) : Int) ||| BitVec.ofInt (IntKind.bits .i64) (b : Int)).toNat < 2 ^ (IntKind.bits .i64) := BitVec.isLt _
    have h4 : (2 : Nat) ^ (IntKind.bits .i64) = 18446744073709551616 := by decide
    rw [h4] at h3
    rw [wrapU (by omega) (by omega)] at e2
    exact e2
  rw [h2, wrapI (by omega) (by omega)]
theorem sh_hi (B : Nat) : B / 18446744073709551616 * 2 + B % 18446744073709551616 / 9223372036854775808 = B * 2 / 18446744073709551616 := by omega
theorem sh_lo (B : Nat) : B % 18446744073709551616 * 2 % 18446744073709551616 = B * 2 % 18446744073709551616 := by omega
theorem sh_bit (B : Nat) : B % 18446744073709551616 / 9223372036854775808 < 2 := by omega
theorem sh_wrap (B : Nat) : IntKind.wrap .i64 ((B % 18446744073709551616 / 9223372036854775808 : Nat) : Int) = ((B % 18446744073709551616 / 9223372036854775808 : Nat) : Int) := by
  have := sh_bit B
  exact wrapI (by omega) (by omega)
theorem sh_cond (B : Nat) : decide (((B / 18446744073709551616 : Nat) : Int) ≥ 4611686018427387904) = decide (85070591730234615865843651857942052864 ≤ B) := by
  rw [Bool.eq_iff_iff, decide_eq_true_eq, decide_eq_true_eq]; omega
theorem pow_int {d : Nat} (hd : d ≤ 62) : IntKind.wrap .i64 ((1 : Int) * 2 ^ (min (Int.toNat (d : Int)) (IntKind.bits .i64))) = ((2 ^ d : Nat) : Int) := by
  have h1 : min (Int.toNat (d : Int)) (IntKind.bits .i64) = d := by
    show min (Int.toNat (d : Int)) 64 = d
    omega
  have h2 : (2 : Nat) ^ d ≤ 2 ^ 62 := Nat.pow_le_pow_right (by decide) hd
  have h3 : (2 : Nat) ^ 62 = 4611686018427387904 := by decide
  have h4 : ((2 : Int) ^ d) = ((2 ^ d : Nat) : Int) := by simp
  rw [h3] at h2
  rw [h1, Int.one_mul, h4]
  clear h4 h3 h1
  generalize (2 : Nat) ^ d = P at *
  exact wrapI (by omega) (by omega)
/- The other reading's sum and division. -/
theorem add_lo' {r x : Nat} (h : x ≤ r) : (((r % 18446744073709551616 : Nat) : Int) + (-(x : Int)) % 18446744073709551616 + 0) % 18446744073709551616 = (((r - x) % 18446744073709551616 : Nat) : Int) := by omega
theorem add_c0 (r x : Nat) : 0 ≤ (((r % 18446744073709551616 : Nat) : Int) + (-(x : Int)) % 18446744073709551616 + 0) / 18446744073709551616 := by omega
theorem add_c1 (r x : Nat) : (((r % 18446744073709551616 : Nat) : Int) + (-(x : Int)) % 18446744073709551616 + 0) / 18446744073709551616 ≤ 1 := by omega
theorem add_hi' {r x : Nat} (h : x ≤ r) (hr : r < 85070591730234615865843651857942052864) : IntKind.wrap .i64 ((IntKind.wrap .u64 ((r / 18446744073709551616 : Nat) : Int) + IntKind.wrap .u64 (-(x : Int) / 18446744073709551616) + (((r % 18446744073709551616 : Nat) : Int) + (-(x : Int)) % 18446744073709551616 + 0) / 18446744073709551616) % 18446744073709551616) = (((r - x) / 18446744073709551616 : Nat) : Int) := by
  rw [wrapI_, wrapU_, wrapU_]; omega
theorem add_ok {r x : Nat} (h : x ≤ r) : ((decide (((r / 18446744073709551616 : Nat) : Int) < 0) != decide (-(x : Int) / 18446744073709551616 < 0)) || (decide ((((r - x) / 18446744073709551616 : Nat) : Int) < 0) == decide (((r / 18446744073709551616 : Nat) : Int) < 0))) = true := by
  rw [show decide (((r / 18446744073709551616 : Nat) : Int) < 0) = false from decide_eq_false (by omega), show decide ((((r - x) / 18446744073709551616 : Nat) : Int) < 0) = false from decide_eq_false (by omega)]
  simp
theorem wrapU_nn (n : Int) : 0 ≤ IntKind.wrap .u64 n := by rw [wrapU_]; omega
theorem pow_intP {d P : Nat} (hd : d ≤ 62) (hP : P = 2 ^ d) : IntKind.wrap .i64 ((1 : Int) * 2 ^ (min (Int.toNat (d : Int)) (IntKind.bits .i64))) = (P : Int) := by rw [pow_int hd, hP]
theorem pow_pos_ {d P : Nat} (hP : P = 2 ^ d) : 0 < P := by rw [hP]; exact Nat.pow_pos (by decide)
theorem div_take {a b q r d P : Nat} (hP : P = 2 ^ d) (hb : 0 < b) (hbl : b < 170141183460469231731687303715884105728) (h : a = q * b + r) (hr : r < b * 2 ^ (d + 1)) (ha : a < 85070591730234615865843651857942052864)
    (hc : ((shR b d).2 && !decide (r < (shR b d).1)) = true) : shR b d = (b * P, true) ∧ b * P ≤ r ∧ a = (q + P) * b + (r - b * P) ∧ r - b * P < b * 2 ^ d ∧ q + P ≤ a / b ∧ r < 85070591730234615865843651857942052864 := by
  have hra : r < 85070591730234615865843651857942052864 := by omega
  have hs := shR_ok (k := d) hbl
  simp only [Bool.and_eq_true, Bool.not_eq_true', decide_eq_false_iff_not] at hc
  have hfit : b * 2 ^ d < 170141183460469231731687303715884105728 := by
    rcases Nat.lt_or_ge (b * 2 ^ d) 170141183460469231731687303715884105728 with h | h
    · exact h
    · rw [hs.2 h] at hc; exact absurd hc.1 (by decide)
  have e := hs.1 hfit
  rw [e] at hc
  have hle : b * 2 ^ d ≤ r := by have := hc.2; omega
  obtain ⟨s1, s2, s3⟩ := div_step hb h hr hle
  subst hP
  exact ⟨e, hle, s1, s2, s3, hra⟩
theorem div_skip {a b q r d : Nat} (hbl : b < 170141183460469231731687303715884105728) (h : a = q * b + r) (ha : a < 85070591730234615865843651857942052864)
    (hc : ((shR b d).2 && !decide (r < (shR b d).1)) = false) : r < b * 2 ^ d := by
  have hs := shR_ok (k := d) hbl
  rcases Nat.lt_or_ge (b * 2 ^ d) 170141183460469231731687303715884105728 with hf | hf
  · rw [hs.1 hf] at hc
    simp only [Bool.true_and, Bool.not_eq_false', decide_eq_true_eq] at hc
    exact hc
  · omega
theorem div_start {a b : Nat} (hb : 0 < b) (hq : a / b ≤ 4611686018427387904) : a < b * 2 ^ 63 := by
  have h1 := Nat.lt_mul_of_div_lt (show a / b < 4611686018427387905 by omega) hb
  have h2 : 4611686018427387905 * b ≤ 2 ^ 63 * b := Nat.mul_le_mul_right _ (by decide)
  rw [Nat.mul_comm b]; omega
theorem sBad_eq (t : Int) (l : List Int) : (decide (t < 0) || !rightN t || !(l.all rightN)) = sBad t l := by
  simp only [sBad, List.all_cons, List.all_nil, Bool.and_true]
end Go.Proofs.Ytfpicdhfoflcgaa
