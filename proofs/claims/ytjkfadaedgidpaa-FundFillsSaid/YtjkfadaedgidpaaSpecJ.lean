/- A sum in parts: numbers of 128 bits; what is right. In plain Lean. No condition. -/
import Derived.Test.YtjkfadaedgidpaaSpecM
namespace Go.Proofs.Ytjkfadaedgidpaa
open Go.RowKit
set_option linter.unusedVariables false
set_option linter.unusedSimpArgs false
def uV (n : Nat) : Value := .int .u64 (n : Int)
def uw (n : Nat) : D := .v (.int .u64 (n : Int))
def gC (a : Nat) : List D := [uw (a / 18446744073709551616), uw (a % 18446744073709551616)]
def gA (a : Nat) : AV := .ag [.d (uw (a / 18446744073709551616)), .d (uw (a % 18446744073709551616))]
theorem wu_id {n : Int} (h0 : 0 ≤ n) (h1 : n < 18446744073709551616) : IntKind.wrap .u64 n = n := wrapU h0 h1
theorem nat_or1 {x b : Nat} (hx : x % 2 = 0) (hb : b < 2) : x ||| b = x + b := by
 have h := Nat.shiftLeft_add_eq_or_of_lt (i := 1) (b := b) (by omega) (x / 2)
 rw [Nat.shiftLeft_eq] at h
 have e : x / 2 * 2 ^ 1 = x := by omega
 rw [e] at h; exact h.symm
theorem bv_or {x b : Nat} (hx : x % 2 = 0) (hb : b < 2) (h : x < 18446744073709551616) : IntKind.wrap .u64 ((BitVec.ofInt 64 (x : Int) ||| BitVec.ofInt 64 (b : Int)).toNat : Int) = ((x + b : Nat) : Int) := by
 have e1 : (BitVec.ofInt 64 (x : Int)).toNat = x := by rw [BitVec.toNat_ofInt]; omega
 have e2 : (BitVec.ofInt 64 (b : Int)).toNat = b := by rw [BitVec.toNat_ofInt]; omega
 rw [BitVec.toNat_or, e1, e2, nat_or1 hx hb]
 exact wu_id (by omega) (by omega)
theorem bv_and1 {x : Nat} (h : x < 18446744073709551616) : IntKind.wrap .u64 ((BitVec.ofInt 64 (x : Int) &&& BitVec.ofInt 64 (1 : Int)).toNat : Int) = ((x % 2 : Nat) : Int) := by
 have e1 : (BitVec.ofInt 64 (x : Int)).toNat = x := by rw [BitVec.toNat_ofInt]; omega
 have e2 : (BitVec.ofInt 64 (1 : Int)).toNat = 1 := rfl
 rw [BitVec.toNat_and, e1, e2, Nat.and_one_is_mod]
 exact wu_id (by omega) (by omega)
theorem wu_dbl (x : Nat) : IntKind.wrap .u64 ((x : Int) * 2) = ((x * 2 % 18446744073709551616 : Nat) : Int) := by rw [wrapU_]; omega
theorem bit_div (a k : Nat) : a / 2 ^ k = 2 * (a / 2 ^ (k + 1)) + (a / 2 ^ k) % 2 := by
 rw [Nat.pow_succ, ← Nat.div_div_eq_div_mul]; omega
theorem bit_hi (a k : Nat) (h : 64 ≤ k) : (a / 18446744073709551616 / 2 ^ (k % 64)) % 2 = (a / 2 ^ k) % 2 ∨ 128 ≤ k := by
 by_cases hk : k < 128
 ·left
  have e : k % 64 = k - 64 := by omega
  rw [e, Nat.div_div_eq_div_mul, show (18446744073709551616 : Nat) = 2 ^ 64 from rfl, ← Nat.pow_add, show 64 + (k - 64) = k by omega]
 ·right; omega
theorem bit_lo (a k : Nat) (h : k < 64) : (a % 18446744073709551616 / 2 ^ (k % 64)) % 2 = (a / 2 ^ k) % 2 := by
 have e : k % 64 = k := by omega
 rw [e]
 have h1 := Nat.testBit_mod_two_pow a 64 k
 simp only [Nat.testBit_eq_decide_div_mod_eq, h, decide_true, Bool.true_and] at h1
 have h2 : (a % 2 ^ 64 / 2 ^ k % 2 = 1) ↔ (a / 2 ^ k % 2 = 1) := by simpa using h1
 have : (18446744073709551616 : Nat) = 2 ^ 64 := rfl
 rw [this]
 omega
theorem quo_step {a b c : Nat} (hb : 0 < b) : (a / 2 ^ c) % b = (bif decide (b ≤ 2 * (a / 2 ^ (c + 1) % b) + a / 2 ^ c % 2) then 2 * (a / 2 ^ (c + 1) % b) + a / 2 ^ c % 2 - b else 2 * (a / 2 ^ (c + 1) % b) + a / 2 ^ c % 2) ∧
  (a / 2 ^ c) / b = 2 * (a / 2 ^ (c + 1) / b) + (bif decide (b ≤ 2 * (a / 2 ^ (c + 1) % b) + a / 2 ^ c % 2) then 1 else 0) := by
 have h1 := bit_div a c
 have h2 := Nat.div_add_mod (a / 2 ^ (c + 1)) b
 have h3 := Nat.mod_lt (a / 2 ^ (c + 1)) hb
 have ht : a / 2 ^ c % 2 < 2 := Nat.mod_lt _ (by decide)
 generalize a / 2 ^ (c + 1) = x at *
 generalize a / 2 ^ c % 2 = t at *
 generalize a / 2 ^ c = y at *
 generalize x / b = q at *
 generalize x % b = r at *
 by_cases hc : b ≤ 2 * r + t
 ·have := (Nat.div_mod_unique (a := y) (d := 2 * q + 1) (c := 2 * r + t - b) hb).2 ⟨by rw [Nat.mul_add, Nat.mul_left_comm, Nat.mul_one]; omega, by omega⟩
  simp only [hc, decide_true, cond_true]
  exact ⟨this.2, this.1⟩
 ·have := (Nat.div_mod_unique (a := y) (d := 2 * q) (c := 2 * r + t) hb).2 ⟨by rw [Nat.mul_left_comm]; omega, by omega⟩
  simp only [hc, decide_false, cond_false]
  exact ⟨this.2, this.1⟩
theorem sh64 (d : Nat) : IntKind.wrap .u64 ((d : Int).tmod 64) = ((d % 64 : Nat) : Int) := by
 rw [Int.tmod_eq_emod_of_nonneg (by omega), wrapU_]; omega
theorem nat_lt0 (n : Nat) : ((n : Int) < 0) = False := by simp
theorem min64 (d : Nat) : min (Int.toNat ((d % 64 : Nat) : Int)) (IntKind.bits .u64) = d % 64 := by
 show min (Int.toNat ((d % 64 : Nat) : Int)) 64 = d % 64
 omega
theorem shrN (x d : Nat) : ((x : Nat) : Int).fdiv (2 ^ (min (Int.toNat ((d % 64 : Nat) : Int)) (IntKind.bits .u64))) = ((x / 2 ^ (d % 64) : Nat) : Int) := by
 rw [min64, Int.fdiv_eq_ediv_of_nonneg _ (by exact_mod_cast Nat.zero_le (2 ^ (d % 64)))]
 simp
theorem andLo (a d : Nat) : IntKind.wrap .u64 ((BitVec.ofInt (IntKind.bits .u64) ((a % 18446744073709551616 / 2 ^ (d % 64) : Nat) : Int) &&& BitVec.ofInt (IntKind.bits .u64) 1).toNat : Int) = ((a % 18446744073709551616 / 2 ^ (d % 64) % 2 : Nat) : Int) :=
 bv_and1 (Nat.lt_of_le_of_lt (Nat.div_le_self _ _) (by omega))
theorem andHi (a d : Nat) (ha : a < 340282366920938463463374607431768211456) : IntKind.wrap .u64 ((BitVec.ofInt (IntKind.bits .u64) ((a / 18446744073709551616 / 2 ^ (d % 64) : Nat) : Int) &&& BitVec.ofInt (IntKind.bits .u64) 1).toNat : Int) = ((a / 18446744073709551616 / 2 ^ (d % 64) % 2 : Nat) : Int) :=
 bv_and1 (Nat.lt_of_le_of_lt (Nat.div_le_self _ _) (by omega))
theorem shl1 (x : Nat) : IntKind.wrap .u64 ((x : Int) * 2 ^ (min (Int.toNat 1) (IntKind.bits .u64))) = ((x * 2 % 18446744073709551616 : Nat) : Int) := wu_dbl x
theorem shr63n (x : Nat) : ((x : Nat) : Int).fdiv (2 ^ (min (Int.toNat 63) (IntKind.bits .u64))) = ((x / 9223372036854775808 : Nat) : Int) := by
 rw [show (2 : Int) ^ (min (Int.toNat 63) (IntKind.bits .u64)) = 9223372036854775808 from by decide, Int.fdiv_eq_ediv_of_nonneg _ (by decide)]; omega
theorem orHi {x : Nat} (h : x < 9444732965739290427392) : IntKind.wrap .u64 ((BitVec.ofInt (IntKind.bits .u64) ((x / 18446744073709551616 * 2 % 18446744073709551616 : Nat) : Int) ||| BitVec.ofInt (IntKind.bits .u64) ((x % 18446744073709551616 / 9223372036854775808 : Nat) : Int)).toNat : Int) = ((2 * x / 18446744073709551616 : Nat) : Int) := by
 have e := bv_or (x := x / 18446744073709551616 * 2 % 18446744073709551616) (b := x % 18446744073709551616 / 9223372036854775808) (by omega) (by omega) (by omega)
 refine e.trans ?_
 congr 1; omega
theorem orLo (x : Nat) {t : Nat} (ht : t < 2) : IntKind.wrap .u64 ((BitVec.ofInt (IntKind.bits .u64) ((x % 18446744073709551616 * 2 % 18446744073709551616 : Nat) : Int) ||| BitVec.ofInt (IntKind.bits .u64) (t : Int)).toNat : Int) = (((2 * x + t) % 18446744073709551616 : Nat) : Int) := by
 have e := bv_or (x := x % 18446744073709551616 * 2 % 18446744073709551616) (b := t) (by omega) ht (by omega)
 refine e.trans ?_
 congr 1; omega
theorem hi_t (x : Nat) {t : Nat} (ht : t < 2) : 2 * x / 18446744073709551616 = (2 * x + t) / 18446744073709551616 := by omega
theorem or1 (q : Nat) : IntKind.wrap .u64 ((BitVec.ofInt (IntKind.bits .u64) ((q % 18446744073709551616 * 2 % 18446744073709551616 : Nat) : Int) ||| BitVec.ofInt (IntKind.bits .u64) 1).toNat : Int) = (((2 * q + 1) % 18446744073709551616 : Nat) : Int) := orLo q (t := 1) (by decide)
def cmpI (a b : Int) : Int := bif decide (a < b) then -1 else bif decide (a > b) then 1 else 0
def orI : List Int → Int
 | [] => 0
 | x :: xs => bif x != 0 then x else orI xs
def cmpG (a b : Nat) : Int := cmpI (a : Int) (b : Int)
theorem cmpG_eq (a b : Nat) : orI [cmpI ((a / 18446744073709551616 : Nat) : Int) ((b / 18446744073709551616 : Nat) : Int), cmpI ((a % 18446744073709551616 : Nat) : Int) ((b % 18446744073709551616 : Nat) : Int)] = cmpG a b := by
 have e : ∀ x y : Int, cmpI x y = if x < y then -1 else if x > y then 1 else 0 := fun x y => by
  simp only [cmpI]; by_cases h : x < y <;> by_cases k : x > y <;> simp [h, k]
 simp only [orI, cmpG, e]
 by_cases h1 : ((a / 18446744073709551616 : Nat) : Int) < ((b / 18446744073709551616 : Nat) : Int)
 ·rw [if_pos h1, if_pos (show (a : Int) < b by omega)]; rfl
 ·rw [if_neg h1]
  by_cases h2 : ((a / 18446744073709551616 : Nat) : Int) > ((b / 18446744073709551616 : Nat) : Int)
  ·rw [if_pos h2, if_neg (show ¬ (a : Int) < b by omega), if_pos (show (a : Int) > b by omega)]; rfl
  ·rw [if_neg h2]
   by_cases h3 : ((a % 18446744073709551616 : Nat) : Int) < ((b % 18446744073709551616 : Nat) : Int)
   ·rw [if_pos h3, if_pos (show (a : Int) < b by omega)]; rfl
   ·rw [if_neg h3]
    by_cases h4 : ((a % 18446744073709551616 : Nat) : Int) > ((b % 18446744073709551616 : Nat) : Int)
    ·rw [if_pos h4, if_neg (show ¬ (a : Int) < b by omega), if_pos (show (a : Int) > b by omega)]; rfl
    ·rw [if_neg h4, if_neg (show ¬ (a : Int) < b by omega), if_neg (show ¬ (a : Int) > b by omega)]; rfl
theorem cmpG_ge {a b : Nat} : decide (cmpG a b ≥ 0) = decide (b ≤ a) := by
 simp only [cmpG, cmpI]
 by_cases h : (a : Int) < b <;> by_cases k : (a : Int) > b <;> simp [h, k] <;> omega
theorem plus_hi {a n : Nat} (h : a + n < 340282366920938463463374607431768211456) (hn : n < 18446744073709551616) : IntKind.wrap .u64 (((a / 18446744073709551616 : Nat) : Int) + (((a % 18446744073709551616 : Nat) : Int) + (n : Int) + 0) / 18446744073709551616) = (((a + n) / 18446744073709551616 : Nat) : Int) := by
 rw [wrapU_]; omega
theorem plus_lo (a n : Nat) : (((a % 18446744073709551616 : Nat) : Int) + (n : Int) + 0) % 18446744073709551616 = (((a + n) % 18446744073709551616 : Nat) : Int) := by omega
theorem less_hi {a b : Nat} (h : b ≤ a) (ha : a < 340282366920938463463374607431768211456) : (a / 18446744073709551616 + 18446744073709551616 - b / 18446744073709551616 - (if a % 18446744073709551616 < b % 18446744073709551616 + 0 then 1 else 0)) % 18446744073709551616 = (a - b) / 18446744073709551616 := by
 split <;> omega
theorem less_lo {a b : Nat} (h : b ≤ a) : (a % 18446744073709551616 + 18446744073709551616 - b % 18446744073709551616 - 0) % 18446744073709551616 = (a - b) % 18446744073709551616 := by omega
def sBad (t : Int) (l : List Int) : Bool := (decide (t < 0) || !([t].all rightN)) || !(l.all rightN)
def ngI (n : Int) : Bool := decide (n < 0)
def sRE (t : Int) (l : List Int) : Int := bif sBad t l then 3 else bif l.any ngI then 3 else bif decide ((l.length : Int) > 1024) then 5 else 0
def mi (c t : Int) : Int := if t < c then t else c
def gPart (t : Int) : List Int → List Int
 | [] => []
 | c :: l => mi c t :: gPart (t - mi c t) l
def gLeft (t : Int) : List Int → Int
 | [] => t
 | c :: l => gLeft (t - mi c t) l
def gV (t : Int) (l : List Int) : List Int := bif sRE t l == 0 then gPart t l else []
def gR (t : Int) (l : List Int) : Int := bif sRE t l == 0 then gLeft t l else 0
theorem sRE_ok {t : Int} {l : List Int} (h : sRE t l = 0) : (0 ≤ t ∧ t ≤ 4611686018427387904) ∧ (∀ x ∈ l, 0 ≤ x ∧ x ≤ 4611686018427387904) ∧ l.length ≤ 1024 := by
 simp only [sRE] at h
 cases h1 : sBad t l with
 | true => rw [h1] at h; simp at h
 | false =>
  cases h2 : l.any ngI with
  | true => rw [h1, h2] at h; simp at h
  | false =>
   cases h3 : decide ((l.length : Int) > 1024) with
   | true => rw [h1, h2, h3] at h; simp at h
   | false =>
    simp only [sBad, Bool.or_eq_false_iff, Bool.not_eq_false', List.all_eq_true, decide_eq_false_iff_not] at h1
    have ht := h1.1.2 t (by simp)
    simp [rightN] at ht
    refine ⟨by omega, fun x hx => ?_, by have := of_decide_eq_false h3; omega⟩
    have hr := h1.2 x hx
    simp [rightN] at hr
    have hn := List.any_eq_false.1 h2 x hx
    simp [ngI] at hn
    omega
end Go.Proofs.Ytjkfadaedgidpaa
