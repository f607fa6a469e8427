/- Products and sums of wide numbers, and what a position has won, in plain terms. No condition. -/
import Derived.Test.YtopifbpibkpmmaaSpecA
namespace Go.Proofs.Ytopifbpibkpmmaa
open Go.RowKit
set_option linter.unusedVariables false
set_option linter.unusedSimpArgs false
theorem mask32 {x : Int} (h0 : 0 ≤ x) (h1 : x < 18446744073709551616) : IntKind.wrap .u64 (((BitVec.ofInt (IntKind.bits .u64) x &&& BitVec.ofInt (IntKind.bits .u64) 4294967295).toNat : Nat) : Int) = x % 4294967296 := by
 obtain ⟨n, rfl⟩ := Int.eq_ofNat_of_zero_le h0
 show IntKind.wrap .u64 (((BitVec.ofInt 64 (n : Int) &&& BitVec.ofInt 64 ((4294967295 : Nat) : Int)).toNat : Nat) : Int) = _
 rw [BitVec.ofInt_natCast, BitVec.ofInt_natCast, BitVec.toNat_and]
 have e : (BitVec.ofNat 64 n).toNat &&& (BitVec.ofNat 64 4294967295).toNat = n % 4294967296 := by
  rw [BitVec.toNat_ofNat, BitVec.toNat_ofNat, Nat.mod_eq_of_lt (by omega : n < 2 ^ 64), Nat.mod_eq_of_lt (by decide : 4294967295 < 2 ^ 64)]
  exact Nat.and_two_pow_sub_one_eq_mod n 32
 rw [e, IntKind.wrap_u64]
 omega
theorem shr32 {x : Int} (h0 : 0 ≤ x) : x.fdiv (2 ^ (min (Int.toNat 32) (IntKind.bits .u64))) = x / 4294967296 := by
 rw [show (2 : Int) ^ (min (Int.toNat 32) (IntKind.bits .u64)) = 4294967296 from by decide, Int.fdiv_eq_ediv_of_nonneg _ (by decide)]
def hi64 (x y : Int) : Int :=
 IntKind.wrap .u64 (IntKind.wrap .u64 (IntKind.wrap .u64 (x / 4294967296 * (y / 4294967296)) + IntKind.wrap .u64 (IntKind.wrap .u64 (x / 4294967296 * (y % 4294967296)) + IntKind.wrap .u64 (x % 4294967296 * (y % 4294967296)) / 4294967296) / 4294967296)
  + IntKind.wrap .u64 (IntKind.wrap .u64 (IntKind.wrap .u64 (x / 4294967296 * (y % 4294967296)) + IntKind.wrap .u64 (x % 4294967296 * (y % 4294967296)) / 4294967296) % 4294967296 + IntKind.wrap .u64 (x % 4294967296 * (y / 4294967296))) / 4294967296)
theorem mul_bd {a b : Int} (h0 : 0 ≤ a) (h1 : a < 4294967296) (k0 : 0 ≤ b) (k1 : b < 4294967296) : 0 ≤ a * b ∧ a * b ≤ 18446744065119617025 := by
 refine ⟨Int.mul_nonneg h0 k0, ?_⟩
 have : a * b ≤ 4294967295 * 4294967295 := Int.mul_le_mul (by omega) (by omega) k0 (by decide)
 omega
theorem hi64_eq {x y : Int} (h0 : 0 ≤ x) (h1 : x < 18446744073709551616) (k0 : 0 ≤ y) (k1 : y < 18446744073709551616) : hi64 x y = x * y / 18446744073709551616 := by
 have e : x * y = x / 4294967296 * (y / 4294967296) * 18446744073709551616 + (x / 4294967296 * (y % 4294967296) + x % 4294967296 * (y / 4294967296)) * 4294967296 + x % 4294967296 * (y % 4294967296) := by
  have hx : x = x / 4294967296 * 4294967296 + x % 4294967296 := by omega
  have hy : y = y / 4294967296 * 4294967296 + y % 4294967296 := by omega
  generalize x / 4294967296 = a at *
  generalize x % 4294967296 = b at *
  generalize y / 4294967296 = c at *
  generalize y % 4294967296 = d at *
  subst hx hy
  grind
 have A := mul_bd (a := x / 4294967296) (b := y / 4294967296) (by omega) (by omega) (by omega) (by omega)
 have B := mul_bd (a := x / 4294967296) (b := y % 4294967296) (by omega) (by omega) (by omega) (by omega)
 have C := mul_bd (a := x % 4294967296) (b := y / 4294967296) (by omega) (by omega) (by omega) (by omega)
 have E := mul_bd (a := x % 4294967296) (b := y % 4294967296) (by omega) (by omega) (by omega) (by omega)
 rw [e]
 unfold hi64
 generalize x / 4294967296 * (y / 4294967296) = p at *
 generalize x / 4294967296 * (y % 4294967296) = q at *
 generalize x % 4294967296 * (y / 4294967296) = r at *
 generalize x % 4294967296 * (y % 4294967296) = t at *
 clear e
 rw [wrapU (n := p) (by omega) (by omega), wrapU (n := q) (by omega) (by omega), wrapU (n := r) (by omega) (by omega), wrapU (n := t) (by omega) (by omega)]
 rw [wrapU (n := q + t / 4294967296) (by omega) (by omega)]
 rw [wrapU (n := (q + t / 4294967296) % 4294967296 + r) (by omega) (by omega)]
 rw [wrapU (n := p + (q + t / 4294967296) / 4294967296) (by omega) (by omega)]
 rw [wrapU (by omega) (by omega)]
 omega
theorem wideA_shr {n : Int} (h0 : -9223372036854775808 ≤ n) (h1 : n < 9223372036854775808) : wideA n = .ag [.d (iv (n.fdiv (2 ^ (min (Int.toNat 63) (IntKind.bits .i64))))), .d (.v (.int .u64 (IntKind.wrap .u64 n)))] := by
 rw [shr63 h0 h1, wideA, wrapU_]
 split
 ·rw [show n / 18446744073709551616 = -1 from by omega]
 ·rw [show n / 18446744073709551616 = 0 from by omega]
def timesHi (a b : Int) : Int :=
 let h := IntKind.wrap .u64 a * IntKind.wrap .u64 b / 18446744073709551616
 let h1 := if a < 0 then IntKind.wrap .u64 (h - IntKind.wrap .u64 b) else h
 if b < 0 then IntKind.wrap .u64 (h1 - IntKind.wrap .u64 a) else h1
theorem times_eq {a b : Int} (h0 : -9223372036854775808 ≤ a) (h1 : a < 9223372036854775808) (k0 : -9223372036854775808 ≤ b) (k1 : b < 9223372036854775808) :
  IntKind.wrap .i64 (timesHi a b) = a * b / 18446744073709551616 ∧ IntKind.wrap .u64 a * IntKind.wrap .u64 b % 18446744073709551616 = a * b % 18446744073709551616 := by
 have bd : -85070591730234615865843651857942052864 ≤ a * b ∧ a * b ≤ 85070591730234615865843651857942052864 := by
  have hab : (a * b).natAbs ≤ 9223372036854775808 * 9223372036854775808 := by
   rw [Int.natAbs_mul]; exact Nat.mul_le_mul (by omega) (by omega)
  omega
 have ua : IntKind.wrap .u64 a = a + (if a < 0 then 18446744073709551616 else 0) := by rw [wrapU_]; split <;> omega
 have ub : IntKind.wrap .u64 b = b + (if b < 0 then 18446744073709551616 else 0) := by rw [wrapU_]; split <;> omega
 unfold timesHi
 rw [ua, ub]
 by_cases ha : a < 0 <;> by_cases hb : b < 0 <;> simp only [ha, hb, if_true, if_false, Int.add_zero, wrapI_, wrapU_]
 ·rw [show (a + 18446744073709551616) * (b + 18446744073709551616) = a * b + (a + b + 18446744073709551616) * 18446744073709551616 from by grind]
  generalize a * b = p at *
  constructor <;> omega
 ·rw [show (a + 18446744073709551616) * b = a * b + b * 18446744073709551616 from by grind]
  generalize a * b = p at *
  constructor <;> omega
 ·rw [show a * (b + 18446744073709551616) = a * b + a * 18446744073709551616 from by grind]
  generalize a * b = p at *
  constructor <;> omega
 ·generalize a * b = p at *
  constructor
  ·clear ua ub
   have hq : -4611686018427387904 ≤ p / 18446744073709551616 ∧ p / 18446744073709551616 ≤ 4611686018427387904 := by omega
   generalize p / 18446744073709551616 = q at *
   omega
  ·trivial
theorem wu_lt (t : Int) : IntKind.wrap .u64 t < 18446744073709551616 := by rw [wrapU_]; omega
theorem int_law2 (t : Int) : ((!veqL [.int .i64 (t / 18446744073709551616), .int .u64 (t % 18446744073709551616)] [.int .i64 (IntKind.wrap .i64 (t % 18446744073709551616) / 18446744073709551616), .int .u64 (IntKind.wrap .i64 (t % 18446744073709551616) % 18446744073709551616)]) || !([IntKind.wrap .i64 (t % 18446744073709551616)].all rightN)) = !rightN t := by
 rw [Bool.eq_iff_iff]
 simp only [veqL, veq, rightN, List.all_cons, List.all_nil, Bool.or_eq_true, Bool.and_true, Bool.not_eq_true', Bool.not_eq_false', Bool.and_eq_false_iff, beq_eq_false_iff_ne, ne_eq, Bool.not_not, decide_eq_true_eq]
 rw [wrapI_]
 omega
def top3 (t : Int) : Int := topN t % 18446744073709551616
def worthBad (p : PosV) (m k : Int) : Bool := decide (p.qty < -1099511627776) || decide (p.qty > 1099511627776) || !([p.cost].all rightN) || decide (m < 1) || decide (m > 1024) || decide (k < 0) || decide (k > 1073741824)
def worthT (p : PosV) (m k : Int) : Int := m * p.qty * k + -p.cost * m
def worthV (p : PosV) (m k : Int) : Int := bif worthBad p m k then 0 else (bif rightN (worthT p m k) then worthT p m k else 0)
def worthE (p : PosV) (m k : Int) : Int := bif worthBad p m k then 3 else (bif rightN (worthT p m k) then 0 else 1)
theorem abs_mul {a b : Int} {x y : Nat} (h : a.natAbs ≤ x) (k : b.natAbs ≤ y) : (a * b).natAbs ≤ x * y := by
 rw [Int.natAbs_mul]; exact Nat.mul_le_mul h k
end Go.Proofs.Ytopifbpibkpmmaa
