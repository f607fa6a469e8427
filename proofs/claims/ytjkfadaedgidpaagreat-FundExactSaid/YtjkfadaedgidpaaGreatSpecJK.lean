/- A sum in parts: numbers of 128 bits; what is right. In plain Lean. No condition. -/
import Derived.Test.YtjkfadaedgidpaaGreatSpecM
import Derived.Test.YtjkfadaedgidpaaGreatSort
namespace Go.Proofs.YtjkfadaedgidpaaGreat
open Go.RowKit
set_option linter.unusedVariables false
set_option linter.unusedSimpArgs false
def uV (n : Nat) : Value := .int .u64 (n : Int)
def uw (n : Nat) : D := .v (.int .u64 (n : Int))
def gC (a : Nat) : List D := [uw (a / 18446744073709551616), uw (a % 18446744073709551616)]
def gA (a : Nat) : AV := .ag [.d (uw (a / 18446744073709551616)), .d (uw (a % 18446744073709551616))]
theorem wu_id {n : Int} (h0 : 0 ≤ n) (h1 : n < 18446744073709551616) : IntKind.wrap .u64 n = n := wrapU h0 h1
theorem nat_or1 {x b : Nat} (hx : x % 2 = 0) (hb : b < 2) : x ||| b = x + b := by
 have h := Nat.shiftLeft_add_eq_or_of_lt (i := 1) (b := b) (by omega) (x / 2)
 rw [Nat.shiftLeft_eq] at h
 have e : x / 2 * 2 ^ 1 = x := by omega
 rw [e] at h; exact h.symm
theorem bv_or {x b : Nat} (hx : x % 2 = 0) (hb : b < 2) (h : x < 18446744073709551616) : IntKind.wrap .u64 ((BitVec.ofInt 64 (x : Int) ||| BitVec.ofInt 64 (b : Int)).toNat : Int) = ((x + b : Nat) : Int) := by
 have e1 : (BitVec.ofInt 64 (x : Int)).toNat = x := by rw [BitVec.toNat_ofInt]; omega
 have e2 : (BitVec.ofInt 64 (b : Int)).toNat = b := by rw [BitVec.toNat_ofInt]; omega
 rw [BitVec.toNat_or, e1, e2, nat_or1 hx hb]
 exact wu_id (by omega) (by omega)
theorem bv_and1 {x : Nat} (h : x < 18446744073709551616) : IntKind.wrap .u64 ((BitVec.ofInt 64 (x : Int) &&& BitVec.ofInt 64 (1 : Int)).toNat : Int) = ((x % 2 : Nat) : Int) := by
 have e1 : (BitVec.ofInt 64 (x : Int)).toNat = x := by rw [BitVec.toNat_ofInt]; omega
 have e2 : (BitVec.ofInt 64 (1 : Int)).toNat = 1 := rfl
 rw [BitVec.toNat_and, e1, e2, Nat.and_one_is_mod]
 exact wu_id (by omega) (by omega)
theorem wu_dbl (x : Nat) : IntKind.wrap .u64 ((x : Int) * 2) = ((x * 2 % 18446744073709551616 : Nat) : Int) := by rw [wrapU_]; omega
theorem bit_div (a k : Nat) : a / 2 ^ k = 2 * (a / 2 ^ (k + 1)) + (a / 2 ^ k) % 2 := by
 rw [Nat.pow_succ, ← Nat.div_div_eq_div_mul]; omega
theorem bit_hi (a k : Nat) (h : 64 ≤ k) : (a / 18446744073709551616 / 2 ^ (k % 64)) % 2 = (a / 2 ^ k) % 2 ∨ 128 ≤ k := by
 by_cases hk : k < 128
 ·left
  have e : k % 64 = k - 64 := by omega
  rw [e, Nat.div_div_eq_div_mul, show (18446744073709551616 : Nat) = 2 ^ 64 from rfl, ← Nat.pow_add, show 64 + (k - 64) = k by omega]
 ·right; omega
theorem bit_lo (a k : Nat) (h : k < 64) : (a % 18446744073709551616 / 2 ^ (k % 64)) % 2 = (a / 2 ^ k) % 2 := by
 have e : k % 64 = k := by omega
 rw [e]
 have h1 := Nat.testBit_mod_two_pow a 64 k
 simp only [Nat.testBit_eq_decide_div_mod_eq, h, decide_true, Bool.true_and] at h1
 have h2 : (a % 2 ^ 64 / 2 ^ k % 2 = 1) ↔ (a / 2 ^ k % 2 = 1) := by simpa using h1
 have : (18446744073709551616 : Nat) = 2 ^ 64 := rfl
 rw [this]
 omega
theorem quo_step {a b c : Nat} (hb : 0 < b) : (a / 2 ^ c) % b = (bif decide (b ≤ 2 * (a / 2 ^ (c + 1) % b) + a / 2 ^ c % 2) then 2 * (a / 2 ^ (c + 1) % b) + a / 2 ^ c % 2 - b else 2 * (a / 2 ^ (c + 1) % b) + a / 2 ^ c % 2) ∧
  (a / 2 ^ c) / b = 2 * (a / 2 ^ (c + 1) / b) + (bif decide (b ≤ 2 * (a / 2 ^ (c + 1) % b) + a / 2 ^ c % 2) then 1 else 0) := by
 have h1 := bit_div a c
 have h2 := Nat.div_add_mod (a / 2 ^ (c + 1)) b
 have h3 := Nat.mod_lt (a / 2 ^ (c + 1)) hb
 have ht : a / 2 ^ c % 2 < 2 := Nat.mod_lt _ (by decide)
 generalize a / 2 ^ (c + 1) = x at *
 generalize a / 2 ^ c % 2 = t at *
 generalize a / 2 ^ c = y at *
 generalize x / b = q at *
 generalize x % b = r at *
 by_cases hc : b ≤ 2 * r + t
 ·have := (Nat.div_mod_unique (a := y) (d := 2 * q + 1) (c := 2 * r + t - b) hb).2 ⟨by rw [Nat.mul_add, Nat.mul_left_comm, Nat.mul_one]; omega, by omega⟩
  simp only [hc, decide_true, cond_true]
  exact ⟨this.2, this.1⟩
 ·have := (Nat.div_mod_unique (a := y) (d := 2 * q) (c := 2 * r + t) hb).2 ⟨by rw [Nat.mul_left_comm]; omega, by omega⟩
  simp only [hc, decide_false, cond_false]
  exact ⟨this.2, this.1⟩
theorem sh64 (d : Nat) : IntKind.wrap .u64 ((d : Int).tmod 64) = ((d % 64 : Nat) : Int) := by
 rw [Int.tmod_eq_emod_of_nonneg (by omega), wrapU_]; omega
theorem nat_lt0 (n : Nat) : ((n : Int) < 0) = False := by simp
theorem min64 (d : Nat) : min (Int.toNat ((d % 64 : Nat) : Int)) (IntKind.bits .u64) = d % 64 := by
 show min (Int.toNat ((d % 64 : Nat) : Int)) 64 = d % 64
 omega
theorem shrN (x d : Nat) : ((x : Nat) : Int).fdiv (2 ^ (min (Int.toNat ((d % 64 : Nat) : Int)) (IntKind.bits .u64))) = ((x / 2 ^ (d % 64) : Nat) : Int) := by
 rw [min64, Int.fdiv_eq_ediv_of_nonneg _ (by exact_mod_cast Nat.zero_le (2 ^ (d % 64)))]
 simp
theorem andLo (a d : Nat) : IntKind.wrap .u64 ((BitVec.ofInt (IntKind.bits .u64) ((a % 18446744073709551616 / 2 ^ (d % 64) : Nat) : Int) &&& BitVec.ofInt (IntKind.bits .u64) 1).toNat : Int) = ((a % 18446744073709551616 / 2 ^ (d % 64) % 2 : Nat) : Int) :=
 bv_and1 (Nat.lt_of_le_of_lt (Nat.div_le_self _ _) (by omega))
theorem andHi (a d : Nat) (ha : a < 340282366920938463463374607431768211456) : IntKind.wrap .u64 ((BitVec.ofInt (IntKind.bits .u64) ((a / 18446744073709551616 / 2 ^ (d % 64) : Nat) : Int) &&& BitVec.ofInt (IntKind.bits .u64) 1).toNat : Int) = ((a / 18446744073709551616 / 2 ^ (d % 64) % 2 : Nat) : Int) :=
 bv_and1 (Nat.lt_of_le_of_lt (Nat.div_le_self _ _) (by omega))
theorem shl1 (x : Nat) : IntKind.wrap .u64 ((x : Int) * 2 ^ (min (Int.toNat 1) (IntKind.bits .u64))) = ((x * 2 % 18446744073709551616 : Nat) : Int) := wu_dbl x
theorem shr63n (x : Nat) : ((x : Nat) : Int).fdiv (2 ^ (min (Int.toNat 63) (IntKind.bits .u64))) = ((x / 9223372036854775808 : Nat) : Int) := by
 rw [show (2 : Int) ^ (min (Int.toNat 63) (IntKind.bits .u64)) = 9223372036854775808 from by decide, Int.fdiv_eq_ediv_of_nonneg _ (by decide)]; omega
theorem orHi {x : Nat} (h : x < 9444732965739290427392) : IntKind.wrap .u64 ((BitVec.ofInt (IntKind.bits .u64) ((x / 18446744073709551616 * 2 % 18446744073709551616 : Nat) : Int) ||| BitVec.ofInt (IntKind.bits .u64) ((x % 18446744073709551616 / 9223372036854775808 : Nat) : Int)).toNat : Int) = ((2 * x / 18446744073709551616 : Nat) : Int) := by
 have e := bv_or (x := x / 18446744073709551616 * 2 % 18446744073709551616) (b := x % 18446744073709551616 / 9223372036854775808) (by omega) (by omega) (by omega)
 refine e.trans ?_
 congr 1; omega
theorem orLo (x : Nat) {t : Nat} (ht : t < 2) : IntKind.wrap .u64 ((BitVec.ofInt (IntKind.bits .u64) ((x % 18446744073709551616 * 2 % 18446744073709551616 : Nat) : Int) ||| BitVec.ofInt (IntKind.bits .u64) (t : Int)).toNat : Int) = (((2 * x + t) % 18446744073709551616 : Nat) : Int) := by
 have e := bv_or (x := x % 18446744073709551616 * 2 % 18446744073709551616) (b := t) (by omega) ht (by omega)
 refine e.trans ?_
 congr 1; omega
theorem hi_t (x : Nat) {t : Nat} (ht : t < 2) : 2 * x / 18446744073709551616 = (2 * x + t) / 18446744073709551616 := by omega
theorem or1 (q : Nat) : IntKind.wrap .u64 ((BitVec.ofInt (IntKind.bits .u64) ((q % 18446744073709551616 * 2 % 18446744073709551616 : Nat) : Int) ||| BitVec.ofInt (IntKind.bits .u64) 1).toNat : Int) = (((2 * q + 1) % 18446744073709551616 : Nat) : Int) := orLo q (t := 1) (by decide)
def cmpI (a b : Int) : Int := bif decide (a < b) then -1 else bif decide (a > b) then 1 else 0
def orI : List Int → Int
 | [] => 0
 | x :: xs => bif x != 0 then x else orI xs
def cmpG (a b : Nat) : Int := cmpI (a : Int) (b : Int)
theorem cmpG_eq (a b : Nat) : orI [cmpI ((a / 18446744073709551616 : Nat) : Int) ((b / 18446744073709551616 : Nat) : Int), cmpI ((a % 18446744073709551616 : Nat) : Int) ((b % 18446744073709551616 : Nat) : Int)] = cmpG a b := by
 have e : ∀ x y : Int, cmpI x y = if x < y then -1 else if x > y then 1 else 0 := fun x y => by
  simp only [cmpI]; by_cases h : x < y <;> by_cases k : x > y <;> simp [h, k]
 simp only [orI, cmpG, e]
 by_cases h1 : ((a / 18446744073709551616 : Nat) : Int) < ((b / 18446744073709551616 : Nat) : Int)
 ·rw [if_pos h1, if_pos (show (a : Int) < b by omega)]; rfl
 ·rw [if_neg h1]
  by_cases h2 : ((a / 18446744073709551616 : Nat) : Int) > ((b / 18446744073709551616 : Nat) : Int)
  ·rw [if_pos h2, if_neg (show ¬ (a : Int) < b by omega), if_pos (show (a : Int) > b by omega)]; rfl
  ·rw [if_neg h2]
   by_cases h3 : ((a % 18446744073709551616 : Nat) : Int) < ((b % 18446744073709551616 : Nat) : Int)
   ·rw [if_pos h3, if_pos (show (a : Int) < b by omega)]; rfl
   ·rw [if_neg h3]
    by_cases h4 : ((a % 18446744073709551616 : Nat) : Int) > ((b % 18446744073709551616 : Nat) : Int)
    ·rw [if_pos h4, if_neg (show ¬ (a : Int) < b by omega), if_pos (show (a : Int) > b by omega)]; rfl
    ·rw [if_neg h4, if_neg (show ¬ (a : Int) < b by omega), if_neg (show ¬ (a : Int) > b by omega)]; rfl
theorem cmpG_ge {a b : Nat} : decide (cmpG a b ≥ 0) = decide (b ≤ a) := by
 simp only [cmpG, cmpI]
 by_cases h : (a : Int) < b <;> by_cases k : (a : Int) > b <;> simp [h, k] <;> omega
theorem plus_hi {a n : Nat} (h : a + n < 340282366920938463463374607431768211456) (hn : n < 18446744073709551616) : IntKind.wrap .u64 (((a / 18446744073709551616 : Nat) : Int) + (((a % 18446744073709551616 : Nat) : Int) + (n : Int) + 0) / 18446744073709551616) = (((a + n) / 18446744073709551616 : Nat) : Int) := by
 rw [wrapU_]; omega
theorem plus_lo (a n : Nat) : (((a % 18446744073709551616 : Nat) : Int) + (n : Int) + 0) % 18446744073709551616 = (((a + n) % 18446744073709551616 : Nat) : Int) := by omega
theorem less_hi {a b : Nat} (h : b ≤ a) (ha : a < 340282366920938463463374607431768211456) : (a / 18446744073709551616 + 18446744073709551616 - b / 18446744073709551616 - (if a % 18446744073709551616 < b % 18446744073709551616 + 0 then 1 else 0)) % 18446744073709551616 = (a - b) / 18446744073709551616 := by
 split <;> omega
theorem less_lo {a b : Nat} (h : b ≤ a) : (a % 18446744073709551616 + 18446744073709551616 - b % 18446744073709551616 - 0) % 18446744073709551616 = (a - b) % 18446744073709551616 := by omega
def sBad (t : Int) (l : List Int) : Bool := (decide (t < 0) || !([t].all rightN)) || !(l.all rightN)
def ngI (n : Int) : Bool := decide (n < 0)
def sRE (t : Int) (l : List Int) : Int := bif sBad t l then 3 else bif l.any ngI then 3 else bif decide ((l.length : Int) > 1024) then 5 else 0
def mi (c t : Int) : Int := if t < c then t else c
def gPart (t : Int) : List Int → List Int
 | [] => []
 | c :: l => mi c t :: gPart (t - mi c t) l
def gLeft (t : Int) : List Int → Int
 | [] => t
 | c :: l => gLeft (t - mi c t) l
def gV (t : Int) (l : List Int) : List Int := bif sRE t l == 0 then gPart t l else []
def gR (t : Int) (l : List Int) : Int := bif sRE t l == 0 then gLeft t l else 0
theorem sRE_ok {t : Int} {l : List Int} (h : sRE t l = 0) : (0 ≤ t ∧ t ≤ 4611686018427387904) ∧ (∀ x ∈ l, 0 ≤ x ∧ x ≤ 4611686018427387904) ∧ l.length ≤ 1024 := by
 simp only [sRE] at h
 cases h1 : sBad t l with
 | true => rw [h1] at h; simp at h
 | false =>
  cases h2 : l.any ngI with
  | true => rw [h1, h2] at h; simp at h
  | false =>
   cases h3 : decide ((l.length : Int) > 1024) with
   | true => rw [h1, h2, h3] at h; simp at h
   | false =>
    simp only [sBad, Bool.or_eq_false_iff, Bool.not_eq_false', List.all_eq_true, decide_eq_false_iff_not] at h1
    have ht := h1.1.2 t (by simp)
    simp [rightN] at ht
    refine ⟨by omega, fun x hx => ?_, by have := of_decide_eq_false h3; omega⟩
    have hr := h1.2 x hx
    simp [rightN] at hr
    have hn := List.any_eq_false.1 h2 x hx
    simp [ngI] at hn
    omega
end Go.Proofs.YtjkfadaedgidpaaGreat
namespace Go.Proofs.YtjkfadaedgidpaaGreat
open Go.RowKit
set_option linter.unusedVariables false
set_option linter.unusedSimpArgs false
structure RestV where
 r : Nat
 at_ : Nat
def restC (x : RestV) : List D := [uw (x.r / 18446744073709551616), uw (x.r % 18446744073709551616), iv (x.at_ : Int)]
def restD : List D → RestV
 | [.v (.int _ h), .v (.int _ l), .v (.int _ a)] => ⟨h.toNat * 18446744073709551616 + l.toNat, a.toNat⟩
 | _ => ⟨0, 0⟩
theorem restD_C (x : RestV) : restD (restC x) = x := by
 obtain ⟨r, a⟩ := x
 simp only [restC, restD, uw, iv, Int.toNat_natCast]
 congr 1; omega
def isRest (x : List D) : Prop := ∃ b, x = restC b
theorem okM_rests (l : List RestV) : okM isRest (l.map restC) := fun e he => by
 obtain ⟨b, _, rfl⟩ := List.mem_map.1 he
 exact ⟨b, rfl⟩
def restLt (a b : RestV) : Bool := decide (cmpG b.r a.r < 0)
theorem cmpG_lt {a b : Nat} : cmpG a b < 0 ↔ a < b := by
 simp only [cmpG, cmpI]
 by_cases h : (a : Int) < b <;> by_cases k : (a : Int) > b <;> simp [h, k] <;> omega
theorem restLt_iff {a b : RestV} : restLt a b = true ↔ b.r < a.r := by rw [restLt, decide_eq_true_iff]; exact cmpG_lt
theorem restLt_swo : Swo restLt where
 asym a b h := by
  have h := restLt_iff.1 h
  cases h2 : restLt b a with
  | false => rfl
  | true => have h2 := restLt_iff.1 h2; omega
 tr a b c h1 h2 := by
  cases h3 : restLt c a with
  | false => rfl
  | true =>
   exfalso
   have h3 := restLt_iff.1 h3
   have h1 : ¬ a.r < b.r := fun h => by rw [restLt_iff.2 h] at h1; cases h1
   have h2 : ¬ b.r < c.r := fun h => by rw [restLt_iff.2 h] at h2; cases h2
   omega
def restCmp (x y : List D) : Int := cmpG (restD y).r (restD x).r
theorem restCmp_swo : Swo (ltc restCmp) where
 asym a b h := restLt_swo.asym (restD a) (restD b) h
 tr a b c h1 h2 := restLt_swo.tr (restD a) (restD b) (restD c) h1 h2
theorem isort_mapR {α β : Type} (f : α → β) {lt : α → α → Bool} {lt' : β → β → Bool} (h : ∀ a b, lt' (f a) (f b) = lt a b) (l : List α) : isort lt' (l.map f) = (isort lt l).map f := by
 have ins : ∀ (x : α) (l : List α), insX lt' (f x) (l.map f) = (insX lt x l).map f := by
  intro x l
  induction l with
  | nil => rfl
  | cons y l ih =>
   simp only [List.map_cons, insX, h]
   cases lt x y with
   | true => rfl
   | false => simp [ih]
 have aux : ∀ (l acc : List α), isortA lt' (acc.map f) (l.map f) = (isortA lt acc l).map f := by
  intro l
  induction l with
  | nil => intro acc; rfl
  | cons x l ih => intro acc; simp only [List.map_cons, isortA, ins, ih]
 exact aux l []
def restOrder (l : List RestV) : List RestV := isort restLt l
theorem sort_rests (l : List RestV) : isort (ltc restCmp) (l.map restC) = (restOrder l).map restC :=
 isort_mapR restC (fun a b => by simp only [ltc, restCmp, restD_C, restLt]) l
def sN (l : List Int) : Nat := (l.map Int.toNat).sum
def qsV (T S : Nat) (l : List Int) : List Int := l.map fun w => ((T * w.toNat / S : Nat) : Int)
def rsV (T S : Nat) (l : List Int) : List RestV := l.zipIdx.map fun p => ⟨T * p.1.toNat % S, p.2⟩
def leftV (T S : Nat) (l : List Int) : Int := (T : Int) - (qsV T S l).sum
theorem sN_snoc (l : List Int) (x : Int) : sN (l ++ [x]) = sN l + x.toNat := by simp [sN]
theorem qsV_snoc (T S : Nat) (l : List Int) (x : Int) : qsV T S (l ++ [x]) = qsV T S l ++ [((T * x.toNat / S : Nat) : Int)] := by simp [qsV]
theorem rsV_snoc (T S : Nat) (l : List Int) (x : Int) : rsV T S (l ++ [x]) = rsV T S l ++ [⟨T * x.toNat % S, l.length⟩] := by simp [rsV, List.zipIdx_append]
theorem qsV_len (T S : Nat) (l : List Int) : (qsV T S l).length = l.length := by simp [qsV]
theorem rsV_len (T S : Nat) (l : List Int) : (rsV T S l).length = l.length := by simp [rsV]
theorem leftV_snoc (T S : Nat) (l : List Int) (x : Int) : leftV T S (l ++ [x]) = leftV T S l - ((T * x.toNat / S : Nat) : Int) := by
 simp only [leftV, qsV_snoc, List.sum_append, List.sum_cons, List.sum_nil]; omega
def rSum (T S : Nat) (l : List Int) : Nat := (l.map fun w => T * w.toNat % S).sum
theorem left_sum {T S : Nat} : ∀ l : List Int, (S : Int) * (qsV T S l).sum + (rSum T S l : Int) = (T : Int) * (sN l : Int)
 | [] => by simp [qsV, rSum, sN]
 | w :: l => by
  have ih := left_sum (T := T) (S := S) l
  have e := Nat.div_add_mod (T * w.toNat) S
  have e : (S : Int) * ((T * w.toNat / S : Nat) : Int) + ((T * w.toNat % S : Nat) : Int) = (T : Int) * (w.toNat : Int) := by exact_mod_cast e
  simp only [qsV, rSum, sN, List.map_cons, List.sum_cons] at ih ⊢
  rw [Int.mul_add, Int.natCast_add, Int.natCast_add, Int.mul_add]
  omega
theorem rSum_le {T S : Nat} (hS : 0 < S) : ∀ l : List Int, rSum T S l ≤ l.length * (S - 1)
 | [] => by simp [rSum]
 | w :: l => by
  have ih := rSum_le (T := T) hS l
  have := Nat.mod_lt (T * w.toNat) hS
  simp only [rSum, List.map_cons, List.sum_cons, List.length_cons, Nat.add_mul, Nat.one_mul] at ih ⊢
  omega
theorem left_bnd {T : Nat} {l : List Int} (hS : 0 < sN l) : 0 ≤ leftV T (sN l) l ∧ leftV T (sN l) l ≤ l.length := by
 have h1 := left_sum (T := T) (S := sN l) l
 have h2 := rSum_le (T := T) hS l
 have h3 : (sN l : Int) * leftV T (sN l) l = (rSum T (sN l) l : Int) := by
  simp only [leftV, Int.mul_sub]
  rw [Int.mul_comm (sN l : Int) (T : Int)]; omega
 have hS' : (0 : Int) < (sN l : Int) := by omega
 refine ⟨?_, ?_⟩
 ·have : 0 ≤ (sN l : Int) * leftV T (sN l) l := by rw [h3]; omega
  exact Int.nonneg_of_mul_nonneg_right this hS' |> fun h => h
 ·have h4 : rSum T (sN l) l ≤ l.length * sN l := Nat.le_trans h2 (Nat.mul_le_mul_left _ (by omega))
  have h5 : (sN l : Int) * leftV T (sN l) l ≤ (sN l : Int) * (l.length : Int) := by
   rw [h3, Int.mul_comm]; exact_mod_cast h4
  exact Int.le_of_mul_le_mul_left h5 hS'
theorem qs_nn (T S : Nat) : ∀ l : List Int, 0 ≤ (qsV T S l).sum
 | [] => by simp [qsV]
 | w :: l => by
  have := qs_nn T S l
  have h2 : 0 ≤ ((T * w.toNat / S : Nat) : Int) := Int.natCast_nonneg _
  simp only [qsV, List.map_cons, List.sum_cons] at this ⊢
  exact Int.add_nonneg h2 this
theorem left_pre (T S : Nat) (a b : List Int) : leftV T S (a ++ b) ≤ leftV T S a ∧ leftV T S a ≤ T := by
 have h1 := qs_nn T S a
 have h2 := qs_nn T S b
 have e : (qsV T S (a ++ b)).sum = (qsV T S a).sum + (qsV T S b).sum := by simp [qsV]
 simp only [leftV, e]; omega
def bump (p : List Int) (k : Nat) : List Int := p.set k (p.getD k 0 + 1)
def bumpV (p : List Int) (ks : List Nat) : List Int := ks.foldl bump p
theorem bump_len (p : List Int) (k : Nat) : (bump p k).length = p.length := by simp [bump]
theorem bumpV_snoc (p : List Int) (ks : List Nat) (k : Nat) : bumpV p (ks ++ [k]) = bump (bumpV p ks) k := by simp [bumpV]
theorem bumpV_len (p : List Int) : ∀ ks : List Nat, (bumpV p ks).length = p.length := by
 intro ks
 induction ks generalizing p with
 | nil => rfl
 | cons k ks ih => simp only [bumpV, List.foldl_cons] at ih ⊢; rw [ih, bump_len]
def zerosI (n : Nat) : List Int := List.replicate n 0
def atsV (T S : Nat) (l : List Int) (k : Nat) : List Nat := ((restOrder (rsV T S l)).take k).map RestV.at_
def splitE (t : Int) (l : List Int) : Int := bif sRE t l == 0 then (bif sN l == 0 then (bif t == 0 then 0 else 2) else 0) else sRE t l
def splitV (t : Int) (l : List Int) : List Int :=
 bif sRE t l == 0 then (bif sN l == 0 then (bif t == 0 then zerosI l.length else []) else bumpV (qsV t.toNat (sN l) l) (atsV t.toNat (sN l) l (leftV t.toNat (sN l) l).toNat)) else []
theorem sN_le : ∀ {l : List Int}, (∀ x ∈ l, 0 ≤ x ∧ x ≤ 4611686018427387904) → sN l ≤ l.length * 4611686018427387904
 | [], _ => by simp [sN]
 | x :: l, h => by
  have ih := sN_le (l := l) fun y hy => h y (List.mem_cons_of_mem _ hy)
  have hx := h x (by simp)
  simp only [sN, List.map_cons, List.sum_cons, List.length_cons] at ih ⊢
  omega
theorem sN_zero (n : Nat) : (((n / 18446744073709551616 : Nat) : Int) == 0 && ((n % 18446744073709551616 : Nat) : Int) == 0) = (n == 0) := by
 rw [Bool.eq_iff_iff]; simp; omega
theorem q_le {T S w : Nat} (h : w ≤ S) : T * w / S ≤ T := by
 rcases Nat.eq_zero_or_pos S with rfl | hS
 ·simp
 ·exact Nat.div_le_of_le_mul (by rw [Nat.mul_comm S T]; exact Nat.mul_le_mul_left _ h)
theorem w_le : ∀ {l : List Int} {x : Int}, x ∈ l → x.toNat ≤ sN l
 | y :: l, x, h => by
  simp only [sN, List.map_cons, List.sum_cons]
  rcases List.mem_cons.1 h with rfl | h
  ·omega
  ·have := w_le h; simp only [sN] at this; omega
end Go.Proofs.YtjkfadaedgidpaaGreat
namespace Go.Proofs.YtjkfadaedgidpaaGreat
open Go.RowKit
set_option linter.unusedVariables false
set_option linter.unusedSimpArgs false
def bt (a b : RestV) : Prop := b.r < a.r ∨ (a.r = b.r ∧ a.at_ < b.at_)
theorem bt_asym {a b : RestV} (h : bt a b) : ¬ bt b a := by simp only [bt] at *; omega
theorem insX_bt {x : RestV} : ∀ {l : List RestV}, l.Pairwise bt → (∀ y ∈ l, y.at_ < x.at_) → (insX restLt x l).Pairwise bt
 | [], _, _ => by simp [insX]
 | y :: l, h, hx => by
  have h1 := List.pairwise_cons.1 h
  simp only [insX]
  cases e : restLt x y with
  | true =>
   have hr := restLt_iff.1 e
   simp only [cond_true, List.pairwise_cons]
   refine ⟨fun z hz => ?_, h1.1, h1.2⟩
   rcases List.mem_cons.1 hz with rfl | hz
   ·exact Or.inl hr
   ·have := h1.1 z hz; simp only [bt] at this ⊢; omega
  | false =>
   have hr : ¬ y.r < x.r := fun c => by rw [restLt_iff.2 c] at e; cases e
   simp only [cond_false, List.pairwise_cons]
   refine ⟨fun z hz => ?_, insX_bt h1.2 fun z hz => hx z (List.mem_cons_of_mem _ hz)⟩
   rcases (insX_mem (lt := restLt)).1 hz with rfl | hz
   ·have := hx y (by simp); simp only [bt]; omega
   ·exact h1.1 z hz
theorem isortA_bt : ∀ {l acc : List RestV}, acc.Pairwise bt → (∀ y ∈ acc, ∀ x ∈ l, y.at_ < x.at_) → l.Pairwise (fun a b => a.at_ < b.at_) → (isortA restLt acc l).Pairwise bt
 | [], acc, h, _, _ => h
 | x :: l, acc, h, hx, hl => by
  have h1 := List.pairwise_cons.1 hl
  refine isortA_bt (l := l) (insX_bt h fun y hy => hx y hy x (by simp)) (fun y hy z hz => ?_) h1.2
  rcases (insX_mem (lt := restLt)).1 hy with rfl | hy
  ·exact h1.1 z hz
  ·exact hx y hy z (List.mem_cons_of_mem _ hz)
theorem isortA_mem {z : RestV} : ∀ {l acc : List RestV}, z ∈ isortA restLt acc l ↔ z ∈ acc ∨ z ∈ l
 | [], acc => by simp [isortA]
 | x :: l, acc => by
  simp only [isortA, isortA_mem (l := l), insX_mem, List.mem_cons]
  constructor
  ·rintro ((h | h) | h) <;> simp [h]
  ·rintro (h | h | h) <;> simp [h]
def rTot (l : List RestV) : Nat := (l.map RestV.r).sum
theorem insX_tot {x : RestV} : ∀ {l : List RestV}, rTot (insX restLt x l) = x.r + rTot l
 | [] => by simp [insX, rTot]
 | y :: l => by
  have ih := insX_tot (x := x) (l := l)
  simp only [rTot] at ih
  simp only [insX]
  cases restLt x y with
  | true => simp [rTot]
  | false => simp only [cond_false, rTot, List.map_cons, List.sum_cons]; omega
theorem isortA_tot : ∀ {l acc : List RestV}, rTot (isortA restLt acc l) = rTot acc + rTot l
 | [], acc => by simp [isortA, rTot]
 | x :: l, acc => by
  simp only [isortA, isortA_tot (l := l), insX_tot]
  simp only [rTot, List.map_cons, List.sum_cons]; omega
theorem rsV_at (T S : Nat) (l : List Int) : (rsV T S l).Pairwise (fun a b => a.at_ < b.at_) := by
 simp only [rsV, List.pairwise_map]
 have : ∀ (l : List Int) (k : Nat), (l.zipIdx k).Pairwise (fun a b => a.2 < b.2) := by
  intro l
  induction l with
  | nil => intro k; simp
  | cons x l ih =>
   intro k
   simp only [List.zipIdx_cons, List.pairwise_cons]
   refine ⟨fun p hp => ?_, ih (k + 1)⟩
   have := List.le_snd_of_mem_zipIdx hp
   exact this
 exact this l 0
theorem rsV_mem {T S : Nat} {l : List Int} {x : RestV} : x ∈ rsV T S l ↔ x.at_ < l.length ∧ x.r = T * (l.getD x.at_ 0).toNat % S := by
 simp only [rsV, List.mem_map]
 constructor
 ·rintro ⟨⟨w, i⟩, hp, rfl⟩
  have h := List.mem_zipIdx' hp
  simp only at h ⊢
  refine ⟨h.1, ?_⟩
  rw [h.2, List.getD_eq_getElem?_getD, List.getElem?_eq_getElem h.1]; rfl
 ·rintro ⟨h1, h2⟩
  obtain ⟨r, i⟩ := x
  simp only at h1 h2
  refine ⟨(l[i], i), List.mk_mem_zipIdx_iff_getElem?.2 (List.getElem?_eq_getElem h1), ?_⟩
  simp only [h2, List.getD_eq_getElem?_getD, List.getElem?_eq_getElem h1, Option.getD_some]
def ordR (T S : Nat) (l : List Int) : List RestV := restOrder (rsV T S l)
theorem ordR_len (T S : Nat) (l : List Int) : (ordR T S l).length = l.length := by rw [ordR, restOrder, isort_len, rsV_len]
theorem ordR_bt (T S : Nat) (l : List Int) : (ordR T S l).Pairwise bt := isortA_bt List.Pairwise.nil (by simp) (rsV_at T S l)
theorem ordR_mem {T S : Nat} {l : List Int} {x : RestV} : x ∈ ordR T S l ↔ x.at_ < l.length ∧ x.r = T * (l.getD x.at_ 0).toNat % S := by
 rw [ordR, restOrder, isort, isortA_mem, rsV_mem]; simp
theorem rTot_rsV (T S : Nat) (l : List Int) : rTot (rsV T S l) = rSum T S l := by
 simp only [rTot, rsV, List.map_map, rSum]
 congr 1
 have : ∀ (l : List Int) (k : Nat), (l.zipIdx k).map (RestV.r ∘ fun p => (⟨T * p.1.toNat % S, p.2⟩ : RestV)) = l.map fun w => T * w.toNat % S := by
  intro l
  induction l with
  | nil => intro k; rfl
  | cons x l ih => intro k; simp only [List.zipIdx_cons, List.map_cons, ih]; rfl
 exact this l 0
theorem ordR_tot (T S : Nat) (l : List Int) : rTot (ordR T S l) = rSum T S l := by
 rw [ordR, restOrder, isort, isortA_tot, rTot_rsV]; simp [rTot]
theorem getD_set_ (p : List Int) (i k : Nat) (v : Int) : (p.set k v).getD i 0 = if k = i ∧ i < p.length then v else p.getD i 0 := by
 simp only [List.getD_eq_getElem?_getD, List.getElem?_set]
 by_cases h : k = i
 ·subst h
  by_cases h2 : k < p.length
  ·simp [h2]
  ·simp [h2]
 ·simp [h]
theorem bump_get {p : List Int} {k i : Nat} (hk : k < p.length) : (bump p k).getD i 0 = p.getD i 0 + (if k = i then 1 else 0) := by
 rw [bump, getD_set_]
 by_cases h : k = i
 ·subst h; simp [hk]
 ·simp [h]
theorem bumpV_get {i : Nat} : ∀ {ks : List Nat} {p : List Int}, (∀ k ∈ ks, k < p.length) → ks.Nodup → (bumpV p ks).getD i 0 = p.getD i 0 + (if i ∈ ks then 1 else 0)
 | [], p, _, _ => by simp [bumpV]
 | k :: ks, p, h, hn => by
  have hn := List.nodup_cons.1 hn
  have e : bumpV p (k :: ks) = bumpV (bump p k) ks := rfl
  rw [e, bumpV_get (fun j hj => by rw [bump_len]; exact h j (List.mem_cons_of_mem _ hj)) hn.2, bump_get (h k (by simp))]
  by_cases h1 : k = i
  ·subst h1; simp [hn.1]
  ·simp [h1, List.mem_cons, show ¬ i = k from fun c => h1 c.symm]
theorem bump_sum : ∀ {p : List Int} {k : Nat}, k < p.length → (bump p k).sum = p.sum + 1
 | [], k, h => by simp at h
 | x :: p, 0, h => by simp [bump]; omega
 | x :: p, k + 1, h => by
  have ih := bump_sum (p := p) (k := k) (by simpa using h)
  simp only [bump] at ih
  simp only [bump, List.set_cons_succ, List.sum_cons, List.getD_cons_succ]; omega
theorem bumpV_sum : ∀ {ks : List Nat} {p : List Int}, (∀ k ∈ ks, k < p.length) → (bumpV p ks).sum = p.sum + ks.length
 | [], p, _ => by simp [bumpV]
 | k :: ks, p, h => by
  have e : bumpV p (k :: ks) = bumpV (bump p k) ks := rfl
  rw [e, bumpV_sum (fun j hj => by rw [bump_len]; exact h j (List.mem_cons_of_mem _ hj)), bump_sum (h k (by simp))]
  simp only [List.length_cons]; omega
def atK (T S : Nat) (l : List Int) (k : Nat) : List Nat := ((ordR T S l).take k).map RestV.at_
theorem atK_lt {T S : Nat} {l : List Int} {k i : Nat} (h : i ∈ atK T S l k) : i < l.length := by
 obtain ⟨x, hx, rfl⟩ := List.mem_map.1 h
 exact (ordR_mem.1 (List.mem_of_mem_take hx)).1
theorem ordR_nd (T S : Nat) (l : List Int) : ((ordR T S l).map RestV.at_).Nodup := by
 rw [List.Nodup, List.pairwise_map]
 refine (ordR_bt T S l).imp_of_mem fun {a b} ha hb h c => ?_
 have h1 := ordR_mem.1 ha
 have h2 := ordR_mem.1 hb
 rw [c, ← h2.2] at h1
 simp only [bt] at h; omega
theorem atK_nd (T S : Nat) (l : List Int) (k : Nat) : (atK T S l k).Nodup := by
 rw [atK, List.map_take]
 exact (List.take_sublist _ _).nodup (ordR_nd T S l)
theorem atK_len {T S : Nat} {l : List Int} {k : Nat} (h : k ≤ l.length) : (atK T S l k).length = k := by
 rw [atK, List.length_map, List.length_take, ordR_len]; omega
def rOf (T S : Nat) (l : List Int) (i : Nat) : RestV := ⟨T * (l.getD i 0).toNat % S, i⟩
theorem tot_le {S : Nat} : ∀ {l : List RestV}, (∀ x ∈ l, x.r ≤ S) → rTot l ≤ l.length * S
 | [], _ => by simp [rTot]
 | x :: l, h => by
  have ih := tot_le (l := l) fun y hy => h y (List.mem_cons_of_mem _ hy)
  have := h x (by simp)
  simp only [rTot, List.map_cons, List.sum_cons, List.length_cons, Nat.add_mul, Nat.one_mul] at ih ⊢
  omega
theorem tot_zero {l : List RestV} (h : ∀ x ∈ l, x.r = 0) : rTot l = 0 := by
 have := tot_le (S := 0) (l := l) (fun x hx => by rw [h x hx]; exact Nat.le_refl _)
 simpa using this
theorem left_eq (T : Nat) (l : List Int) : (sN l : Int) * leftV T (sN l) l = (rSum T (sN l) l : Int) := by
 have h1 := left_sum (T := T) (S := sN l) l
 simp only [leftV, Int.mul_sub]
 rw [Int.mul_comm (sN l : Int) (T : Int)]; omega
theorem atK_pos {T : Nat} {l : List Int} (hS : 0 < sN l) {i : Nat} (hi : i ∈ atK T (sN l) l (leftV T (sN l) l).toNat) : 0 < T * (l.getD i 0).toNat % sN l := by
 obtain ⟨x, hx, rfl⟩ := List.mem_map.1 hi
 have hx2 := ordR_mem.1 (List.mem_of_mem_take hx)
 rw [← hx2.2]
 refine Nat.pos_of_ne_zero fun h0 => ?_
 have hlb := left_bnd (T := T) hS
 have hle := left_eq T l
 generalize hk : leftV T (sN l) l = L at *
 obtain ⟨k, rfl⟩ : ∃ k : Nat, L = k := ⟨L.toNat, by omega⟩
 simp only [Int.toNat_natCast] at hx
 obtain ⟨A, B, hAB⟩ := List.append_of_mem hx
 have hlen := congrArg List.length hAB
 simp only [List.length_take, List.length_append, List.length_cons, ordR_len] at hlen
 have hO : ordR T (sN l) l = A ++ x :: (B ++ (ordR T (sN l) l).drop k) := by
  rw [← List.cons_append, ← List.append_assoc, ← hAB, List.take_append_drop]
 have hp := ordR_bt T (sN l) l
 have ht := ordR_tot T (sN l) l
 have hm : ∀ y ∈ ordR T (sN l) l, y.r ≤ sN l - 1 := fun y hy => by
  rw [(ordR_mem.1 hy).2]; have := Nat.mod_lt (T * (l.getD y.at_ 0).toNat) hS; omega
 generalize B ++ (ordR T (sN l) l).drop k = C at hO
 rw [hO] at hp ht hm
 have hC : rTot C = 0 := tot_zero fun y hy => by
  have h1 := (List.pairwise_cons.1 (List.pairwise_append.1 hp).2.1).1 y hy
  simp only [bt] at h1; omega
 have hA := tot_le (l := A) (S := sN l - 1) fun y hy => hm y (by simp [hy])
 have ht : rTot A + (x.r + rTot C) = rSum T (sN l) l := by rw [← ht]; simp [rTot]
 have hle : sN l * k = rSum T (sN l) l := by exact_mod_cast hle
 have hAk : A.length + 1 ≤ k := by omega
 have h5 : A.length * (sN l - 1) ≤ A.length * sN l := Nat.mul_le_mul_left _ (by omega)
 have h6 : (A.length + 1) * sN l ≤ k * sN l := Nat.mul_le_mul_right _ hAk
 rw [Nat.mul_comm (sN l) k] at hle
 rw [Nat.add_mul, Nat.one_mul] at h6
 omega
def prt (T : Nat) (l : List Int) : List Int := bumpV (qsV T (sN l) l) (atK T (sN l) l (leftV T (sN l) l).toNat)
theorem prt_len (T : Nat) (l : List Int) : (prt T l).length = l.length := by rw [prt, bumpV_len, qsV_len]
theorem qsV_get (T S : Nat) (l : List Int) (i : Nat) : (qsV T S l).getD i 0 = ((T * (l.getD i 0).toNat / S : Nat) : Int) := by
 by_cases h : i < l.length
 ·simp [qsV, List.getD_eq_getElem?_getD, List.getElem?_eq_getElem h]
 ·simp [qsV, List.getD_eq_getElem?_getD, List.getElem?_eq_none (Nat.le_of_not_lt h)]
def won (T : Nat) (l : List Int) (i : Nat) : Prop := i ∈ atK T (sN l) l (leftV T (sN l) l).toNat
instance (T : Nat) (l : List Int) (i : Nat) : Decidable (won T l i) := inferInstanceAs (Decidable (i ∈ _))
theorem prt_get (T : Nat) (l : List Int) (i : Nat) : (prt T l).getD i 0 = ((T * (l.getD i 0).toNat / sN l : Nat) : Int) + (if won T l i then 1 else 0) := by
 rw [prt, bumpV_get (fun k hk => by rw [qsV_len]; exact atK_lt hk) (atK_nd _ _ _ _), qsV_get]; rfl
theorem prt_sum {T : Nat} {l : List Int} (hS : 0 < sN l) : (prt T l).sum = T := by
 have hlb := left_bnd (T := T) hS
 rw [prt, bumpV_sum (fun k hk => by rw [qsV_len]; exact atK_lt hk), atK_len (by omega)]
 have : leftV T (sN l) l = (T : Int) - (qsV T (sN l) l).sum := rfl
 omega
theorem won_pos {T : Nat} {l : List Int} (hS : 0 < sN l) {i : Nat} (h : won T l i) : 0 < T * (l.getD i 0).toNat % sN l := atK_pos hS h
def mayOk (t : Int) (l : List Int) : Prop := (0 ≤ t ∧ t ≤ 4611686018427387904) ∧ (∀ x ∈ l, 0 ≤ x ∧ x ≤ 4611686018427387904) ∧ l.length ≤ 200
theorem sRE_may {t : Int} {l : List Int} (h : mayOk t l) : sRE t l = 0 := by
 obtain ⟨ht, hl, hn⟩ := h
 have h1 : sBad t l = false := by
  simp only [sBad, Bool.or_eq_false_iff, Bool.not_eq_false', List.all_eq_true, decide_eq_false_iff_not]
  refine ⟨⟨by omega, fun x hx => ?_⟩, fun x hx => ?_⟩
  ·rw [List.mem_singleton] at hx; subst hx; simp [rightN]; omega
  ·have := hl x hx; simp [rightN]; omega
 have h2 : l.any ngI = false := List.any_eq_false.2 fun x hx => by
  have := hl x hx; simp [ngI]; omega
 have h3 : decide ((l.length : Int) > 1024) = false := decide_eq_false (by omega)
 simp only [sRE, h1, h2, h3, cond_false]
theorem splitV_prt {t : Int} {l : List Int} (h : sRE t l = 0) (hS : 0 < sN l) : splitV t l = prt t.toNat l := by
 simp only [splitV, h, show (sN l == 0) = false by simp; omega]; rfl
theorem splitE_prt {t : Int} {l : List Int} (h : sRE t l = 0) (hS : 0 < sN l) : splitE t l = 0 := by
 simp only [splitE, h, show (sN l == 0) = false by simp; omega]; rfl
theorem splitV_zero {t : Int} {l : List Int} (h : sRE t l = 0) (hS : sN l = 0) (ht : t = 0) : splitV t l = zerosI l.length := by
 subst ht; simp only [splitV, h, hS]; rfl
theorem splitE_zero {t : Int} {l : List Int} (h : sRE t l = 0) (hS : sN l = 0) : splitE t l = bif t == 0 then 0 else 2 := by
 simp only [splitE, h, hS]; rfl
theorem splitV_none {t : Int} {l : List Int} (h : sRE t l = 0) (hS : sN l = 0) (ht : t ≠ 0) : splitV t l = [] := by
 simp only [splitV, h, hS, show (t == 0) = false by simpa using ht]; rfl
theorem prt_bnd (T : Nat) (l : List Int) (i : Nat) : ((T * (l.getD i 0).toNat / sN l : Nat) : Int) ≤ (prt T l).getD i 0 ∧ (prt T l).getD i 0 ≤ ((T * (l.getD i 0).toNat / sN l : Nat) : Int) + 1 := by
 rw [prt_get]; split <;> omega
theorem prt_nn (T : Nat) (l : List Int) (i : Nat) : 0 ≤ (prt T l).getD i 0 := by
 have := (prt_bnd T l i).1; have h2 : (0 : Int) ≤ ((T * (l.getD i 0).toNat / sN l : Nat) : Int) := Int.natCast_nonneg _; omega
theorem prt_cap {T : Nat} {l : List Int} (hS : 0 < sN l) (hT : T ≤ sN l) {i : Nat} (h0 : 0 ≤ l.getD i 0) : (prt T l).getD i 0 ≤ l.getD i 0 := by
 rw [prt_get]
 have hq : T * (l.getD i 0).toNat / sN l ≤ (l.getD i 0).toNat := by
  rw [Nat.mul_comm]; exact q_le hT
 split
 case isFalse => omega
 case isTrue hw =>
  have h1 := won_pos hS hw
  have h2 := Nat.div_add_mod (T * (l.getD i 0).toNat) (sN l)
  have : T * (l.getD i 0).toNat / sN l ≠ (l.getD i 0).toNat := fun c => by
   rw [c] at h2
   have := Nat.mul_le_mul_right (l.getD i 0).toNat hT
   omega
  omega
theorem left_mid {T : Nat} {l pre post : List Int} {x : Int} (hS : 0 < sN l) (hsp : l = pre ++ x :: post) : 0 ≤ leftV T (sN l) (pre ++ [x]) ∧ leftV T (sN l) (pre ++ [x]) ≤ T := by
 have h1 := left_bnd (T := T) hS
 have h2 := left_pre T (sN l) (pre ++ [x]) post
 have e : (pre ++ [x]) ++ post = l := by rw [hsp]; simp
 rw [e] at h2; omega
theorem ord_mid {T : Nat} {l : List Int} {A B : List RestV} {y : RestV} (hT : T ≤ 4611686018427387904) (h : ordR T (sN l) l = A ++ y :: B) : y.at_ < l.length ∧ 0 ≤ (bumpV (qsV T (sN l) l) (A.map RestV.at_)).getD y.at_ 0 ∧ (bumpV (qsV T (sN l) l) (A.map RestV.at_)).getD y.at_ 0 ≤ 4611686018427387905 := by
 have hy : y.at_ < l.length := (ordR_mem.1 (show y ∈ ordR T (sN l) l by rw [h]; simp)).1
 have e : A.map RestV.at_ = atK T (sN l) l A.length := by rw [atK, h]; simp
 rw [e, bumpV_get (fun k hk => by rw [qsV_len]; exact atK_lt hk) (atK_nd _ _ _ _), qsV_get]
 have hw : (l.getD y.at_ 0).toNat ≤ sN l := by
  rw [List.getD_eq_getElem?_getD, List.getElem?_eq_getElem hy]; exact w_le (List.getElem_mem hy)
 have := q_le (T := T) hw
 generalize T * (l.getD y.at_ 0).toNat / sN l = q at *
 refine ⟨hy, ?_, ?_⟩ <;> split <;> omega
theorem oneI_get {p : List Int} {k : Nat} (h : k < p.length) : ((p.map fun n => [iv n]).map fun x => x.map AV.d).getD k [] = [.d (iv (p.getD k 0))] := by
 simp [List.getD_eq_getElem?_getD, List.getElem?_eq_getElem h]
theorem oneI_set (p : List Int) (k : Nat) : ((p.map fun n => [iv n]).map fun x => x.map AV.d).set k [.d (iv (p.getD k 0 + 1))] = (((bump p k).map fun n => [iv n]).map fun x => x.map AV.d) := by
 simp [bump, List.map_set]
theorem split_len {t : Int} {l : List Int} (h : sRE t l = 0) (he : splitE t l = 0) : (splitV t l).length = l.length := by
 rcases Nat.eq_zero_or_pos (sN l) with hS | hS
 ·rw [splitE_zero h hS] at he
  have : t = 0 := by
   by_cases c : t = 0
   ·exact c
   ·rw [show (t == 0) = false by simpa using c] at he; simp at he
  rw [splitV_zero h hS this]; simp [zerosI]
 ·rw [splitV_prt h hS, prt_len]
theorem zeros_get (n i : Nat) : (zerosI n).getD i 0 = 0 := by
 simp only [zerosI, List.getD_eq_getElem?_getD, List.getElem?_replicate]; split <;> rfl
def sclR (k : Nat) (x : RestV) : RestV := ⟨k * x.r, x.at_⟩
end Go.Proofs.YtjkfadaedgidpaaGreat
namespace Go.Proofs.YtjkfadaedgidpaaGreat
open Go.RowKit
set_option linter.unusedVariables false
set_option linter.unusedSimpArgs false
def mayX (n : Int) : Bool := decide (n < 0) || decide (n > 4611686018427387904)
def mayB (t : Int) (l : List Int) : Bool := bif mayX t || decide ((l.length : Int) > 200) then false else !(l.any mayX)
theorem intsD_get {p : List Int} {k : Nat} (h : k < p.length) : (p.map fun n => [iv n]).getD k [] = [iv (p.getD k 0)] := by
 simp [List.getD_eq_getElem?_getD, List.getElem?_eq_getElem h]
theorem getD_mem {p : List Int} {k : Nat} (h : k < p.length) : p.getD k 0 ∈ p := by
 rw [List.getD_eq_getElem?_getD, List.getElem?_eq_getElem h]; exact List.getElem_mem h
def oneI (n : Int) : List D := [iv n]
def spoilI (_ : Int) : Int := -77
def belowV : Int → List Int → Bool
 | _, [] => false
 | t, c :: l => decide (mi c t < c) || belowV (t - mi c t) l
end Go.Proofs.YtjkfadaedgidpaaGreat
namespace Go.Proofs.YtjkfadaedgidpaaGreat
open Go.RowKit
set_option linter.unusedVariables false
set_option linter.unusedSimpArgs false
def shR : Nat → Nat → Nat × Bool
 | B, 0 => (B, true)
 | B, k + 1 => bif decide (85070591730234615865843651857942052864 ≤ B) then (B, false) else shR (B * 2) k
theorem shR_ok : ∀ {k B : Nat}, B < 170141183460469231731687303715884105728 → (B * 2 ^ k < 170141183460469231731687303715884105728 → shR B k = (B * 2 ^ k, true)) ∧ (170141183460469231731687303715884105728 ≤ B * 2 ^ k → (shR B k).2 = false)
 | 0, B, h => by simp only [shR, Nat.pow_zero, Nat.mul_one]; exact ⟨fun _ => trivial, fun h2 => by omega⟩
 | k + 1, B, h => by
  have e : B * 2 ^ (k + 1) = B * 2 * 2 ^ k := by rw [Nat.pow_succ, Nat.mul_comm (2 ^ k) 2, Nat.mul_assoc]
  have hp : 0 < 2 ^ k := Nat.pow_pos (by decide)
  simp only [shR]
  cases d : decide (85070591730234615865843651857942052864 ≤ B) with
  | true =>
   have d := of_decide_eq_true d
   refine ⟨fun h2 => ?_, fun _ => rfl⟩
   have : B * 2 * 1 ≤ B * 2 * 2 ^ k := Nat.mul_le_mul_left _ hp
   omega
  | false =>
   have d := of_decide_eq_false d
   simp only [cond_false, e]
   exact shR_ok (by omega)
/-- one step of the division -/
theorem div_step {a b q r k : Nat} (hb : 0 < b) (h : a = q * b + r) (hr : r < b * 2 ^ (k + 1)) (hq : b * 2 ^ k ≤ r) : a = (q + 2 ^ k) * b + (r - b * 2 ^ k) ∧ r - b * 2 ^ k < b * 2 ^ k ∧ (q + 2 ^ k) ≤ a / b := by
 have e : b * 2 ^ (k + 1) = b * 2 ^ k + b * 2 ^ k := by rw [Nat.pow_succ, Nat.mul_two, Nat.mul_add]
 have e2 : (q + 2 ^ k) * b = q * b + b * 2 ^ k := by rw [Nat.add_mul, Nat.mul_comm (2 ^ k) b]
 have h1 : a = (q + 2 ^ k) * b + (r - b * 2 ^ k) := by omega
 refine ⟨h1, by omega, ?_⟩
 rw [Nat.le_div_iff_mul_le hb]; omega
theorem div_end {a b q r : Nat} (h : a = q * b + r) (hr : r < b) : q = a / b ∧ r = a % b := by
 have hb : 0 < b := by omega
 subst h
 rw [Nat.add_comm, Nat.add_mul_div_right _ _ hb, Nat.add_mul_mod_self_right, Nat.div_eq_of_lt hr, Nat.mod_eq_of_lt hr]
 omega
def bestV (g : List Bool) (r : List Nat) : Nat → Int
 | 0 => -1
 | n + 1 => bif !(g.getD n false) && (decide (bestV g r n < 0) || decide (r.getD (bestV g r n).toNat 0 < r.getD n 0)) then (n : Int) else bestV g r n
theorem best_inv (g : List Bool) (r : List Nat) : ∀ n : Nat, (bestV g r n < 0 ∧ bestV g r n = -1 ∧ ∀ i, i < n → g.getD i false = true) ∨
  (0 ≤ bestV g r n ∧ bestV g r n < n ∧ g.getD (bestV g r n).toNat false = false ∧ ∀ i, i < n → g.getD i false = false → (i : Int) = bestV g r n ∨ r.getD i 0 < r.getD (bestV g r n).toNat 0 ∨ (r.getD i 0 = r.getD (bestV g r n).toNat 0 ∧ bestV g r n < (i : Int)))
 | 0 => .inl ⟨by simp [bestV], rfl, fun i h => by omega⟩
 | n + 1 => by
  have ih := best_inv g r n
  simp only [bestV]
  generalize bestV g r n = b at ih ⊢
  cases hg : g.getD n false with
  | true =>
   simp only [Bool.not_true, Bool.false_and, cond_false]
   rcases ih with ⟨h1, h2, h3⟩ | ⟨h1, h2, h3, h4⟩
   ·exact .inl ⟨h1, h2, fun i hi => (Nat.lt_succ_iff_lt_or_eq.1 hi).elim (fun h => h3 i h) (fun h => h ▸ hg)⟩
   ·refine .inr ⟨h1, by omega, h3, fun i hi hh => ?_⟩
    rcases Nat.lt_succ_iff_lt_or_eq.1 hi with h | rfl
    ·exact h4 i h hh
    ·rw [hg] at hh; cases hh
  | false =>
   simp only [Bool.not_false, Bool.true_and]
   rcases ih with ⟨h1, h2, h3⟩ | ⟨h1, h2, h3, h4⟩
   ·rw [decide_eq_true h1]
    simp only [Bool.true_or, cond_true]
    refine .inr ⟨by omega, by omega, by simpa using hg, fun i hi hh => ?_⟩
    rcases Nat.lt_succ_iff_lt_or_eq.1 hi with h | rfl
    ·rw [h3 i h] at hh; cases hh
    ·exact .inl rfl
   ·rw [decide_eq_false (by omega)]
    simp only [Bool.false_or]
    cases d : decide (r.getD b.toNat 0 < r.getD n 0) with
    | true =>
     have d := of_decide_eq_true d
     simp only [cond_true]
     refine .inr ⟨by omega, by omega, by simpa using hg, fun i hi hh => ?_⟩
     rcases Nat.lt_succ_iff_lt_or_eq.1 hi with h | rfl
     ·rcases h4 i h hh with h | h | h
      ·have : b.toNat = i := by omega
       rw [this] at d; simp only [Int.toNat_natCast]; omega
      ·simp only [Int.toNat_natCast]; omega
      ·simp only [Int.toNat_natCast]; omega
     ·exact .inl rfl
    | false =>
     have d := of_decide_eq_false d
     simp only [cond_false]
     refine .inr ⟨h1, by omega, h3, fun i hi hh => ?_⟩
     rcases Nat.lt_succ_iff_lt_or_eq.1 hi with h | rfl
     ·exact h4 i h hh
     ·by_cases h5 : r.getD i 0 < r.getD b.toNat 0
      ·exact .inr (.inl h5)
      ·exact .inr (.inr ⟨by omega, by omega⟩)
def restsN (T S : Nat) (l : List Int) : List Nat := l.map fun w => T * w.toNat % S
theorem restsN_get {T S : Nat} {l : List Int} {i : Nat} (h : i < l.length) : (restsN T S l).getD i 0 = T * (l.getD i 0).toNat % S := by
 simp [restsN, List.getD_eq_getElem?_getD, h]
theorem restsN_snoc (T S : Nat) (l : List Int) (x : Int) : restsN T S (l ++ [x]) = restsN T S l ++ [T * x.toNat % S] := by simp [restsN]
theorem restsN_len (T S : Nat) (l : List Int) : (restsN T S l).length = l.length := by simp [restsN]
/-- who was given one, of the first k of the order -/
def givV (T S : Nat) (l : List Int) (k : Nat) : List Bool := (List.range l.length).map fun i => decide (i ∈ atK T S l k)
theorem givV_len (T S : Nat) (l : List Int) (k : Nat) : (givV T S l k).length = l.length := by simp [givV]
theorem givV_get {T S : Nat} {l : List Int} {k i : Nat} (h : i < l.length) : (givV T S l k).getD i false = decide (i ∈ atK T S l k) := by
 simp [givV, List.getD_eq_getElem?_getD, h]
theorem givV_zero (T S : Nat) (l : List Int) : givV T S l 0 = List.replicate l.length false := by
 simp [givV, atK, List.map_const']
theorem best_at {T S : Nat} {l : List Int} {A B : List RestV} {y : RestV} (h : ordR T S l = A ++ y :: B) : bestV (givV T S l A.length) (restsN T S l) l.length = (y.at_ : Int) := by
 have hy : y ∈ ordR T S l := by rw [h]; simp
 have hym := ordR_mem.1 hy
 have hbt := ordR_bt T S l
 have hA : atK T S l A.length = A.map RestV.at_ := by rw [atK, h, List.take_left]
 have hnd := ordR_nd T S l
 rw [h, List.map_append, List.map_cons] at hnd
 have hyA : y.at_ ∉ A.map RestV.at_ := fun c => (List.nodup_append.1 hnd).2.2 _ c _ (by simp) rfl
 have hgy : (givV T S l A.length).getD y.at_ false = false := by rw [givV_get hym.1, hA]; simpa using hyA
 rcases best_inv (givV T S l A.length) (restsN T S l) l.length with ⟨h1, h2, h3⟩ | ⟨h1, h2, h3, h4⟩
 ·rw [h3 _ hym.1] at hgy; cases hgy
 ·have h5 := h4 _ hym.1 hgy
  rcases h5 with h5 | h5
  ·exact h5.symm
  exfalso
  have hbl : (bestV (givV T S l A.length) (restsN T S l) l.length).toNat < l.length := by omega
  generalize hbe : bestV (givV T S l A.length) (restsN T S l) l.length = b at *
  rw [givV_get hbl, hA] at h3
  have hbn := of_decide_eq_false h3
  have hmem : rOf T S l b.toNat ∈ ordR T S l := ordR_mem.2 ⟨hbl, rfl⟩
  rw [restsN_get hym.1, restsN_get hbl] at h5
  have hbb : bt (rOf T S l b.toNat) y := by
   simp only [bt, rOf]; rw [hym.2]; omega
  rw [h] at hmem hbt
  rcases List.mem_append.1 hmem with hm | hm
  ·exact hbn (List.mem_map.2 ⟨_, hm, rfl⟩)
  ·rcases List.mem_cons.1 hm with hm | hm
   ·rw [← hm] at hbb; exact bt_asym hbb hbb
   ·exact bt_asym hbb ((List.pairwise_cons.1 (List.pairwise_append.1 hbt).2.1).1 _ hm)
theorem giv_set {T S : Nat} {l : List Int} {A B : List RestV} {y : RestV} (h : ordR T S l = A ++ y :: B) : (givV T S l A.length).set y.at_ true = givV T S l (A.length + 1) := by
 have hA : atK T S l A.length = A.map RestV.at_ := by rw [atK, h, List.take_left]
 have hA1 : atK T S l (A.length + 1) = A.map RestV.at_ ++ [y.at_] := by
  rw [atK, h, show A ++ y :: B = (A ++ [y]) ++ B by simp, show A.length + 1 = (A ++ [y]).length by simp, List.take_left]; simp
 apply List.ext_getElem (by simp [givV])
 intro i h1 h2
 have hi : i < l.length := by simpa [givV] using h2
 simp only [List.getElem_set, givV, List.getElem_map, List.getElem_range, hA, hA1, List.mem_append, List.mem_singleton]
 by_cases e : y.at_ = i
 ·simp [e]
 ·have e2 : ¬ i = y.at_ := fun c => e c.symm
  simp [e, e2]
theorem ats_get {A post : List Int} {x : Int} : (((A ++ x :: post).map fun n => [iv n]).map fun x => x.map AV.d).getD A.length [] = [.d (iv x)] := by
 rw [oneI_get (by simp)]; simp
theorem ats_set {A post : List Int} {x v : Int} : (((A ++ x :: post).map fun n => [iv n]).map fun x => x.map AV.d).set A.length [.d (iv v)] = (((A ++ v :: post).map fun n => [iv n]).map fun x => x.map AV.d) := by
 simp [List.set_append]
theorem sumN {l : List Int} (h : ∀ x ∈ l, 0 ≤ x) : l.sum = (sN l : Int) := by
 induction l with
 | nil => rfl
 | cons x l ih =>
  have h0 := h x (by simp)
  have := ih fun y hy => h y (by simp [hy])
  simp only [sN, List.map_cons, List.sum_cons] at this ⊢
  rw [this]; omega
theorem all_wide {l : List Int} (h : ∀ x ∈ l, 0 ≤ x ∧ x ≤ 4611686018427387904) : ∀ x ∈ l, -170141183460469231731687303715884105728 ≤ x ∧ x < 170141183460469231731687303715884105728 := fun x hx => by
 have := h x hx; omega
theorem wless_law (a b : Int) : (decide (a / 18446744073709551616 < b / 18446744073709551616) || (a / 18446744073709551616 == b / 18446744073709551616 && decide (a % 18446744073709551616 < b % 18446744073709551616))) = decide (a < b) := by
 rw [Bool.eq_iff_iff]
 simp only [Bool.or_eq_true, Bool.and_eq_true, decide_eq_true_eq, beq_iff_eq]
 omega
end Go.Proofs.YtjkfadaedgidpaaGreat
