/- Losses and margins of positions, in plain terms. No condition. -/
import Derived.Test.YtjkfadaedgidpaaGreatSpecM
import Derived.Test.YtjkfadaedgidpaaGreatAbsX
import Derived.Test.YtjkfadaedgidpaaGreatSpecJK
namespace Go.Proofs.YtjkfadaedgidpaaGreat
open Go.RowKit
set_option linter.unusedVariables false
set_option linter.unusedSimpArgs false
structure PieceV where
 inst : InstV
 qty : Int
def pieceC (x : PieceV) : List D := [iv x.inst.no, iv x.inst.cur, iv x.inst.mult, iv x.inst.add, iv x.inst.set, iv x.inst.price, iv x.inst.s0, iv x.inst.s1, iv x.inst.s2, iv x.inst.s3, iv x.inst.s4, iv x.inst.s5, iv x.qty]
def pQok (p : PosV) : Bool := !(decide (p.qty < -1099511627776) || decide (p.qty > 1099511627776))
def pSel (r : RollV) (who cur : Int) (p : PosV) : Bool := hasX InstV.no p.inst r.insts && p.who == who && (findX InstV.no p.inst zInst r.insts).cur == cur
def pPiece (r : RollV) (p : PosV) : PieceV := ⟨findX InstV.no p.inst zInst r.insts, p.qty⟩
def pcs (r : RollV) (who cur : Int) (l : List PosV) : List PieceV := (l.filter (pSel r who cur)).map (pPiece r)
def pcsE (r : RollV) (l : List PosV) : Int := bif rollOk r then (bif l.all pQok then 0 else 3) else 14
def pcsL (r : RollV) (who cur : Int) (l : List PosV) : List PieceV := bif pcsE r l == 0 then pcs r who cur l else []
def shNG (i : InstV) : Nat → Int
 | 0 => i.s0 | 1 => i.s1 | 2 => i.s2 | 3 => i.s3 | 4 => i.s4 | _ => i.s5
def lossOf (x : PieceV) (j : Nat) : Int := -x.qty * x.inst.mult * shNG x.inst j
def lossT (ps : List PieceV) (j : Nat) : Int := (ps.map (lossOf · j)).sum
def lossOk (ps : List PieceV) : Bool := rightN (lossT ps 0) && rightN (lossT ps 1) && rightN (lossT ps 2) && rightN (lossT ps 3) && rightN (lossT ps 4) && rightN (lossT ps 5)
def lossE (r : RollV) (who cur : Int) (l : List PosV) : Int := bif pcsE r l == 0 then (bif lossOk (pcs r who cur l) then 0 else 1) else pcsE r l
def lossV (r : RollV) (who cur : Int) (l : List PosV) (j : Nat) : Int := bif lossE r who cur l == 0 then lossT (pcs r who cur l) j else 0
def lossA (r : RollV) (who cur : Int) (l : List PosV) : AV := .ag [.d (iv (lossV r who cur l 0)), .d (iv (lossV r who cur l 1)), .d (iv (lossV r who cur l 2)), .d (iv (lossV r who cur l 3)), .d (iv (lossV r who cur l 4)), .d (iv (lossV r who cur l 5))]
def mx2 (a b : Int) : Int := if b > a then b else a
def lossM (ps : List PieceV) : Int := mx2 (mx2 (mx2 (mx2 (mx2 (mx2 0 (lossT ps 0)) (lossT ps 1)) (lossT ps 2)) (lossT ps 3)) (lossT ps 4)) (lossT ps 5)
def addOf (x : PieceV) : Int := mx2 x.qty (-x.qty) * x.inst.add
def margT (ps : List PieceV) : Int := lossM ps + (ps.map addOf).sum
def margL (ps pre : List PieceV) : List Int := lossM ps :: pre.map addOf
def margE (r : RollV) (who cur : Int) (l : List PosV) : Int := bif lossE r who cur l == 0 then (bif rightN (margT (pcs r who cur l)) then 0 else 1) else lossE r who cur l
def margV (r : RollV) (who cur : Int) (l : List PosV) : Int := bif margE r who cur l == 0 then margT (pcs r who cur l) else 0
structure PieceOk (x : PieceV) : Prop where
 q0 : -1099511627776 ≤ x.qty
 q1 : x.qty ≤ 1099511627776
 m0 : 1 ≤ x.inst.mult
 m1 : x.inst.mult ≤ 1024
 a0 : 0 ≤ x.inst.add
 a1 : x.inst.add ≤ 1073741824
 s : ∀ j, -1073741824 ≤ shNG x.inst j ∧ shNG x.inst j ≤ 1073741824
theorem mx2_abs (q : Int) : mx2 q (-q) = (q.natAbs : Int) := by unfold mx2; split <;> omega
theorem PieceOk.add {x : PieceV} (h : PieceOk x) : (0 ≤ mx2 x.qty (-x.qty) ∧ mx2 x.qty (-x.qty) ≤ 1099511627776) ∧ 0 ≤ addOf x ∧ addOf x ≤ 1180591620717411303424 := by
 have q0 := h.q0; have q1 := h.q1; have a0 := h.a0; have a1 := h.a1
 have b : 0 ≤ mx2 x.qty (-x.qty) ∧ mx2 x.qty (-x.qty) ≤ 1099511627776 := by rw [mx2_abs]; omega
 refine ⟨b, Int.mul_nonneg b.1 a0, ?_⟩
 have := abs_mul (a := mx2 x.qty (-x.qty)) (b := x.inst.add) (x := 1099511627776) (y := 1073741824) (by omega) (by omega)
 unfold addOf
 omega
theorem com64_eq {n : Int} (h0 : 0 ≤ n) (h1 : n < 18446744073709551616) : com64 n = 18446744073709551615 - n := by
 obtain ⟨k, rfl⟩ := Int.eq_ofNat_of_zero_le h0
 show IntKind.wrap .u64 (((BitVec.ofInt 64 ((18446744073709551615 : Nat) : Int) ^^^ BitVec.ofInt 64 (k : Int)).toNat : Nat) : Int) = _
 rw [BitVec.ofInt_natCast, BitVec.ofInt_natCast]
 have e : (BitVec.ofNat 64 18446744073709551615 ^^^ BitVec.ofNat 64 k) = ~~~ (BitVec.ofNat 64 k) := by
  rw [show BitVec.ofNat 64 18446744073709551615 = BitVec.allOnes 64 from by decide, BitVec.allOnes_xor]
 rw [e, BitVec.toNat_not, BitVec.toNat_ofNat, Nat.mod_eq_of_lt (by omega : k < 2 ^ 64), IntKind.wrap_u64]
 omega
theorem com64_nn (n : Int) : 0 ≤ com64 n := by unfold com64; rw [IntKind.wrap_u64]; omega
theorem com64_lt (n : Int) : com64 n < 18446744073709551616 := by unfold com64; rw [IntKind.wrap_u64]; omega
def negC (t : Int) : Int := (com64 (t % 18446744073709551616) + 1 + 0) / 18446744073709551616
theorem negC_nn (t : Int) : 0 ≤ negC t := by unfold negC; have := com64_nn (t % 18446744073709551616); omega
theorem negC_le (t : Int) : negC t ≤ 1 := by unfold negC; have := com64_lt (t % 18446744073709551616); omega
theorem neg_wide {t : Int} (h0 : 0 ≤ t) (h1 : t ≤ 85070591730234615865843651857942052864) :
  AV.ag [.d (iv (IntKind.wrap .i64 ((com64 (IntKind.wrap .u64 (t / 18446744073709551616)) + 0 + negC t) % 18446744073709551616))), .d (.v (.int .u64 ((com64 (t % 18446744073709551616) + 1 + 0) % 18446744073709551616)))] = wideA (-t) := by
 unfold negC wideA
 rw [wrapU (n := t / 18446744073709551616) (by omega) (by omega), com64_eq (n := t / 18446744073709551616) (by omega) (by omega), com64_eq (n := t % 18446744073709551616) (by omega) (by omega), wrapI_]
 rw [show (-t) % 18446744073709551616 = (18446744073709551615 - t % 18446744073709551616 + 1 + 0) % 18446744073709551616 from by omega]
 congr 4
 all_goals (congr 3; omega)
theorem mag_neg {n : Int} (h0 : -9223372036854775808 ≤ n) (h1 : n < 0) : IntKind.wrap .u64 (0 - IntKind.wrap .u64 n) = (n.natAbs : Int) := by rw [wrapU_, wrapU_]; omega
theorem mag_pos {n : Int} (h0 : 0 ≤ n) (h1 : n < 9223372036854775808) : IntKind.wrap .u64 n = (n.natAbs : Int) := by rw [wrapU_]; omega
theorem mag_mul {a b : Int} (h0 : -9223372036854775808 ≤ a) (h1 : a < 9223372036854775808) (k0 : -9223372036854775808 ≤ b) (k1 : b < 9223372036854775808) :
  0 ≤ (a.natAbs : Int) * b.natAbs ∧ (a.natAbs : Int) * b.natAbs ≤ 85070591730234615865843651857942052864 := by
 have : a.natAbs * b.natAbs ≤ 9223372036854775808 * 9223372036854775808 := Nat.mul_le_mul (by omega) (by omega)
 have e : (a.natAbs : Int) * b.natAbs = ((a.natAbs * b.natAbs : Nat) : Int) := by simp
 rw [e]; omega
theorem mag_opp {a b : Int} (h : (!(decide (a < 0) == decide (b < 0))) = true) : -((a.natAbs : Int) * b.natAbs) = a * b := by
 by_cases ha : a < 0 <;> by_cases hb : b < 0 <;> simp [ha, hb] at h
 ·rw [show (a.natAbs : Int) = -a from by omega, show (b.natAbs : Int) = b from by omega, Int.neg_mul, Int.neg_neg]
 ·rw [show (a.natAbs : Int) = a from by omega, show (b.natAbs : Int) = -b from by omega, Int.mul_neg, Int.neg_neg]
theorem mag_same {a b : Int} (h : (!(decide (a < 0) == decide (b < 0))) = false) : (a.natAbs : Int) * b.natAbs = a * b := by
 by_cases ha : a < 0 <;> by_cases hb : b < 0 <;> simp [ha, hb] at h
 ·rw [show (a.natAbs : Int) = -a from by omega, show (b.natAbs : Int) = -b from by omega, Int.neg_mul, Int.mul_neg, Int.neg_neg]
 ·rw [show (a.natAbs : Int) = a from by omega, show (b.natAbs : Int) = b from by omega]
end Go.Proofs.YtjkfadaedgidpaaGreat
namespace Go.Proofs.YtjkfadaedgidpaaGreat
open Go.RowKit
set_option linter.unusedVariables false
set_option linter.unusedSimpArgs false
def wN (B : Nat) : List D := [iv ((B / 18446744073709551616 : Nat) : Int), .v (.int .u64 ((B % 18446744073709551616 : Nat) : Int))]
def wNA (B : Nat) : AV := .ag [.d (iv ((B / 18446744073709551616 : Nat) : Int)), .d (.v (.int .u64 ((B % 18446744073709551616 : Nat) : Int)))]
theorem nat_div (B : Nat) : (B : Int) / 18446744073709551616 = ((B / 18446744073709551616 : Nat) : Int) := by omega
theorem nat_mod (B : Nat) : (B : Int) % 18446744073709551616 = ((B % 18446744073709551616 : Nat) : Int) := by omega
theorem wN_eq (B : Nat) : wideC (B : Int) = wN B := by rw [wideC, nat_div, nat_mod, wN]
theorem wNA_eq (B : Nat) : wideA (B : Int) = wNA B := by rw [wideA, nat_div, nat_mod, wNA]
theorem shlI {h : Nat} (hh : h < 4611686018427387904) : IntKind.wrap .i64 ((h : Int) * 2 ^ (min (Int.toNat 1) (IntKind.bits .i64))) = ((h * 2 : Nat) : Int) := by
 rw [show (2 : Int) ^ (min (Int.toNat 1) (IntKind.bits .i64)) = 2 from by decide, wrapI (by omega) (by omega)]; omega
theorem orI64 {h b : Nat} (hh : h < 4611686018427387904) (hb : b < 2) : IntKind.wrap .i64 ((BitVec.ofInt (IntKind.bits .i64) ((h * 2 : Nat) : Int) ||| BitVec.ofInt (IntKind.bits .i64) (b : Int)).toNat : Int) = ((h * 2 + b : Nat) : Int) := by
 have e := bv_or (x := h * 2) (b := b) (by omega) hb (by omega)
 have h2 : ((BitVec.ofInt (IntKind.bits .i64) ((h * 2 : Nat) : Int) ||| BitVec.ofInt (IntKind.bits .i64) (b : Int)).toNat : Int) = ((h * 2 + b : Nat) : Int) := by
  have e2 : IntKind.wrap .u64 ((BitVec.ofInt (IntKind.bits .i64) ((h * 2 : Nat) : Int) ||| BitVec.ofInt (IntKind.bits .i64) (b : Int)).toNat : Int) = ((h * 2 + b : Nat) : Int) := e
  have h3 : (BitVec.ofInt (IntKind.bits .i64) ((h * 2 : Nat) : Int) ||| BitVec.ofInt (IntKind.bits .i64) (b : Int)).toNat < 2 ^ (IntKind.bits .i64) := BitVec.isLt _
  have h4 : (2 : Nat) ^ (IntKind.bits .i64) = 18446744073709551616 := by decide
  rw [h4] at h3
  rw [wrapU (by omega) (by omega)] at e2
  exact e2
 rw [h2, wrapI (by omega) (by omega)]
theorem sh_hi (B : Nat) : B / 18446744073709551616 * 2 + B % 18446744073709551616 / 9223372036854775808 = B * 2 / 18446744073709551616 := by omega
theorem sh_lo (B : Nat) : B % 18446744073709551616 * 2 % 18446744073709551616 = B * 2 % 18446744073709551616 := by omega
theorem sh_bit (B : Nat) : B % 18446744073709551616 / 9223372036854775808 < 2 := by omega
theorem sh_wrap (B : Nat) : IntKind.wrap .i64 ((B % 18446744073709551616 / 9223372036854775808 : Nat) : Int) = ((B % 18446744073709551616 / 9223372036854775808 : Nat) : Int) := by
 have := sh_bit B
 exact wrapI (by omega) (by omega)
theorem sh_cond (B : Nat) : decide (((B / 18446744073709551616 : Nat) : Int) ≥ 4611686018427387904) = decide (85070591730234615865843651857942052864 ≤ B) := by
 rw [Bool.eq_iff_iff, decide_eq_true_eq, decide_eq_true_eq]; omega
theorem pow_int {d : Nat} (hd : d ≤ 62) : IntKind.wrap .i64 ((1 : Int) * 2 ^ (min (Int.toNat (d : Int)) (IntKind.bits .i64))) = ((2 ^ d : Nat) : Int) := by
 have h1 : min (Int.toNat (d : Int)) (IntKind.bits .i64) = d := by
  show min (Int.toNat (d : Int)) 64 = d
  omega
 have h2 : (2 : Nat) ^ d ≤ 2 ^ 62 := Nat.pow_le_pow_right (by decide) hd
 have h3 : (2 : Nat) ^ 62 = 4611686018427387904 := by decide
 have h4 : ((2 : Int) ^ d) = ((2 ^ d : Nat) : Int) := by simp
 rw [h3] at h2
 rw [h1, Int.one_mul, h4]
 clear h4 h3 h1
 generalize (2 : Nat) ^ d = P at *
 exact wrapI (by omega) (by omega)
theorem add_lo' {r x : Nat} (h : x ≤ r) : (((r % 18446744073709551616 : Nat) : Int) + (-(x : Int)) % 18446744073709551616 + 0) % 18446744073709551616 = (((r - x) % 18446744073709551616 : Nat) : Int) := by omega
theorem add_c0 (r x : Nat) : 0 ≤ (((r % 18446744073709551616 : Nat) : Int) + (-(x : Int)) % 18446744073709551616 + 0) / 18446744073709551616 := by omega
theorem add_c1 (r x : Nat) : (((r % 18446744073709551616 : Nat) : Int) + (-(x : Int)) % 18446744073709551616 + 0) / 18446744073709551616 ≤ 1 := by omega
theorem add_hi' {r x : Nat} (h : x ≤ r) (hr : r < 85070591730234615865843651857942052864) : IntKind.wrap .i64 ((IntKind.wrap .u64 ((r / 18446744073709551616 : Nat) : Int) + IntKind.wrap .u64 (-(x : Int) / 18446744073709551616) + (((r % 18446744073709551616 : Nat) : Int) + (-(x : Int)) % 18446744073709551616 + 0) / 18446744073709551616) % 18446744073709551616) = (((r - x) / 18446744073709551616 : Nat) : Int) := by
 rw [wrapI_, wrapU_, wrapU_]; omega
theorem add_ok {r x : Nat} (h : x ≤ r) : ((!(decide (((r / 18446744073709551616 : Nat) : Int) < 0) == decide (-(x : Int) / 18446744073709551616 < 0))) || (decide ((((r - x) / 18446744073709551616 : Nat) : Int) < 0) == decide (((r / 18446744073709551616 : Nat) : Int) < 0))) = true := by
 rw [show decide (((r / 18446744073709551616 : Nat) : Int) < 0) = false from decide_eq_false (by omega), show decide ((((r - x) / 18446744073709551616 : Nat) : Int) < 0) = false from decide_eq_false (by omega)]
 simp
theorem wrapU_nn (n : Int) : 0 ≤ IntKind.wrap .u64 n := by rw [wrapU_]; omega
theorem pow_intP {d P : Nat} (hd : d ≤ 62) (hP : P = 2 ^ d) : IntKind.wrap .i64 ((1 : Int) * 2 ^ (min (Int.toNat (d : Int)) (IntKind.bits .i64))) = (P : Int) := by rw [pow_int hd, hP]
theorem div_take {a b q r d P : Nat} (hP : P = 2 ^ d) (hb : 0 < b) (hbl : b < 170141183460469231731687303715884105728) (h : a = q * b + r) (hr : r < b * 2 ^ (d + 1)) (ha : a < 85070591730234615865843651857942052864)
  (hc : ((shR b d).2 && !decide (r < (shR b d).1)) = true) : shR b d = (b * P, true) ∧ b * P ≤ r ∧ a = (q + P) * b + (r - b * P) ∧ r - b * P < b * 2 ^ d ∧ q + P ≤ a / b ∧ r < 85070591730234615865843651857942052864 := by
 have hra : r < 85070591730234615865843651857942052864 := by omega
 have hs := shR_ok (k := d) hbl
 simp only [Bool.and_eq_true, Bool.not_eq_true', decide_eq_false_iff_not] at hc
 have hfit : b * 2 ^ d < 170141183460469231731687303715884105728 := by
  rcases Nat.lt_or_ge (b * 2 ^ d) 170141183460469231731687303715884105728 with h | h
  ·exact h
  ·rw [hs.2 h] at hc; exact absurd hc.1 (by decide)
 have e := hs.1 hfit
 rw [e] at hc
 have hle : b * 2 ^ d ≤ r := by have := hc.2; omega
 obtain ⟨s1, s2, s3⟩ := div_step hb h hr hle
 subst hP
 exact ⟨e, hle, s1, s2, s3, hra⟩
theorem div_skip {a b q r d : Nat} (hbl : b < 170141183460469231731687303715884105728) (h : a = q * b + r) (ha : a < 85070591730234615865843651857942052864)
  (hc : ((shR b d).2 && !decide (r < (shR b d).1)) = false) : r < b * 2 ^ d := by
 have hs := shR_ok (k := d) hbl
 rcases Nat.lt_or_ge (b * 2 ^ d) 170141183460469231731687303715884105728 with hf | hf
 ·rw [hs.1 hf] at hc
  simp only [Bool.true_and, Bool.not_eq_false', decide_eq_true_eq] at hc
  exact hc
 ·omega
theorem div_start {a b : Nat} (hb : 0 < b) (hq : a / b ≤ 4611686018427387904) : a < b * 2 ^ 63 := by
 have h1 := Nat.lt_mul_of_div_lt (show a / b < 4611686018427387905 by omega) hb
 have h2 : 4611686018427387905 * b ≤ 2 ^ 63 * b := Nat.mul_le_mul_right _ (by decide)
 rw [Nat.mul_comm b]; omega
theorem sBad_eq (t : Int) (l : List Int) : (decide (t < 0) || !rightN t || !(l.all rightN)) = sBad t l := by
 simp only [sBad, List.all_cons, List.all_nil, Bool.and_true]
theorem sBad_rt {t : Int} {l : List Int} (h : sBad t l = false) : ∀ x ∈ l, -4611686018427387904 ≤ x ∧ x ≤ 4611686018427387904 := fun x hx => by
 simp only [sBad, Bool.or_eq_false_iff, Bool.not_eq_false', List.all_eq_true] at h
 have hr := h.2 x hx
 simp [rightN] at hr
 omega
def oneB (b : Bool) : List D := [.v (.bool b)]
def zerosN (n : Nat) : List Nat := List.replicate n 0
theorem pick_step {T : Nat} {l : List Int} {j : Nat} (hT : T ≤ 4611686018427387904) (hj : j < l.length) : ∃ k : Nat, k < l.length ∧ bestV (givV T (sN l) l j) (restsN T (sN l) l) l.length = (k : Int) ∧ (givV T (sN l) l j).set k true = givV T (sN l) l (j + 1) ∧
  bumpV (qsV T (sN l) l) (atK T (sN l) l (j + 1)) = bump (bumpV (qsV T (sN l) l) (atK T (sN l) l j)) k ∧ 0 ≤ (bumpV (qsV T (sN l) l) (atK T (sN l) l j)).getD k 0 ∧ (bumpV (qsV T (sN l) l) (atK T (sN l) l j)).getD k 0 < 9223372036854775807 := by
 have hjo : j < (ordR T (sN l) l).length := by rw [ordR_len]; exact hj
 have e : ordR T (sN l) l = (ordR T (sN l) l).take j ++ (ordR T (sN l) l)[j] :: (ordR T (sN l) l).drop (j + 1) := by
  rw [List.getElem_cons_drop]; exact (List.take_append_drop j _).symm
 generalize hy : (ordR T (sN l) l)[j] = y at e
 generalize hB : (ordR T (sN l) l).drop (j + 1) = B at e
 generalize hA : (ordR T (sN l) l).take j = A at e
 have hAl : A.length = j := by rw [← hA, List.length_take]; omega
 have hat : atK T (sN l) l j = A.map RestV.at_ := by rw [atK, hA]
 have hat1 : atK T (sN l) l (j + 1) = A.map RestV.at_ ++ [y.at_] := by
  rw [atK, e, ← hAl, show A ++ y :: B = (A ++ [y]) ++ B by simp, show A.length + 1 = (A ++ [y]).length by simp, List.take_left]; simp
 obtain ⟨o1, o2, o3⟩ := ord_mid hT e
 have h1 := best_at e
 have h2 := giv_set e
 rw [hAl] at h1 h2
 refine ⟨y.at_, o1, h1, h2, ?_, ?_, ?_⟩
 ·rw [hat1, bumpV_snoc, hat]
 ·rw [hat]; exact o2
 ·rw [hat]; omega
theorem best_lt {g : List Bool} {r : List Nat} {n m : Nat} (h : n < m) : (bestV g r n).toNat < m := by
 rcases best_inv g r n with ⟨h1, h2, h3⟩ | ⟨h1, h2, h3, h4⟩
 ·omega
 ·omega
theorem best_rng {g : List Bool} {r : List Nat} {n m : Nat} (h : n < m) (hn : decide (bestV g r n < 0) = false) : 0 ≤ bestV g r n ∧ bestV g r n < (m : Int) := by
 have hn := of_decide_eq_false hn
 rcases best_inv g r n with ⟨h1, h2, h3⟩ | ⟨h1, h2, h3, h4⟩
 ·omega
 ·omega
theorem set_q {T S : Nat} {pre post : List Int} {x : Int} : (((qsV T S pre ++ zerosI (post.length + 1)).map fun n => [iv n]).map fun x => x.map AV.d).set pre.length [.d (iv ((T * x.toNat / S : Nat) : Int))] = (((qsV T S (pre ++ [x]) ++ zerosI post.length).map fun n => [iv n]).map fun x => x.map AV.d) := by
 rw [qsV_snoc, show zerosI (post.length + 1) = 0 :: zerosI post.length from rfl, ← qsV_len T S pre, ats_set]; simp
theorem get_q {T S : Nat} {pre post : List Int} {x : Int} : (((qsV T S (pre ++ [x]) ++ zerosI post.length).map fun n => [iv n]).map fun x => x.map AV.d).getD pre.length [] = [.d (iv ((T * x.toNat / S : Nat) : Int))] := by
 rw [qsV_snoc, List.append_assoc, List.singleton_append, ← qsV_len T S pre, ats_get]
theorem set_r {T S : Nat} {pre post : List Int} {x : Int} : (((restsN T S pre ++ zerosN (post.length + 1)).map wN).map fun x => x.map AV.d).set pre.length ((wN (T * x.toNat % S)).map AV.d) = (((restsN T S (pre ++ [x]) ++ zerosN post.length).map wN).map fun x => x.map AV.d) := by
 rw [restsN_snoc, show zerosN (post.length + 1) = 0 :: zerosN post.length from rfl]
 conv => lhs; rw [← restsN_len T S pre]
 simp [List.set_append]
theorem get_r {L : List Nat} {i : Nat} (h : i < L.length) : ((L.map wN).map fun x => x.map AV.d).getD i [] = (wN (L.getD i 0)).map AV.d := by
 simp [List.getD_eq_getElem?_getD, List.getElem?_eq_getElem h]
theorem get_b {L : List Bool} {i : Nat} (h : i < L.length) : ((L.map oneB).map fun x => x.map AV.d).getD i [] = [.d (.v (.bool (L.getD i false)))] := by
 simp [oneB, List.getD_eq_getElem?_getD, List.getElem?_eq_getElem h]
theorem set_b (L : List Bool) (i : Nat) (b : Bool) : ((L.map oneB).map fun x => x.map AV.d).set i [.d (.v (.bool b))] = (((L.set i b).map oneB).map fun x => x.map AV.d) := by
 rw [List.map_set, List.map_set]; rfl
theorem best_step (g : List Bool) (r : List Nat) (n : Nat) : (bif !(g.getD n false) && (decide (bestV g r n < 0) || decide (r.getD (bestV g r n).toNat 0 < r.getD n 0)) then (n : Int) else bestV g r n) = bestV g r (n + 1) := rfl
theorem get_q0 {T S : Nat} {pre post : List Int} : (((qsV T S pre ++ zerosI (post.length + 1)).map fun n => [iv n]).map fun x => x.map AV.d).getD pre.length [] = [.d (iv 0)] := by
 rw [show zerosI (post.length + 1) = 0 :: zerosI post.length from rfl, ← qsV_len T S pre, ats_get]
theorem get_r0 {T S : Nat} {pre post : List Int} : (((restsN T S pre ++ zerosN (post.length + 1)).map wN).map fun x => x.map AV.d).getD pre.length [] = [.d (iv 0), .d (.v (.int .u64 0))] := by
 rw [get_r (by simp [restsN_len, zerosN])]
 rw [show zerosN (post.length + 1) = 0 :: zerosN post.length from rfl, ← restsN_len T S pre]
 simp [wN]
theorem times_bnd {T W : Nat} (hT : T ≤ 4611686018427387904) (hW : W ≤ 4611686018427387904) : T * W < 85070591730234615865843651857942052864 :=
 Nat.lt_of_le_of_lt (Nat.mul_le_mul hT hW) (by decide)
end Go.Proofs.YtjkfadaedgidpaaGreat
