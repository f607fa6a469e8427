/- What the functions on numbers, sums and trades answer, in plain terms. No condition. -/
import Derived.Test.YtjkfadaedgidpaaGreatAbsU
namespace Go.Proofs.YtjkfadaedgidpaaGreat
open Go.RowKit
set_option linter.unusedVariables false
set_option linter.unusedSimpArgs false
def rightN (n : Int) : Bool := !(decide (n < -4611686018427387904) || decide (n > 4611686018427387904))
theorem within_law {t : Int} (h0 : -85070591730234615865843651857942052864 ≤ t) (h1 : t < 85070591730234615865843651857942052864) :
  (hiN t != IntKind.wrap .u64 ((IntKind.wrap .i64 (loN t)).fdiv (2 ^ (min (Int.toNat 63) (IntKind.bits .i64)))) || !([IntKind.wrap .i64 (loN t)].all rightN)) = !rightN t := by
 have hw : -9223372036854775808 ≤ IntKind.wrap .i64 (loN t) ∧ IntKind.wrap .i64 (loN t) < 9223372036854775808 := by rw [wrapI_]; omega
 rw [shr63 hw.1 hw.2, IntKind.wrap_u64, Bool.eq_iff_iff]
 simp only [List.all_cons, List.all_nil, rightN, Bool.or_eq_true, bne_iff_ne, ne_eq, Bool.not_not, Bool.and_true, decide_eq_true_eq, hiN, loN, wrapI_, Bool.not_or, Bool.not_and]
 split <;> omega
theorem within_val {t : Int} (h0 : -85070591730234615865843651857942052864 ≤ t) (h1 : t < 85070591730234615865843651857942052864) (h : rightN t = true) : IntKind.wrap .i64 (loN t) = t := by
 simp [rightN] at h
 rw [wrapI_]
 simp only [loN]
 omega
def sumV (l : List Int) : Int := bif l.all rightN && rightN l.sum then l.sum else 0
def sumE (l : List Int) : Int := bif l.all rightN then (bif rightN l.sum then 0 else 1) else 3
theorem sum_bound0 : ∀ {l : List Int}, l.all rightN = true → -(4611686018427387904 * (l.length : Int)) ≤ l.sum ∧ l.sum ≤ 4611686018427387904 * (l.length : Int)
 | [], _ => by simp
 | x :: l, h => by
  simp only [List.all_cons, Bool.and_eq_true] at h
  have h1 := sum_bound0 h.2
  have h2 := h.1
  simp [rightN] at h2
  simp only [List.sum_cons, List.length_cons]
  omega
theorem sum_bound {l : List Int} (h : l.all rightN = true) (hl : l.length < 4611686018427387904) : -85070591730234615865843651857942052864 ≤ l.sum ∧ l.sum < 85070591730234615865843651857942052864 := by
 have := sum_bound0 h
 omega
structure PosV where
 who : Int
 inst : Int
 qty : Int
 cost : Int
def posC (p : PosV) : List D := [iv p.who, iv p.inst, iv p.qty, iv p.cost]
def poss (l : List PosV) : D := .sl 4 (l.map posC)
def tsA (l : List PosV) : Bool := (l.map PosV.qty).all rightN && (l.map PosV.cost).all rightN
def tsB (l : List PosV) : Bool := tsA l && rightN (l.map PosV.qty).sum && rightN (l.map PosV.cost).sum
def tsQ (l : List PosV) : Int := bif tsB l then (l.map PosV.qty).sum else 0
def tsC (l : List PosV) : Int := bif tsB l then (l.map PosV.cost).sum else 0
def tsE (l : List PosV) : Int := bif tsA l then (bif tsB l then 0 else 1) else 3
def wideA (t : Int) : AV := .ag [.d (iv (t / 18446744073709551616)), .d (.v (.int .u64 (t % 18446744073709551616)))]
def wideC (t : Int) : List D := [iv (t / 18446744073709551616), .v (.int .u64 (t % 18446744073709551616))]
def wides (l : List Int) : D := .sl 2 (l.map wideC)
theorem wide_neg {n : Int} (h0 : -9223372036854775808 ≤ n) (h : n < 0) : wideA n = .ag [.d (iv (-1)), .d (.v (.int .u64 (IntKind.wrap .u64 n)))] := by
 rw [wrapU_, wideA, show n / 18446744073709551616 = -1 from by omega]
theorem wide_pos {n : Int} (h1 : n < 9223372036854775808) (h : 0 ≤ n) : wideA n = .ag [.d (iv 0), .d (.v (.int .u64 (IntKind.wrap .u64 n)))] := by
 rw [wrapU_, wideA, show n / 18446744073709551616 = 0 from by omega]
def topN (t : Int) : Int := t / 340282366920938463463374607431768211456
def fitsW (t : Int) : Bool := decide (-170141183460469231731687303715884105728 ≤ t) && decide (t < 170141183460469231731687303715884105728)
theorem sum_snoc (pre : List Int) (x : Int) : (pre ++ [x]).sum = pre.sum + x := by simp
theorem wsum_bound : ∀ {l : List Int}, (∀ x ∈ l, -170141183460469231731687303715884105728 ≤ x ∧ x < 170141183460469231731687303715884105728) → l.length ≤ 1000000 →
  -170141183460469231731687303715884105728000000 ≤ l.sum ∧ l.sum ≤ 170141183460469231731687303715884105728000000 := by
 have key : ∀ {l : List Int}, (∀ x ∈ l, -170141183460469231731687303715884105728 ≤ x ∧ x < 170141183460469231731687303715884105728) →
   -(170141183460469231731687303715884105728 * (l.length : Int)) ≤ l.sum ∧ l.sum ≤ 170141183460469231731687303715884105728 * (l.length : Int) := by
  intro l
  induction l with
  | nil => intro _; simp
  | cons x l ih =>
   intro h
   have h1 := ih fun y hy => h y (by simp [hy])
   have h2 := h x (by simp)
   simp only [List.sum_cons, List.length_cons]
   omega
 intro l h hl
 have := key h
 omega
theorem wcarry0 (s x : Int) : 0 ≤ (loN s + x % 18446744073709551616 + 0) / 18446744073709551616 := by simp only [loN]; omega
theorem wcarry1 (s x : Int) : (loN s + x % 18446744073709551616 + 0) / 18446744073709551616 ≤ 1 := by simp only [loN]; omega
theorem wsum_lo (s x : Int) : (loN s + x % 18446744073709551616 + 0) % 18446744073709551616 = loN (s + x) := by simp only [loN]; omega
theorem wsum_hi (s x : Int) : (hiN s + IntKind.wrap .u64 (x / 18446744073709551616) + (loN s + x % 18446744073709551616 + 0) / 18446744073709551616) % 18446744073709551616 = hiN (s + x) := by
 rw [wrapU_]; simp only [loN, hiN]; omega
theorem wsum_carry (s x : Int) (h0 : -170141183460469231731687303715884105728 ≤ x) (h1 : x < 170141183460469231731687303715884105728) :
  topN s + (hiN s + IntKind.wrap .u64 (x / 18446744073709551616) + (loN s + x % 18446744073709551616 + 0) / 18446744073709551616) / 18446744073709551616 - (if x / 18446744073709551616 < 0 then 1 else 0) = topN (s + x) := by
 rw [wrapU_]; simp only [loN, hiN, topN]
 split <;> omega
theorem wsum_dbound (s x : Int) (h0 : -170141183460469231731687303715884105728 ≤ x) (h1 : x < 170141183460469231731687303715884105728) :
  0 ≤ (hiN s + IntKind.wrap .u64 (x / 18446744073709551616) + (loN s + x % 18446744073709551616 + 0) / 18446744073709551616) / 18446744073709551616 ∧ (hiN s + IntKind.wrap .u64 (x / 18446744073709551616) + (loN s + x % 18446744073709551616 + 0) / 18446744073709551616) / 18446744073709551616 ≤ 1 := by
 rw [wrapU_]; simp only [loN, hiN]; omega
theorem topN_bound {s : Int} (h0 : -170141183460469231731687303715884105728000000 ≤ s) (h1 : s ≤ 170141183460469231731687303715884105728000000) : -1000000 ≤ topN s ∧ topN s ≤ 1000000 := by
 simp only [topN]; omega
theorem wsum_topA {s x : Int} (s0 : -170141183460469231731687303715884105728000000 ≤ s) (s1 : s ≤ 170141183460469231731687303715884105728000000) (h0 : -170141183460469231731687303715884105728 ≤ x) (h1 : x < 170141183460469231731687303715884105728) (hb : decide (x / 18446744073709551616 < 0) = true) :
  IntKind.wrap .i64 (IntKind.wrap .i64 (topN s + IntKind.wrap .i64 ((hiN s + IntKind.wrap .u64 (x / 18446744073709551616) + (loN s + x % 18446744073709551616 + 0) / 18446744073709551616) / 18446744073709551616)) - 1) = topN (s + x) := by
 have h2 := wsum_carry s x h0 h1
 have h3 := wsum_dbound s x h0 h1
 have h4 := topN_bound s0 s1
 generalize (hiN s + IntKind.wrap .u64 (x / 18446744073709551616) + (loN s + x % 18446744073709551616 + 0) / 18446744073709551616) / 18446744073709551616 = d at *
 simp only [decide_eq_true_eq] at hb
 simp only [hb, if_true] at h2
 rw [wrapI (n := d) (by omega) (by omega), wrapI (n := topN s + d) (by omega) (by omega), wrapI (by omega) (by omega)]
 omega
theorem wsum_topB {s x : Int} (s0 : -170141183460469231731687303715884105728000000 ≤ s) (s1 : s ≤ 170141183460469231731687303715884105728000000) (h0 : -170141183460469231731687303715884105728 ≤ x) (h1 : x < 170141183460469231731687303715884105728) (hb : decide (x / 18446744073709551616 < 0) = false) :
  IntKind.wrap .i64 (topN s + IntKind.wrap .i64 ((hiN s + IntKind.wrap .u64 (x / 18446744073709551616) + (loN s + x % 18446744073709551616 + 0) / 18446744073709551616) / 18446744073709551616)) = topN (s + x) := by
 have h2 := wsum_carry s x h0 h1
 have h3 := wsum_dbound s x h0 h1
 have h4 := topN_bound s0 s1
 generalize (hiN s + IntKind.wrap .u64 (x / 18446744073709551616) + (loN s + x % 18446744073709551616 + 0) / 18446744073709551616) / 18446744073709551616 = d at *
 simp only [decide_eq_false_iff_not] at hb
 simp only [hb, if_false] at h2
 rw [wrapI (n := d) (by omega) (by omega), wrapI (by omega) (by omega)]
 omega
theorem fits_law (t : Int) : ((topN t == 0 && decide (IntKind.wrap .i64 (hiN t) ≥ 0)) || (topN t == -1 && decide (IntKind.wrap .i64 (hiN t) < 0))) = fitsW t := by
 rw [Bool.eq_iff_iff]
 simp only [fitsW, Bool.or_eq_true, Bool.and_eq_true, beq_iff_eq, decide_eq_true_eq]
 rw [wrapI_]
 simp only [topN, hiN]
 have e : t / 340282366920938463463374607431768211456 = t / 18446744073709551616 / 18446744073709551616 := by omega
 have e1 : -170141183460469231731687303715884105728 ≤ t ↔ -9223372036854775808 ≤ t / 18446744073709551616 := by omega
 have e2 : t < 170141183460469231731687303715884105728 ↔ t / 18446744073709551616 < 9223372036854775808 := by omega
 rw [e, e1, e2]
 generalize t / 18446744073709551616 = q
 omega
theorem wide_fit {t : Int} (h : fitsW t = true) : wideA t = .ag [.d (iv (IntKind.wrap .i64 (hiN t))), .d (.v (.int .u64 (loN t)))] := by
 simp only [fitsW, Bool.and_eq_true, decide_eq_true_eq] at h
 rw [wrapI_, wideA, show (hiN t + 9223372036854775808) % 18446744073709551616 - 9223372036854775808 = t / 18446744073709551616 from by simp only [hiN]; omega]
 rfl
theorem wI0 (n : Int) : -9223372036854775808 ≤ IntKind.wrap .i64 n := by rw [wrapI_]; omega
theorem wI1 (n : Int) : IntKind.wrap .i64 n < 9223372036854775808 := by rw [wrapI_]; omega
theorem int_law (t : Int) : ((!veqL [.int .i64 (IntKind.wrap .i64 (t % 18446744073709551616) / 18446744073709551616), .int .u64 (IntKind.wrap .i64 (t % 18446744073709551616) % 18446744073709551616)] [.int .i64 (t / 18446744073709551616), .int .u64 (t % 18446744073709551616)]) || !rightN (IntKind.wrap .i64 (t % 18446744073709551616))) = !rightN t := by
 rw [Bool.eq_iff_iff]
 simp only [veqL, veq, rightN, Bool.or_eq_true, Bool.and_true, Bool.not_eq_true', Bool.not_eq_false', Bool.and_eq_false_iff, beq_eq_false_iff_ne, ne_eq, Bool.not_not, decide_eq_true_eq]
 rw [wrapI_]
 omega
theorem int_val {t : Int} (h : rightN t = true) : IntKind.wrap .i64 (t % 18446744073709551616) = t := by
 simp [rightN] at h
 rw [wrapI_]; omega
theorem fits_small {l : List Int} (hall : ∀ x ∈ l, -9223372036854775808 ≤ x ∧ x < 9223372036854775808) (hl : l.length ≤ 1000000) : fitsW l.sum = true := by
 have key : -(9223372036854775808 * (l.length : Int)) ≤ l.sum ∧ l.sum ≤ 9223372036854775808 * (l.length : Int) := by
  clear hl
  induction l with
  | nil => simp
  | cons x l ih =>
   have h1 := ih fun y hy => hall y (by simp [hy])
   have h2 := hall x (by simp)
   simp only [List.sum_cons, List.length_cons]
   omega
 simp only [fitsW, Bool.and_eq_true, decide_eq_true_eq]
 omega
structure TradeV where
 no : Int
 buyer : Int
 seller : Int
 inst : Int
 qty : Int
 price : Int
 gone : Bool
def tradeC (t : TradeV) : List D := [iv t.no, iv t.buyer, iv t.seller, iv t.inst, iv t.qty, iv t.price, .v (.bool t.gone)]
def tradeOk (t : TradeV) : Bool := decide (t.qty ≥ 1) && decide (t.qty ≤ 1048576) && decide (t.price ≥ 1) && decide (t.price ≤ 1073741824)
def legA (t : TradeV) : PosV := ⟨t.buyer, t.inst, t.qty, IntKind.wrap .i64 (t.qty * t.price)⟩
def legB (t : TradeV) : PosV := ⟨t.seller, t.inst, IntKind.wrap .i64 (0 - t.qty), IntKind.wrap .i64 (0 - IntKind.wrap .i64 (t.qty * t.price))⟩
def legsC (t : TradeV) : List (List D) := [posC (legA t), posC (legB t)]
def unLeg (p : PosV) : PosV := ⟨p.who, p.inst, IntKind.wrap .i64 (0 - p.qty), IntKind.wrap .i64 (0 - p.cost)⟩
def undoC (t : TradeV) : List (List D) := [posC (unLeg (legA t)), posC (unLeg (legB t))]
end Go.Proofs.YtjkfadaedgidpaaGreat
namespace Go.Proofs.YtjkfadaedgidpaaGreat
open Go.RowKit
set_option linter.unusedVariables false
set_option linter.unusedSimpArgs false
structure InstV where
 no : Int
 cur : Int
 mult : Int
 add : Int
 set : Int
 price : Int
 s0 : Int
 s1 : Int
 s2 : Int
 s3 : Int
 s4 : Int
 s5 : Int
def instC (i : InstV) : List D := [iv i.no, iv i.cur, iv i.mult, iv i.add, iv i.set, iv i.price, iv i.s0, iv i.s1, iv i.s2, iv i.s3, iv i.s4, iv i.s5]
structure MemV where
 no : Int
 state : Int
 need : Int
def memC (m : MemV) : List D := [iv m.no, iv m.state, iv m.need]
structure AssetV where
 no : Int
 cur : Int
 price : Int
 cut : Int
def assetC (a : AssetV) : List D := [iv a.no, iv a.cur, iv a.price, iv a.cut]
structure RollV where
 mems : List MemV
 insts : List InstV
 assets : List AssetV
def memsD (l : List MemV) : D := .sl 3 (l.map memC)
def instsD (l : List InstV) : D := .sl 12 (l.map instC)
def assetsD (l : List AssetV) : D := .sl 4 (l.map assetC)
def rollC (r : RollV) : List D := [memsD r.mems, instsD r.insts, assetsD r.assets]
def fnD (f : Nat) : D := .v (.func (.func f) #[] #[])
def inR (n lo hi : Int) : Bool := decide (n ≥ lo) && decide (n ≤ hi)
def memOk (m : MemV) : Bool := inR m.no 1 16 && inR m.state 1 3 && [m.need].all rightN && decide (m.need ≥ 0)
def assetOk (a : AssetV) : Bool := inR a.no 1 6 && inR a.cur 0 2 && inR a.price 1 1073741824 && inR a.cut 0 10000
def shOk (n : Int) : Bool := inR n (-1073741824) 1073741824
def instOk (i : InstV) : Bool := shOk i.s0 && shOk i.s1 && shOk i.s2 && shOk i.s3 && shOk i.s4 && shOk i.s5 &&
 (inR i.no 1 8 && inR i.cur 0 2 && inR i.mult 1 1024 && inR i.add 0 1073741824 && inR i.set 0 1073741824 && inR i.price 0 1073741824)
def chk {α : Type} (ok : α → Bool) (no : α → Int) : Option α → List α → Bool
 | _, [] => true
 | p, x :: xs => ok x && (match p with | none => true | some y => !decide (no y ≥ no x)) && chk ok no (some x) xs
def lastOr {α : Type} (x : α) (pre : List α) : α := pre.getLast?.getD x
theorem prev_get {α β : Type} (f : α → β) (pre post : List α) (x : α) (d : β) (h : pre.length < 4611686018427387904) :
  ((pre ++ x :: post).map f).getD (Int.toNat (IntKind.wrap .i64 ((pre.length : Int) - 1))) d = f (lastOr x pre) := by
 rw [wrapI (by omega) (by omega)]
 rcases List.eq_nil_or_concat pre with rfl | ⟨q, y, rfl⟩
 ·simp [lastOr]
 ·rw [show Int.toNat (((q.concat y).length : Int) - 1) = q.length from by simp]
  simp [lastOr, List.getD]
theorem prev_ok {α : Type} (pre : List α) (h : pre.length < 4611686018427387904) (hp : decide ((pre.length : Int) > 0) = true) : 0 ≤ IntKind.wrap .i64 ((pre.length : Int) - 1) := by
 simp at hp; rw [wrapI (by omega) (by omega)]; omega
theorem prev_lt {α : Type} (pre post : List α) (x : α) (h : pre.length < 4611686018427387904) : IntKind.wrap .i64 ((pre.length : Int) - 1) < ((pre ++ x :: post).length : Int) := by
 rw [wrapI (by omega) (by omega)]; simp; omega
theorem chk_step {α : Type} (ok : α → Bool) (no : α → Int) (pre post : List α) (x : α) :
  chk ok no pre.getLast? (x :: post) = ((!(!ok x || (decide ((pre.length : Int) > 0) && decide (no (lastOr x pre) ≥ no x)))) && chk ok no (pre ++ [x]).getLast? post) := by
 rcases List.eq_nil_or_concat pre with rfl | ⟨q, y, rfl⟩
 ·simp [chk]
 ·simp [chk, lastOr]
def rollOk (r : RollV) : Bool := chk memOk MemV.no none r.mems && chk instOk InstV.no none r.insts && chk assetOk AssetV.no none r.assets
def rollE (r : RollV) : Int := bif rollOk r then 0 else 14
def heavy (r : RollV) : Bool := decide ((r.mems.length : Int) > 100) || decide ((r.insts.length : Int) > 100) || decide ((r.assets.length : Int) > 100)
structure RollV.Small (r : RollV) : Prop where
 mems : r.mems.length ≤ 1000000
 insts : r.insts.length ≤ 1000000
 assets : r.assets.length ≤ 1000000
theorem small_of {r : RollV} (h : heavy r = false) : r.Small := by
 simp [heavy] at h
 exact ⟨by omega, by omega, by omega⟩
def findI {α : Type} (no : α → Int) (n : Int) : Nat → List α → Int
 | _, [] => -1
 | k, x :: xs => bif no x == n then (k : Int) else findI no n (k + 1) xs
def findX {α : Type} (no : α → Int) (n : Int) (z : α) : List α → α
 | [] => z
 | x :: xs => bif no x == n then x else findX no n z xs
def hasX {α : Type} (no : α → Int) (n : Int) : List α → Bool
 | [] => false
 | x :: xs => no x == n || hasX no n xs
theorem findI_has {α : Type} (no : α → Int) (n : Int) : ∀ (k : Nat) (l : List α), decide (findI no n k l ≥ 0) = hasX no n l
 | k, [] => by simp [findI, hasX]
 | k, x :: xs => by
  cases h : no x == n
  ·simp only [findI, hasX, h, cond_false, Bool.false_or]; exact findI_has no n (k + 1) xs
  ·simp [findI, hasX, h]
def zMem : MemV := ⟨0, 0, 0⟩
def zInst : InstV := ⟨0, 0, 0, 0, 0, 0, 0, 0, 0, 0, 0, 0⟩
def memA (m : MemV) : AV := .ag ((memC m).map .d)
def instA (m : InstV) : AV := .ag ((instC m).map .d)
end Go.Proofs.YtjkfadaedgidpaaGreat
namespace Go.Proofs.YtjkfadaedgidpaaGreat
open Go.RowKit
set_option linter.unusedVariables false
set_option linter.unusedSimpArgs false
theorem mask32 {x : Int} (h0 : 0 ≤ x) (h1 : x < 18446744073709551616) : IntKind.wrap .u64 (((BitVec.ofInt (IntKind.bits .u64) x &&& BitVec.ofInt (IntKind.bits .u64) 4294967295).toNat : Nat) : Int) = x % 4294967296 := by
 obtain ⟨n, rfl⟩ := Int.eq_ofNat_of_zero_le h0
 show IntKind.wrap .u64 (((BitVec.ofInt 64 (n : Int) &&& BitVec.ofInt 64 ((4294967295 : Nat) : Int)).toNat : Nat) : Int) = _
 rw [BitVec.ofInt_natCast, BitVec.ofInt_natCast, BitVec.toNat_and]
 have e : (BitVec.ofNat 64 n).toNat &&& (BitVec.ofNat 64 4294967295).toNat = n % 4294967296 := by
  rw [BitVec.toNat_ofNat, BitVec.toNat_ofNat, Nat.mod_eq_of_lt (by omega : n < 2 ^ 64), Nat.mod_eq_of_lt (by decide : 4294967295 < 2 ^ 64)]
  exact Nat.and_two_pow_sub_one_eq_mod n 32
 rw [e, IntKind.wrap_u64]
 omega
theorem shr32 {x : Int} (h0 : 0 ≤ x) : x.fdiv (2 ^ (min (Int.toNat 32) (IntKind.bits .u64))) = x / 4294967296 := by
 rw [show (2 : Int) ^ (min (Int.toNat 32) (IntKind.bits .u64)) = 4294967296 from by decide, Int.fdiv_eq_ediv_of_nonneg _ (by decide)]
def hi64 (x y : Int) : Int :=
 IntKind.wrap .u64 (IntKind.wrap .u64 (IntKind.wrap .u64 (x / 4294967296 * (y / 4294967296)) + IntKind.wrap .u64 (IntKind.wrap .u64 (x / 4294967296 * (y % 4294967296)) + IntKind.wrap .u64 (x % 4294967296 * (y % 4294967296)) / 4294967296) / 4294967296)
  + IntKind.wrap .u64 (IntKind.wrap .u64 (IntKind.wrap .u64 (x / 4294967296 * (y % 4294967296)) + IntKind.wrap .u64 (x % 4294967296 * (y % 4294967296)) / 4294967296) % 4294967296 + IntKind.wrap .u64 (x % 4294967296 * (y / 4294967296))) / 4294967296)
theorem mul_bd {a b : Int} (h0 : 0 ≤ a) (h1 : a < 4294967296) (k0 : 0 ≤ b) (k1 : b < 4294967296) : 0 ≤ a * b ∧ a * b ≤ 18446744065119617025 := by
 refine ⟨Int.mul_nonneg h0 k0, ?_⟩
 have : a * b ≤ 4294967295 * 4294967295 := Int.mul_le_mul (by omega) (by omega) k0 (by decide)
 omega
theorem hi64_eq {x y : Int} (h0 : 0 ≤ x) (h1 : x < 18446744073709551616) (k0 : 0 ≤ y) (k1 : y < 18446744073709551616) : hi64 x y = x * y / 18446744073709551616 := by
 have e : x * y = x / 4294967296 * (y / 4294967296) * 18446744073709551616 + (x / 4294967296 * (y % 4294967296) + x % 4294967296 * (y / 4294967296)) * 4294967296 + x % 4294967296 * (y % 4294967296) := by
  have hx : x = x / 4294967296 * 4294967296 + x % 4294967296 := by omega
  have hy : y = y / 4294967296 * 4294967296 + y % 4294967296 := by omega
  generalize x / 4294967296 = a at *
  generalize x % 4294967296 = b at *
  generalize y / 4294967296 = c at *
  generalize y % 4294967296 = d at *
  subst hx hy
  grind
 have A := mul_bd (a := x / 4294967296) (b := y / 4294967296) (by omega) (by omega) (by omega) (by omega)
 have B := mul_bd (a := x / 4294967296) (b := y % 4294967296) (by omega) (by omega) (by omega) (by omega)
 have C := mul_bd (a := x % 4294967296) (b := y / 4294967296) (by omega) (by omega) (by omega) (by omega)
 have E := mul_bd (a := x % 4294967296) (b := y % 4294967296) (by omega) (by omega) (by omega) (by omega)
 rw [e]
 unfold hi64
 generalize x / 4294967296 * (y / 4294967296) = p at *
 generalize x / 4294967296 * (y % 4294967296) = q at *
 generalize x % 4294967296 * (y / 4294967296) = r at *
 generalize x % 4294967296 * (y % 4294967296) = t at *
 clear e
 rw [wrapU (n := p) (by omega) (by omega), wrapU (n := q) (by omega) (by omega), wrapU (n := r) (by omega) (by omega), wrapU (n := t) (by omega) (by omega)]
 rw [wrapU (n := q + t / 4294967296) (by omega) (by omega)]
 rw [wrapU (n := (q + t / 4294967296) % 4294967296 + r) (by omega) (by omega)]
 rw [wrapU (n := p + (q + t / 4294967296) / 4294967296) (by omega) (by omega)]
 rw [wrapU (by omega) (by omega)]
 omega
def timesHi (a b : Int) : Int :=
 let h := IntKind.wrap .u64 a * IntKind.wrap .u64 b / 18446744073709551616
 let h1 := if a < 0 then IntKind.wrap .u64 (h - IntKind.wrap .u64 b) else h
 if b < 0 then IntKind.wrap .u64 (h1 - IntKind.wrap .u64 a) else h1
theorem wu_lt (t : Int) : IntKind.wrap .u64 t < 18446744073709551616 := by rw [wrapU_]; omega
def top3 (t : Int) : Int := topN t % 18446744073709551616
def worthBad (p : PosV) (m k : Int) : Bool := decide (p.qty < -1099511627776) || decide (p.qty > 1099511627776) || !([p.cost].all rightN) || decide (m < 1) || decide (m > 1024) || decide (k < 0) || decide (k > 1073741824)
def worthT (p : PosV) (m k : Int) : Int := m * p.qty * k + -p.cost * m
def worthV (p : PosV) (m k : Int) : Int := bif worthBad p m k then 0 else (bif rightN (worthT p m k) then worthT p m k else 0)
def worthE (p : PosV) (m k : Int) : Int := bif worthBad p m k then 3 else (bif rightN (worthT p m k) then 0 else 1)
theorem abs_mul {a b : Int} {x y : Nat} (h : a.natAbs ≤ x) (k : b.natAbs ≤ y) : (a * b).natAbs ≤ x * y := by
 rw [Int.natAbs_mul]; exact Nat.mul_le_mul h k
end Go.Proofs.YtjkfadaedgidpaaGreat
