/- What the functions on numbers, sums and trades answer, in plain terms. No condition. -/
import Derived.Test.YtopifbpibkpmmaaAbsU
namespace Go.Proofs.Ytopifbpibkpmmaa
open Go.RowKit
set_option linter.unusedVariables false
set_option linter.unusedSimpArgs false
def rightN (n : Int) : Bool := !(decide (n < -4611686018427387904) || decide (n > 4611686018427387904))
theorem within_law {t : Int} (h0 : -85070591730234615865843651857942052864 ≤ t) (h1 : t < 85070591730234615865843651857942052864) :
  (hiN t != IntKind.wrap .u64 ((IntKind.wrap .i64 (loN t)).fdiv (2 ^ (min (Int.toNat 63) (IntKind.bits .i64)))) || !([IntKind.wrap .i64 (loN t)].all rightN)) = !rightN t := by
 have hw : -9223372036854775808 ≤ IntKind.wrap .i64 (loN t) ∧ IntKind.wrap .i64 (loN t) < 9223372036854775808 := by rw [wrapI_]; omega
 rw [shr63 hw.1 hw.2, IntKind.wrap_u64, Bool.eq_iff_iff]
 simp only [List.all_cons, List.all_nil, rightN, Bool.or_eq_true, bne_iff_ne, ne_eq, Bool.not_not, Bool.and_true, decide_eq_true_eq, hiN, loN, wrapI_, Bool.not_or, Bool.not_and]
 split <;> omega
theorem within_val {t : Int} (h0 : -85070591730234615865843651857942052864 ≤ t) (h1 : t < 85070591730234615865843651857942052864) (h : rightN t = true) : IntKind.wrap .i64 (loN t) = t := by
 simp [rightN] at h
 rw [wrapI_]
 simp only [loN]
 omega
def sumV (l : List Int) : Int := bif l.all rightN && rightN l.sum then l.sum else 0
def sumE (l : List Int) : Int := bif l.all rightN then (bif rightN l.sum then 0 else 1) else 3
theorem sum_bound0 : ∀ {l : List Int}, l.all rightN = true → -(4611686018427387904 * (l.length : Int)) ≤ l.sum ∧ l.sum ≤ 4611686018427387904 * (l.length : Int)
 | [], _ => by simp
 | x :: l, h => by
  simp only [List.all_cons, Bool.and_eq_true] at h
  have h1 := sum_bound0 h.2
  have h2 := h.1
  simp [rightN] at h2
  simp only [List.sum_cons, List.length_cons]
  omega
theorem sum_bound {l : List Int} (h : l.all rightN = true) (hl : l.length < 4611686018427387904) : -85070591730234615865843651857942052864 ≤ l.sum ∧ l.sum < 85070591730234615865843651857942052864 := by
 have := sum_bound0 h
 omega
structure PosV where
 who : Int
 inst : Int
 qty : Int
 cost : Int
def posC (p : PosV) : List D := [iv p.who, iv p.inst, iv p.qty, iv p.cost]
def poss (l : List PosV) : D := .sl 4 (l.map posC)
def tsA (l : List PosV) : Bool := (l.map PosV.qty).all rightN && (l.map PosV.cost).all rightN
def tsB (l : List PosV) : Bool := tsA l && rightN (l.map PosV.qty).sum && rightN (l.map PosV.cost).sum
def tsQ (l : List PosV) : Int := bif tsB l then (l.map PosV.qty).sum else 0
def tsC (l : List PosV) : Int := bif tsB l then (l.map PosV.cost).sum else 0
def tsE (l : List PosV) : Int := bif tsA l then (bif tsB l then 0 else 1) else 3
def wideA (t : Int) : AV := .ag [.d (iv (t / 18446744073709551616)), .d (.v (.int .u64 (t % 18446744073709551616)))]
def wideC (t : Int) : List D := [iv (t / 18446744073709551616), .v (.int .u64 (t % 18446744073709551616))]
def wides (l : List Int) : D := .sl 2 (l.map wideC)
theorem wide_neg {n : Int} (h0 : -9223372036854775808 ≤ n) (h : n < 0) : wideA n = .ag [.d (iv (-1)), .d (.v (.int .u64 (IntKind.wrap .u64 n)))] := by
 rw [wrapU_, wideA, show n / 18446744073709551616 = -1 from by omega]
theorem wide_pos {n : Int} (h1 : n < 9223372036854775808) (h : 0 ≤ n) : wideA n = .ag [.d (iv 0), .d (.v (.int .u64 (IntKind.wrap .u64 n)))] := by
 rw [wrapU_, wideA, show n / 18446744073709551616 = 0 from by omega]
def topN (t : Int) : Int := t / 340282366920938463463374607431768211456
def fitsW (t : Int) : Bool := decide (-170141183460469231731687303715884105728 ≤ t) && decide (t < 170141183460469231731687303715884105728)
theorem sum_snoc (pre : List Int) (x : Int) : (pre ++ [x]).sum = pre.sum + x := by simp
theorem wsum_bound : ∀ {l : List Int}, (∀ x ∈ l, -170141183460469231731687303715884105728 ≤ x ∧ x < 170141183460469231731687303715884105728) → l.length ≤ 1000000 →
  -170141183460469231731687303715884105728000000 ≤ l.sum ∧ l.sum ≤ 170141183460469231731687303715884105728000000 := by
 have key : ∀ {l : List Int}, (∀ x ∈ l, -170141183460469231731687303715884105728 ≤ x ∧ x < 170141183460469231731687303715884105728) →
   -(170141183460469231731687303715884105728 * (l.length : Int)) ≤ l.sum ∧ l.sum ≤ 170141183460469231731687303715884105728 * (l.length : Int) := by
  intro l
  induction l with
  | nil => intro _; simp
  | cons x l ih =>
   intro h
   have h1 := ih fun y hy => h y (by simp [hy])
   have h2 := h x (by simp)
   simp only [List.sum_cons, List.length_cons]
   omega
 intro l h hl
 have := key h
 omega
theorem wcarry0 (s x : Int) : 0 ≤ (loN s + x % 18446744073709551616 + 0) / 18446744073709551616 := by simp only [loN]; omega
theorem wcarry1 (s x : Int) : (loN s + x % 18446744073709551616 + 0) / 18446744073709551616 ≤ 1 := by simp only [loN]; omega
theorem wsum_lo (s x : Int) : (loN s + x % 18446744073709551616 + 0) % 18446744073709551616 = loN (s + x) := by simp only [loN]; omega
theorem wsum_hi (s x : Int) : (hiN s + IntKind.wrap .u64 (x / 18446744073709551616) + (loN s + x % 18446744073709551616 + 0) / 18446744073709551616) % 18446744073709551616 = hiN (s + x) := by
 rw [wrapU_]; simp only [loN, hiN]; omega
theorem wsum_carry (s x : Int) (h0 : -170141183460469231731687303715884105728 ≤ x) (h1 : x < 170141183460469231731687303715884105728) :
  topN s + (hiN s + IntKind.wrap .u64 (x / 18446744073709551616) + (loN s + x % 18446744073709551616 + 0) / 18446744073709551616) / 18446744073709551616 - (if x / 18446744073709551616 < 0 then 1 else 0) = topN (s + x) := by
 rw [wrapU_]; simp only [loN, hiN, topN]
 split <;> omega
theorem wsum_dbound (s x : Int) (h0 : -170141183460469231731687303715884105728 ≤ x) (h1 : x < 170141183460469231731687303715884105728) :
  0 ≤ (hiN s + IntKind.wrap .u64 (x / 18446744073709551616) + (loN s + x % 18446744073709551616 + 0) / 18446744073709551616) / 18446744073709551616 ∧ (hiN s + IntKind.wrap .u64 (x / 18446744073709551616) + (loN s + x % 18446744073709551616 + 0) / 18446744073709551616) / 18446744073709551616 ≤ 1 := by
 rw [wrapU_]; simp only [loN, hiN]; omega
theorem topN_bound {s : Int} (h0 : -170141183460469231731687303715884105728000000 ≤ s) (h1 : s ≤ 170141183460469231731687303715884105728000000) : -1000000 ≤ topN s ∧ topN s ≤ 1000000 := by
 simp only [topN]; omega
theorem wsum_topA {s x : Int} (s0 : -170141183460469231731687303715884105728000000 ≤ s) (s1 : s ≤ 170141183460469231731687303715884105728000000) (h0 : -170141183460469231731687303715884105728 ≤ x) (h1 : x < 170141183460469231731687303715884105728) (hb : decide (x / 18446744073709551616 < 0) = true) :
  IntKind.wrap .i64 (IntKind.wrap .i64 (topN s + IntKind.wrap .i64 ((hiN s + IntKind.wrap .u64 (x / 18446744073709551616) + (loN s + x % 18446744073709551616 + 0) / 18446744073709551616) / 18446744073709551616)) - 1) = topN (s + x) := by
 have h2 := wsum_carry s x h0 h1
 have h3 := wsum_dbound s x h0 h1
 have h4 := topN_bound s0 s1
 generalize (hiN s + IntKind.wrap .u64 (x / 18446744073709551616) + (loN s + x % 18446744073709551616 + 0) / 18446744073709551616) / 18446744073709551616 = d at *
 simp only [decide_eq_true_eq] at hb
 simp only [hb, if_true] at h2
 rw [wrapI (n := d) (by omega) (by omega), wrapI (n := topN s + d) (by omega) (by omega), wrapI (by omega) (by omega)]
 omega
theorem wsum_topB {s x : Int} (s0 : -170141183460469231731687303715884105728000000 ≤ s) (s1 : s ≤ 170141183460469231731687303715884105728000000) (h0 : -170141183460469231731687303715884105728 ≤ x) (h1 : x < 170141183460469231731687303715884105728) (hb : decide (x / 18446744073709551616 < 0) = false) :
  IntKind.wrap .i64 (topN s + IntKind.wrap .i64 ((hiN s + IntKind.wrap .u64 (x / 18446744073709551616) + (loN s + x % 18446744073709551616 + 0) / 18446744073709551616) / 18446744073709551616)) = topN (s + x) := by
 have h2 := wsum_carry s x h0 h1
 have h3 := wsum_dbound s x h0 h1
 have h4 := topN_bound s0 s1
 generalize (hiN s + IntKind.wrap .u64 (x / 18446744073709551616) + (loN s + x % 18446744073709551616 + 0) / 18446744073709551616) / 18446744073709551616 = d at *
 simp only [decide_eq_false_iff_not] at hb
 simp only [hb, if_false] at h2
 rw [wrapI (n := d) (by omega) (by omega), wrapI (by omega) (by omega)]
 omega
theorem fits_law (t : Int) : ((topN t == 0 && decide (IntKind.wrap .i64 (hiN t) ≥ 0)) || (topN t == -1 && decide (IntKind.wrap .i64 (hiN t) < 0))) = fitsW t := by
 rw [Bool.eq_iff_iff]
 simp only [fitsW, Bool.or_eq_true, Bool.and_eq_true, beq_iff_eq, decide_eq_true_eq]
 rw [wrapI_]
 simp only [topN, hiN]
 have e : t / 340282366920938463463374607431768211456 = t / 18446744073709551616 / 18446744073709551616 := by omega
 have e1 : -170141183460469231731687303715884105728 ≤ t ↔ -9223372036854775808 ≤ t / 18446744073709551616 := by omega
 have e2 : t < 170141183460469231731687303715884105728 ↔ t / 18446744073709551616 < 9223372036854775808 := by omega
 rw [e, e1, e2]
 generalize t / 18446744073709551616 = q
 omega
theorem wide_fit {t : Int} (h : fitsW t = true) : wideA t = .ag [.d (iv (IntKind.wrap .i64 (hiN t))), .d (.v (.int .u64 (loN t)))] := by
 simp only [fitsW, Bool.and_eq_true, decide_eq_true_eq] at h
 rw [wrapI_, wideA, show (hiN t + 9223372036854775808) % 18446744073709551616 - 9223372036854775808 = t / 18446744073709551616 from by simp only [hiN]; omega]
 rfl
theorem wI0 (n : Int) : -9223372036854775808 ≤ IntKind.wrap .i64 n := by rw [wrapI_]; omega
theorem wI1 (n : Int) : IntKind.wrap .i64 n < 9223372036854775808 := by rw [wrapI_]; omega
theorem int_law (t : Int) : ((!veqL [.int .i64 (IntKind.wrap .i64 (t % 18446744073709551616) / 18446744073709551616), .int .u64 (IntKind.wrap .i64 (t % 18446744073709551616) % 18446744073709551616)] [.int .i64 (t / 18446744073709551616), .int .u64 (t % 18446744073709551616)]) || !rightN (IntKind.wrap .i64 (t % 18446744073709551616))) = !rightN t := by
 rw [Bool.eq_iff_iff]
 simp only [veqL, veq, rightN, Bool.or_eq_true, Bool.and_true, Bool.not_eq_true', Bool.not_eq_false', Bool.and_eq_false_iff, beq_eq_false_iff_ne, ne_eq, Bool.not_not, decide_eq_true_eq]
 rw [wrapI_]
 omega
theorem int_val {t : Int} (h : rightN t = true) : IntKind.wrap .i64 (t % 18446744073709551616) = t := by
 simp [rightN] at h
 rw [wrapI_]; omega
theorem fits_small {l : List Int} (hall : ∀ x ∈ l, -9223372036854775808 ≤ x ∧ x < 9223372036854775808) (hl : l.length ≤ 1000000) : fitsW l.sum = true := by
 have key : -(9223372036854775808 * (l.length : Int)) ≤ l.sum ∧ l.sum ≤ 9223372036854775808 * (l.length : Int) := by
  clear hl
  induction l with
  | nil => simp
  | cons x l ih =>
   have h1 := ih fun y hy => hall y (by simp [hy])
   have h2 := hall x (by simp)
   simp only [List.sum_cons, List.length_cons]
   omega
 simp only [fitsW, Bool.and_eq_true, decide_eq_true_eq]
 omega
structure TradeV where
 no : Int
 buyer : Int
 seller : Int
 inst : Int
 qty : Int
 price : Int
 gone : Bool
def tradeC (t : TradeV) : List D := [iv t.no, iv t.buyer, iv t.seller, iv t.inst, iv t.qty, iv t.price, .v (.bool t.gone)]
def tradeOk (t : TradeV) : Bool := decide (t.qty ≥ 1) && decide (t.qty ≤ 1048576) && decide (t.price ≥ 1) && decide (t.price ≤ 1073741824)
def legA (t : TradeV) : PosV := ⟨t.buyer, t.inst, t.qty, IntKind.wrap .i64 (t.qty * t.price)⟩
def legB (t : TradeV) : PosV := ⟨t.seller, t.inst, IntKind.wrap .i64 (0 - t.qty), IntKind.wrap .i64 (0 - IntKind.wrap .i64 (t.qty * t.price))⟩
def legsC (t : TradeV) : List (List D) := [posC (legA t), posC (legB t)]
theorem tradeOk_bound {t : TradeV} (h : tradeOk t = true) : 1 ≤ t.qty ∧ t.qty ≤ 1048576 ∧ 1 ≤ t.price ∧ t.price ≤ 1073741824 ∧ 1 ≤ t.qty * t.price ∧ t.qty * t.price ≤ 1125899906842624 := by
 simp [tradeOk] at h
 obtain ⟨⟨⟨h1, h2⟩, h3⟩, h4⟩ := h
 have h5 : 1 * 1 ≤ t.qty * t.price := Int.mul_le_mul h1 h3 (by decide) (by omega)
 have h6 : t.qty * t.price ≤ 1048576 * 1073741824 := Int.mul_le_mul h2 h4 (by omega) (by decide)
 exact ⟨h1, h2, h3, h4, by omega, by omega⟩
theorem legA_cost {t : TradeV} (h : tradeOk t = true) : (legA t).cost = t.qty * t.price := by
 obtain ⟨h1, h2, h3, h4, h5, h6⟩ := tradeOk_bound h
 exact wrapI (by omega) (by omega)
theorem legB_qty {t : TradeV} (h : tradeOk t = true) : (legB t).qty = - t.qty := by
 obtain ⟨h1, h2, h3, h4, h5, h6⟩ := tradeOk_bound h
 show IntKind.wrap .i64 (0 - t.qty) = _
 rw [wrapI (by omega) (by omega)]; omega
theorem legB_cost {t : TradeV} (h : tradeOk t = true) : (legB t).cost = - (t.qty * t.price) := by
 obtain ⟨h1, h2, h3, h4, h5, h6⟩ := tradeOk_bound h
 show IntKind.wrap .i64 (0 - IntKind.wrap .i64 (t.qty * t.price)) = _
 rw [wrapI (n := t.qty * t.price) (by omega) (by omega), wrapI (by omega) (by omega)]; omega
theorem legA_qty (t : TradeV) : (legA t).qty = t.qty := rfl
theorem ts_legs {t : TradeV} (h : tradeOk t = true) : tsA [legA t, legB t] = true ∧ tsB [legA t, legB t] = true := by
 obtain ⟨h1, h2, h3, h4, h5, h6⟩ := tradeOk_bound h
 have hA : tsA [legA t, legB t] = true := by
  simp only [tsA, List.map_cons, List.map_nil, List.all_cons, List.all_nil, legA_qty, legA_cost h, legB_qty h, legB_cost h, rightN]
  simp; omega
 refine ⟨hA, ?_⟩
 simp only [tsB, hA, List.map_cons, List.map_nil, List.sum_cons, List.sum_nil, legA_qty, legA_cost h, legB_qty h, legB_cost h, rightN]
 simp; omega
def unLeg (p : PosV) : PosV := ⟨p.who, p.inst, IntKind.wrap .i64 (0 - p.qty), IntKind.wrap .i64 (0 - p.cost)⟩
def undoC (t : TradeV) : List (List D) := [posC (unLeg (legA t)), posC (unLeg (legB t))]
end Go.Proofs.Ytopifbpibkpmmaa
namespace Go.Proofs.Ytopifbpibkpmmaa
open Go.RowKit
set_option linter.unusedVariables false
set_option linter.unusedSimpArgs false
structure InstV where
 no : Int
 cur : Int
 mult : Int
 add : Int
 set : Int
 price : Int
 s0 : Int
 s1 : Int
 s2 : Int
 s3 : Int
 s4 : Int
 s5 : Int
def instC (i : InstV) : List D := [iv i.no, iv i.cur, iv i.mult, iv i.add, iv i.set, iv i.price, iv i.s0, iv i.s1, iv i.s2, iv i.s3, iv i.s4, iv i.s5]
structure MemV where
 no : Int
 state : Int
 need : Int
def memC (m : MemV) : List D := [iv m.no, iv m.state, iv m.need]
structure AssetV where
 no : Int
 cur : Int
 price : Int
 cut : Int
def assetC (a : AssetV) : List D := [iv a.no, iv a.cur, iv a.price, iv a.cut]
structure RollV where
 mems : List MemV
 insts : List InstV
 assets : List AssetV
def memsD (l : List MemV) : D := .sl 3 (l.map memC)
def instsD (l : List InstV) : D := .sl 12 (l.map instC)
def assetsD (l : List AssetV) : D := .sl 4 (l.map assetC)
def rollC (r : RollV) : List D := [memsD r.mems, instsD r.insts, assetsD r.assets]
def fnD (f : Nat) : D := .v (.func (.func f) #[] #[])
def inR (n lo hi : Int) : Bool := decide (n ≥ lo) && decide (n ≤ hi)
def memOk (m : MemV) : Bool := inR m.no 1 16 && inR m.state 1 3 && [m.need].all rightN && decide (m.need ≥ 0)
def assetOk (a : AssetV) : Bool := inR a.no 1 6 && inR a.cur 0 2 && inR a.price 1 1073741824 && inR a.cut 0 10000
def shOk (n : Int) : Bool := inR n (-1073741824) 1073741824
def instOk (i : InstV) : Bool := shOk i.s0 && shOk i.s1 && shOk i.s2 && shOk i.s3 && shOk i.s4 && shOk i.s5 &&
 (inR i.no 1 8 && inR i.cur 0 2 && inR i.mult 1 1024 && inR i.add 0 1073741824 && inR i.set 0 1073741824 && inR i.price 0 1073741824)
def chk {α : Type} (ok : α → Bool) (no : α → Int) : Option α → List α → Bool
 | _, [] => true
 | p, x :: xs => ok x && (match p with | none => true | some y => !decide (no y ≥ no x)) && chk ok no (some x) xs
def lastOr {α : Type} (x : α) (pre : List α) : α := pre.getLast?.getD x
theorem prev_get {α β : Type} (f : α → β) (pre post : List α) (x : α) (d : β) (h : pre.length < 4611686018427387904) :
  ((pre ++ x :: post).map f).getD (Int.toNat (IntKind.wrap .i64 ((pre.length : Int) - 1))) d = f (lastOr x pre) := by
 rw [wrapI (by omega) (by omega)]
 rcases List.eq_nil_or_concat pre with rfl | ⟨q, y, rfl⟩
 ·simp [lastOr]
 ·rw [show Int.toNat (((q.concat y).length : Int) - 1) = q.length from by simp]
  simp [lastOr, List.getD]
theorem prev_ok {α : Type} (pre : List α) (h : pre.length < 4611686018427387904) (hp : decide ((pre.length : Int) > 0) = true) : 0 ≤ IntKind.wrap .i64 ((pre.length : Int) - 1) := by
 simp at hp; rw [wrapI (by omega) (by omega)]; omega
theorem prev_lt {α : Type} (pre post : List α) (x : α) (h : pre.length < 4611686018427387904) : IntKind.wrap .i64 ((pre.length : Int) - 1) < ((pre ++ x :: post).length : Int) := by
 rw [wrapI (by omega) (by omega)]; simp; omega
def rollOk (r : RollV) : Bool := chk memOk MemV.no none r.mems && chk instOk InstV.no none r.insts && chk assetOk AssetV.no none r.assets
def rollE (r : RollV) : Int := bif rollOk r then 0 else 14
def heavy (r : RollV) : Bool := decide ((r.mems.length : Int) > 100) || decide ((r.insts.length : Int) > 100) || decide ((r.assets.length : Int) > 100)
structure RollV.Small (r : RollV) : Prop where
 mems : r.mems.length ≤ 1000000
 insts : r.insts.length ≤ 1000000
 assets : r.assets.length ≤ 1000000
def findI {α : Type} (no : α → Int) (n : Int) : Nat → List α → Int
 | _, [] => -1
 | k, x :: xs => bif no x == n then (k : Int) else findI no n (k + 1) xs
def findX {α : Type} (no : α → Int) (n : Int) (z : α) : List α → α
 | [] => z
 | x :: xs => bif no x == n then x else findX no n z xs
def hasX {α : Type} (no : α → Int) (n : Int) : List α → Bool
 | [] => false
 | x :: xs => no x == n || hasX no n xs
def zMem : MemV := ⟨0, 0, 0⟩
def zInst : InstV := ⟨0, 0, 0, 0, 0, 0, 0, 0, 0, 0, 0, 0⟩
def memA (m : MemV) : AV := .ag ((memC m).map .d)
def instA (m : InstV) : AV := .ag ((instC m).map .d)
end Go.Proofs.Ytopifbpibkpmmaa
namespace Go.Proofs.Ytopifbpibkpmmaa
open Go.RowKit
set_option linter.unusedVariables false
set_option linter.unusedSimpArgs false
structure BookV where
 next : Int
 trades : List TradeV
 poss : List PosV
def tradesB (l : List TradeV) : D := .sl 7 (l.map tradeC)
def bookC (b : BookV) : List D := [iv b.next, tradesB b.trades, poss b.poss]
def keyOk (w n : Int) : Bool := decide (w ≥ 1) && decide (w ≤ 16) && decide (n ≥ 1) && decide (n ≤ 8)
def keyLt (a b c d : Int) : Bool := decide (a < c) || (a == c && decide (b < d))
def pLt (p q : PosV) : Bool := keyLt p.who p.inst q.who q.inst
def posBad (p : PosV) : Bool := !keyOk p.who p.inst || decide (p.qty < -1099511627776) || decide (p.qty > 1099511627776) || !([p.cost].all rightN) || (p.qty == 0 && p.cost == 0)
def posOk (p : PosV) : Bool := !posBad p
def rtOk (t : TradeV) : Bool := decide (t.qty ≥ 1) && decide (t.qty ≤ 1048576) && decide (t.price ≥ 1) && decide (t.price ≤ 1073741824) && t.buyer != t.seller && keyOk t.buyer t.inst && keyOk t.seller t.inst
def trBad (next : Int) (t : TradeV) : Bool := !rtOk t || decide (t.no < 1) || decide (t.no > next)
def trOk (next : Int) (t : TradeV) : Bool := !trBad next t
def tLt (s t : TradeV) : Bool := !decide (s.no ≥ t.no)
def chkR {α : Type} (ok : α → Bool) (lt : α → α → Bool) : Option α → List α → Bool
 | _, [] => true
 | p, x :: xs => ok x && (match p with | none => true | some y => lt y x) && chkR ok lt (some x) xs
theorem chkR_step {α : Type} (ok : α → Bool) (lt : α → α → Bool) (pre post : List α) (x : α) :
  chkR ok lt pre.getLast? (x :: post) = ((!(!ok x || (decide ((pre.length : Int) > 0) && !lt (lastOr x pre) x))) && chkR ok lt (pre ++ [x]).getLast? post) := by
 rcases List.eq_nil_or_concat pre with rfl | ⟨q, y, rfl⟩
 ·simp [chkR]
 ·simp [chkR, lastOr]
def levelQ (l : List PosV) (inst : Int) : List Int := (l.filter fun p => p.inst == inst).map PosV.qty
def levelI (l : List PosV) (inst : Int) : Bool := sumE (levelQ l inst) == 0 && sumV (levelQ l inst) == 0
def levelTo (l : List PosV) (k : Nat) : Bool := (List.range k).all fun i => levelI l (i + 1)
def levelOk (l : List PosV) : Bool := levelTo l 8
theorem levelTo_succ (l : List PosV) (k : Nat) : levelTo l (k + 1) = (levelTo l k && levelI l (k + 1)) := by
 simp [levelTo, List.range_succ]
theorem levelTo_false {l : List PosV} {k : Nat} (hk : k < 8) (h : levelI l (k + 1) = false) : levelOk l = false := by
 cases h2 : levelOk l
 ·rfl
 ·have := List.all_eq_true.1 h2 k (List.mem_range.2 hk)
  rw [h] at this; cases this
theorem levelQ_yes {p : PosV} {n : Int} (h : (p.inst == n) = true) (pre : List PosV) : levelQ (pre ++ [p]) n = levelQ pre n ++ [p.qty] := by simp [levelQ, h]
theorem levelQ_no {p : PosV} {n : Int} (h : (p.inst == n) = false) (pre : List PosV) : levelQ (pre ++ [p]) n = levelQ pre n := by simp [levelQ, h]
theorem levelQ_len (l : List PosV) (n : Int) : (levelQ l n).length ≤ l.length := by simp only [levelQ, List.length_map]; exact List.length_filter_le _ _
def bookTail (b : BookV) : Bool := !levelOk b.poss || decide ((b.trades.length : Int) > 128) || decide (b.next < 0) || decide (b.next > 1099511627776)
def bookOk (b : BookV) : Bool := chkR posOk pLt none b.poss && chkR (trOk b.next) tLt none b.trades && !bookTail b
def bookE (b : BookV) : Int := bif bookOk b then 0 else 14
structure BookV.Small (b : BookV) : Prop where
 trades : b.trades.length ≤ 500000
 poss : b.poss.length ≤ 500000
def heavyB (b : BookV) : Bool := decide ((b.trades.length : Int) > 300) || decide ((b.poss.length : Int) > 300)
theorem lev_t {a b : Int} (h : (a != 0 || b != 0) = false) : (a == 0 && b == 0) = true := by simpa using h
theorem lev_f {a b : Int} (h : (a != 0 || b != 0) = true) : (a == 0 && b == 0) = false := by
 simp at h
 by_cases h1 : a = 0
 ·simp [h1, h.resolve_left (fun h2 => h2 h1)]
 ·simp [h1]
end Go.Proofs.Ytopifbpibkpmmaa
namespace Go.Proofs.Ytopifbpibkpmmaa
open Go.RowKit
set_option linter.unusedVariables false
set_option linter.unusedSimpArgs false
def legs (t : TradeV) : List PosV := bif tradeOk t then [legA t, legB t] else []
def undo (t : TradeV) : List PosV := (legs t).map unLeg
def Flat (l : List PosV) : Prop := tsA l = true ∧ (l.map PosV.qty).sum = 0 ∧ (l.map PosV.cost).sum = 0
theorem Flat.nil : Flat [] := ⟨rfl, rfl, rfl⟩
theorem Flat.app {a b : List PosV} (h : Flat a) (k : Flat b) : Flat (a ++ b) := by
 obtain ⟨h1, h2, h3⟩ := h
 obtain ⟨k1, k2, k3⟩ := k
 simp only [tsA, Bool.and_eq_true] at h1 k1
 refine ⟨?_, by simp only [List.map_append, List.sum_append, h2, k2]; rfl, by simp only [List.map_append, List.sum_append, h3, k3]; rfl⟩
 simp only [tsA, List.map_append, List.all_append, h1, k1]; rfl
theorem Flat.ts {l : List PosV} (h : Flat l) : tsQ l = 0 ∧ tsC l = 0 ∧ tsE l = 0 := by
 obtain ⟨h1, h2, h3⟩ := h
 have hB : tsB l = true := by simp only [tsB, h1, h2, h3]; decide
 simp only [tsQ, tsC, tsE, hB, h1, h2, h3, cond_true]
 exact ⟨trivial, trivial, trivial⟩
theorem Flat.legs (t : TradeV) : Flat (legs t) := by
 unfold Proofs.Ytopifbpibkpmmaa.legs
 cases h : tradeOk t
 ·exact Flat.nil
 ·refine ⟨(ts_legs h).1, ?_, ?_⟩
  ·simp only [cond_true, List.map_cons, List.map_nil, List.sum_cons, List.sum_nil, legA_qty, legB_qty h]; omega
  ·simp only [cond_true, List.map_cons, List.map_nil, List.sum_cons, List.sum_nil, legA_cost h, legB_cost h]; omega
theorem Flat.undo (t : TradeV) : Flat (undo t) := by
 unfold Proofs.Ytopifbpibkpmmaa.undo Proofs.Ytopifbpibkpmmaa.legs
 cases h : tradeOk t
 ·exact Flat.nil
 ·obtain ⟨h1, h2, h3, h4, h5, h6⟩ := tradeOk_bound h
  have e1 : (unLeg (legA t)).qty = - t.qty := by show IntKind.wrap .i64 (0 - (legA t).qty) = _; rw [legA_qty, wrapI (by omega) (by omega)]; omega
  have e2 : (unLeg (legB t)).qty = t.qty := by show IntKind.wrap .i64 (0 - (legB t).qty) = _; rw [legB_qty h, wrapI (by omega) (by omega)]; omega
  have e3 : (unLeg (legA t)).cost = - (t.qty * t.price) := by show IntKind.wrap .i64 (0 - (legA t).cost) = _; rw [legA_cost h, wrapI (by omega) (by omega)]; omega
  have e4 : (unLeg (legB t)).cost = t.qty * t.price := by show IntKind.wrap .i64 (0 - (legB t).cost) = _; rw [legB_cost h, wrapI (by omega) (by omega)]; omega
  refine ⟨?_, ?_, ?_⟩
  ·simp only [cond_true, tsA, List.map_cons, List.map_nil, List.all_cons, List.all_nil, e1, e2, e3, e4, rightN]
   simp; omega
  ·simp only [cond_true, List.map_cons, List.map_nil, List.sum_cons, List.sum_nil, e1, e2]; omega
  ·simp only [cond_true, List.map_cons, List.map_nil, List.sum_cons, List.sum_nil, e3, e4]; omega
def trades (l : List TradeV) : D := .sl 7 (l.map tradeC)
def many : Nat → List TradeV → List PosV
 | _, [] => []
 | i, x :: xs => legs x ++ ((bif i % 2 == 0 then undo x else []) ++ many (i + 1) xs)
end Go.Proofs.Ytopifbpibkpmmaa
