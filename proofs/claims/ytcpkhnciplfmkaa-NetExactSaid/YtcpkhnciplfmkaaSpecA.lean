/- What the functions on numbers, sums and trades answer, in plain terms. No condition. -/
import Derived.Test.YtcpkhnciplfmkaaAbsU
namespace Go.Proofs.Ytcpkhnciplfmkaa
open Go.RowKit
set_option linter.unusedVariables false
set_option linter.unusedSimpArgs false
def rightN (n : Int) : Bool := !(decide (n < -4611686018427387904) || decide (n > 4611686018427387904))
theorem within_law {t : Int} (h0 : -85070591730234615865843651857942052864 ≤ t) (h1 : t < 85070591730234615865843651857942052864) :
    (hiN t != IntKind.wrap .u64 ((IntKind.wrap .i64 (loN t)).fdiv (2 ^ (min (Int.toNat 63) (IntKind.bits .i64)))) || !([IntKind.wrap .i64 (loN t)].all rightN)) = !rightN t := by
  have hw : -9223372036854775808 ≤ IntKind.wrap .i64 (loN t) ∧ IntKind.wrap .i64 (loN t) < 9223372036854775808 := by rw [wrapI_]; omega
  rw [shr63 hw.1 hw.2, IntKind.wrap_u64, Bool.eq_iff_iff]
  simp only [List.all_cons, List.all_nil, rightN, Bool.or_eq_true, bne_iff_ne, ne_eq, Bool.not_not, Bool.and_true, decide_eq_true_eq, hiN, loN, wrapI_, Bool.not_or, Bool.not_and]
  split <;> omega
theorem within_val {t : Int} (h0 : -85070591730234615865843651857942052864 ≤ t) (h1 : t < 85070591730234615865843651857942052864) (h : rightN t = true) : IntKind.wrap .i64 (loN t) = t := by
  simp [rightN] at h
  rw [wrapI_]
  simp only [loN]
  omega
def sumV (l : List Int) : Int := bif l.all rightN && rightN l.sum then l.sum else 0
def sumE (l : List Int) : Int := bif l.all rightN then (bif rightN l.sum then 0 else 1) else 3
theorem sum_bound0 : ∀ {l : List Int}, l.all rightN = true → -(4611686018427387904 * (l.length : Int)) ≤ l.sum ∧ l.sum ≤ 4611686018427387904 * (l.length : Int)
  | [], _ => by simp
  | x :: l, h => by
    simp only [List.all_cons, Bool.and_eq_true] at h
    have h1 := sum_bound0 h.2
    have h2 := h.1
    simp [rightN] at h2
    simp only [List.sum_cons, List.length_cons]
    omega
theorem sum_bound {l : List Int} (h : l.all rightN = true) (hl : l.length < 4611686018427387904) : -85070591730234615865843651857942052864 ≤ l.sum ∧ l.sum < 85070591730234615865843651857942052864 := by
  have := sum_bound0 h
  omega
structure PosV where
  who : Int
  inst : Int
  qty : Int
  cost : Int
def posC (p : PosV) : List D := [iv p.who, iv p.inst, iv p.qty, iv p.cost]
def poss (l : List PosV) : D := .sl 4 (l.map posC)
def tsA (l : List PosV) : Bool := (l.map PosV.qty).all rightN && (l.map PosV.cost).all rightN
def tsB (l : List PosV) : Bool := tsA l && rightN (l.map PosV.qty).sum && rightN (l.map PosV.cost).sum
def tsQ (l : List PosV) : Int := bif tsB l then (l.map PosV.qty).sum else 0
def tsC (l : List PosV) : Int := bif tsB l then (l.map PosV.cost).sum else 0
def tsE (l : List PosV) : Int := bif tsA l then (bif tsB l then 0 else 1) else 3
theorem tsQ_nil : tsQ [] = 0 := by decide
theorem tsC_nil : tsC [] = 0 := by decide
theorem tsE_nil : tsE [] = 0 := by decide
def wideA (t : Int) : AV := .ag [.d (iv (t / 18446744073709551616)), .d (.v (.int .u64 (t % 18446744073709551616)))]
def wideC (t : Int) : List D := [iv (t / 18446744073709551616), .v (.int .u64 (t % 18446744073709551616))]
def wides (l : List Int) : D := .sl 2 (l.map wideC)
theorem wide_neg {n : Int} (h0 : -9223372036854775808 ≤ n) (h : n < 0) : wideA n = .ag [.d (iv (-1)), .d (.v (.int .u64 (IntKind.wrap .u64 n)))] := by
  rw [wrapU_, wideA, show n / 18446744073709551616 = -1 from by omega]
theorem wide_pos {n : Int} (h1 : n < 9223372036854775808) (h : 0 ≤ n) : wideA n = .ag [.d (iv 0), .d (.v (.int .u64 (IntKind.wrap .u64 n)))] := by
  rw [wrapU_, wideA, show n / 18446744073709551616 = 0 from by omega]
def topN (t : Int) : Int := t / 340282366920938463463374607431768211456
def fitsW (t : Int) : Bool := decide (-170141183460469231731687303715884105728 ≤ t) && decide (t < 170141183460469231731687303715884105728)
theorem sum_snoc (pre : List Int) (x : Int) : (pre ++ [x]).sum = pre.sum + x := by simp
theorem wsum_bound : ∀ {l : List Int}, (∀ x ∈ l, -170141183460469231731687303715884105728 ≤ x ∧ x < 170141183460469231731687303715884105728) → l.length ≤ 1000000 →
    -170141183460469231731687303715884105728000000 ≤ l.sum ∧ l.sum ≤ 170141183460469231731687303715884105728000000 := by
  have key : ∀ {l : List Int}, (∀ x ∈ l, -170141183460469231731687303715884105728 ≤ x ∧ x < 170141183460469231731687303715884105728) →
      -(170141183460469231731687303715884105728 * (l.length : Int)) ≤ l.sum ∧ l.sum ≤ 170141183460469231731687303715884105728 * (l.length : Int) := by
    intro l
    induction l with
    | nil => intro _; simp
    | cons x l ih =>
      intro h
      have h1 := ih fun y hy => h y (by simp [hy])
      have h2 := h x (by simp)
      simp only [List.sum_cons, List.length_cons]
      omega
  intro l h hl
  have := key h
  omega
theorem wcarry0 (s x : Int) : 0 ≤ (loN s + x % 18446744073709551616 + 0) / 18446744073709551616 := by simp only [loN]; omega
theorem wcarry1 (s x : Int) : (loN s + x % 18446744073709551616 + 0) / 18446744073709551616 ≤ 1 := by simp only [loN]; omega
theorem wsum_lo (s x : Int) : (loN s + x % 18446744073709551616 + 0) % 18446744073709551616 = loN (s + x) := by simp only [loN]; omega
theorem wsum_hi (s x : Int) : (hiN s + IntKind.wrap .u64 (x / 18446744073709551616) + (loN s + x % 18446744073709551616 + 0) / 18446744073709551616) % 18446744073709551616 = hiN (s + x) := by
  rw [wrapU_]; simp only [loN, hiN]; omega
theorem wsum_carry (s x : Int) (h0 : -170141183460469231731687303715884105728 ≤ x) (h1 : x < 170141183460469231731687303715884105728) :
    topN s + (hiN s + IntKind.wrap .u64 (x / 18446744073709551616) + (loN s + x % 18446744073709551616 + 0) / 18446744073709551616) / 18446744073709551616 - (if x / 18446744073709551616 < 0 then 1 else 0) = topN (s + x) := by
  rw [wrapU_]; simp only [loN, hiN, topN]
  split <;> omega
theorem wsum_dbound (s x : Int) (h0 : -170141183460469231731687303715884105728 ≤ x) (h1 : x < 170141183460469231731687303715884105728) :
    0 ≤ (hiN s + IntKind.wrap .u64 (x / 18446744073709551616) + (loN s + x % 18446744073709551616 + 0) / 18446744073709551616) / 18446744073709551616 ∧ (hiN s + IntKind.wrap .u64 (x / 18446744073709551616) + (loN s + x % 18446744073709551616 + 0) / 18446744073709551616) / 18446744073709551616 ≤ 1 := by
  rw [wrapU_]; simp only [loN, hiN]; omega
theorem topN_bound {s : Int} (h0 : -170141183460469231731687303715884105728000000 ≤ s) (h1 : s ≤ 170141183460469231731687303715884105728000000) : -1000000 ≤ topN s ∧ topN s ≤ 1000000 := by
  simp only [topN]; omega
theorem wsum_topA {s x : Int} (s0 : -170141183460469231731687303715884105728000000 ≤ s) (s1 : s ≤ 170141183460469231731687303715884105728000000) (h0 : -170141183460469231731687303715884105728 ≤ x) (h1 : x < 170141183460469231731687303715884105728) (hb : decide (x / 18446744073709551616 < 0) = true) :
    IntKind.wrap .i64 (IntKind.wrap .i64 (topN s + IntKind.wrap .i64 ((hiN s + IntKind.wrap .u64 (x / 18446744073709551616) + (loN s + x % 18446744073709551616 + 0) / 18446744073709551616) / 18446744073709551616)) - 1) = topN (s + x) := by
  have h2 := wsum_carry s x h0 h1
  have h3 := wsum_dbound s x h0 h1
  have h4 := topN_bound s0 s1
  generalize (hiN s + IntKind.wrap .u64 (x / 18446744073709551616) + (loN s + x % 18446744073709551616 + 0) / 18446744073709551616) / 18446744073709551616 = d at *
  simp only [decide_eq_true_eq] at hb
  simp only [hb, if_true] at h2
  rw [wrapI (n := d) (by omega) (by omega), wrapI (n := topN s + d) (by omega) (by omega), wrapI (by omega) (by omega)]
  omega
theorem wsum_topB {s x : Int} (s0 : -170141183460469231731687303715884105728000000 ≤ s) (s1 : s ≤ 170141183460469231731687303715884105728000000) (h0 : -170141183460469231731687303715884105728 ≤ x) (h1 : x < 170141183460469231731687303715884105728) (hb : decide (x / 18446744073709551616 < 0) = false) :
    IntKind.wrap .i64 (topN s + IntKind.wrap .i64 ((hiN s + IntKind.wrap .u64 (x / 18446744073709551616) + (loN s + x % 18446744073709551616 + 0) / 18446744073709551616) / 18446744073709551616)) = topN (s + x) := by
  have h2 := wsum_carry s x h0 h1
  have h3 := wsum_dbound s x h0 h1
  have h4 := topN_bound s0 s1
  generalize (hiN s + IntKind.wrap .u64 (x / 18446744073709551616) + (loN s + x % 18446744073709551616 + 0) / 18446744073709551616) / 18446744073709551616 = d at *
  simp only [decide_eq_false_iff_not] at hb
  simp only [hb, if_false] at h2
  rw [wrapI (n := d) (by omega) (by omega), wrapI (by omega) (by omega)]
  omega
theorem fits_law (t : Int) : ((topN t == 0 && decide (IntKind.wrap .i64 (hiN t) ≥ 0)) || (topN t == -1 && decide (IntKind.wrap .i64 (hiN t) < 0))) = fitsW t := by
  rw [Bool.eq_iff_iff]
  simp only [fitsW, Bool.or_eq_true, Bool.and_eq_true, beq_iff_eq, decide_eq_true_eq]
  rw [wrapI_]
  simp only [topN, hiN]
  have e : t / 340282366920938463463374607431768211456 = t / 18446744073709551616 / 18446744073709551616 := by omega
  have e1 : -170141183460469231731687303715884105728 ≤ t ↔ -9223372036854775808 ≤ t / 18446744073709551616 := by omega
  have e2 : t < 170141183460469231731687303715884105728 ↔ t / 18446744073709551616 < 9223372036854775808 := by omega
  rw [e, e1, e2]
  generalize t / 18446744073709551616 = q
  omega
theorem wide_fit {t : Int} (h : fitsW t = true) : wideA t = .ag [.d (iv (IntKind.wrap .i64 (hiN t))), .d (.v (.int .u64 (loN t)))] := by
  simp only [fitsW, Bool.and_eq_true, decide_eq_true_eq] at h
  rw [wrapI_, wideA, show (hiN t + 9223372036854775808) % 18446744073709551616 - 9223372036854775808 = t / 18446744073709551616 from by simp only [hiN]; omega]
  rfl
theorem wI0 (n : Int) : -9223372036854775808 ≤ IntKind.wrap .i64 n := by rw [wrapI_]; omega
theorem wI1 (n : Int) : IntKind.wrap .i64 n < 9223372036854775808 := by rw [wrapI_]; omega
theorem int_law (t : Int) : ((!veqL [.int .i64 (IntKind.wrap .i64 (t % 18446744073709551616) / 18446744073709551616), .int .u64 (IntKind.wrap .i64 (t % 18446744073709551616) % 18446744073709551616)] [.int .i64 (t / 18446744073709551616), .int .u64 (t % 18446744073709551616)]) || !rightN (IntKind.wrap .i64 (t % 18446744073709551616))) = !rightN t := by
  rw [Bool.eq_iff_iff]
  simp only [veqL, veq, rightN, Bool.or_eq_true, Bool.and_true, Bool.not_eq_true', Bool.not_eq_false', Bool.and_eq_false_iff, beq_eq_false_iff_ne, ne_eq, Bool.not_not, decide_eq_true_eq]
  rw [wrapI_]
  omega
theorem int_val {t : Int} (h : rightN t = true) : IntKind.wrap .i64 (t % 18446744073709551616) = t := by
  simp [rightN] at h
  rw [wrapI_]; omega
theorem fits_small {l : List Int} (hall : ∀ x ∈ l, -9223372036854775808 ≤ x ∧ x < 9223372036854775808) (hl : l.length ≤ 1000000) : fitsW l.sum = true := by
  have key : -(9223372036854775808 * (l.length : Int)) ≤ l.sum ∧ l.sum ≤ 9223372036854775808 * (l.length : Int) := by
    clear hl
    induction l with
    | nil => simp
    | cons x l ih =>
      have h1 := ih fun y hy => hall y (by simp [hy])
      have h2 := hall x (by simp)
      simp only [List.sum_cons, List.length_cons]
      omega
  simp only [fitsW, Bool.and_eq_true, decide_eq_true_eq]
  omega
theorem right_bound {l : List Int} (h : l.all rightN = true) : ∀ x ∈ l, -9223372036854775808 ≤ x ∧ x < 9223372036854775808 := fun x hx => by
  have := List.all_eq_true.1 h x hx
  simp [rightN] at this
  omega
structure TradeV where
  no : Int
  buyer : Int
  seller : Int
  inst : Int
  qty : Int
  price : Int
  gone : Bool
def tradeC (t : TradeV) : List D := [iv t.no, iv t.buyer, iv t.seller, iv t.inst, iv t.qty, iv t.price, .v (.bool t.gone)]
def tradeOk (t : TradeV) : Bool := decide (t.qty ≥ 1) && decide (t.qty ≤ 1048576) && decide (t.price ≥ 1) && decide (t.price ≤ 1073741824)
def legA (t : TradeV) : PosV := ⟨t.buyer, t.inst, t.qty, IntKind.wrap .i64 (t.qty * t.price)⟩
def legB (t : TradeV) : PosV := ⟨t.seller, t.inst, IntKind.wrap .i64 (0 - t.qty), IntKind.wrap .i64 (0 - IntKind.wrap .i64 (t.qty * t.price))⟩
def legsC (t : TradeV) : List (List D) := [posC (legA t), posC (legB t)]
theorem legA_inst (t : TradeV) : (legA t).inst = t.inst := rfl
theorem legB_inst (t : TradeV) : (legB t).inst = t.inst := rfl
theorem tradeOk_bound {t : TradeV} (h : tradeOk t = true) : 1 ≤ t.qty ∧ t.qty ≤ 1048576 ∧ 1 ≤ t.price ∧ t.price ≤ 1073741824 ∧ 1 ≤ t.qty * t.price ∧ t.qty * t.price ≤ 1125899906842624 := by
  simp [tradeOk] at h
  obtain ⟨⟨⟨h1, h2⟩, h3⟩, h4⟩ := h
  have h5 : 1 * 1 ≤ t.qty * t.price := Int.mul_le_mul h1 h3 (by decide) (by omega)
  have h6 : t.qty * t.price ≤ 1048576 * 1073741824 := Int.mul_le_mul h2 h4 (by omega) (by decide)
  exact ⟨h1, h2, h3, h4, by omega, by omega⟩
theorem legA_cost {t : TradeV} (h : tradeOk t = true) : (legA t).cost = t.qty * t.price := by
  obtain ⟨h1, h2, h3, h4, h5, h6⟩ := tradeOk_bound h
  exact wrapI (by omega) (by omega)
theorem legB_qty {t : TradeV} (h : tradeOk t = true) : (legB t).qty = - t.qty := by
  obtain ⟨h1, h2, h3, h4, h5, h6⟩ := tradeOk_bound h
  show IntKind.wrap .i64 (0 - t.qty) = _
  rw [wrapI (by omega) (by omega)]; omega
theorem legB_cost {t : TradeV} (h : tradeOk t = true) : (legB t).cost = - (t.qty * t.price) := by
  obtain ⟨h1, h2, h3, h4, h5, h6⟩ := tradeOk_bound h
  show IntKind.wrap .i64 (0 - IntKind.wrap .i64 (t.qty * t.price)) = _
  rw [wrapI (n := t.qty * t.price) (by omega) (by omega), wrapI (by omega) (by omega)]; omega
theorem legA_qty (t : TradeV) : (legA t).qty = t.qty := rfl
theorem un_add {x : Int} (h : -9223372036854775807 ≤ x ∧ x ≤ 9223372036854775807) : IntKind.wrap .i64 (x + IntKind.wrap .i64 (0 - x)) = 0 := by
  rw [wrapI (n := 0 - x) (by omega) (by omega), wrapI (by omega) (by omega)]; omega
theorem legA_bound {t : TradeV} (h : tradeOk t = true) : (-9223372036854775807 ≤ (legA t).qty ∧ (legA t).qty ≤ 9223372036854775807) ∧ (-9223372036854775807 ≤ (legA t).cost ∧ (legA t).cost ≤ 9223372036854775807) := by
  obtain ⟨h1, h2, h3, h4, h5, h6⟩ := tradeOk_bound h
  rw [legA_qty, legA_cost h]; omega
theorem legB_bound {t : TradeV} (h : tradeOk t = true) : (-9223372036854775807 ≤ (legB t).qty ∧ (legB t).qty ≤ 9223372036854775807) ∧ (-9223372036854775807 ≤ (legB t).cost ∧ (legB t).cost ≤ 9223372036854775807) := by
  obtain ⟨h1, h2, h3, h4, h5, h6⟩ := tradeOk_bound h
  rw [legB_qty h, legB_cost h]; omega
theorem ts_legs {t : TradeV} (h : tradeOk t = true) : tsA [legA t, legB t] = true ∧ tsB [legA t, legB t] = true := by
  obtain ⟨h1, h2, h3, h4, h5, h6⟩ := tradeOk_bound h
  have hA : tsA [legA t, legB t] = true := by
    simp only [tsA, List.map_cons, List.map_nil, List.all_cons, List.all_nil, legA_qty, legA_cost h, legB_qty h, legB_cost h, rightN]
    simp; omega
  refine ⟨hA, ?_⟩
  simp only [tsB, hA, List.map_cons, List.map_nil, List.sum_cons, List.sum_nil, legA_qty, legA_cost h, legB_qty h, legB_cost h, rightN]
  simp; omega
theorem tsQ_legs {t : TradeV} (h : tradeOk t = true) : tsQ [legA t, legB t] = 0 := by
  simp only [tsQ, (ts_legs h).2, cond_true, List.map_cons, List.map_nil, List.sum_cons, List.sum_nil, legA_qty, legB_qty h]; omega
theorem tsC_legs {t : TradeV} (h : tradeOk t = true) : tsC [legA t, legB t] = 0 := by
  simp only [tsC, (ts_legs h).2, cond_true, List.map_cons, List.map_nil, List.sum_cons, List.sum_nil, legA_cost h, legB_cost h]; omega
theorem tsE_legs {t : TradeV} (h : tradeOk t = true) : tsE [legA t, legB t] = 0 := by
  simp only [tsE, ts_legs h, cond_true]
def unLeg (p : PosV) : PosV := ⟨p.who, p.inst, IntKind.wrap .i64 (0 - p.qty), IntKind.wrap .i64 (0 - p.cost)⟩
def undoC (t : TradeV) : List (List D) := [posC (unLeg (legA t)), posC (unLeg (legB t))]

end Go.Proofs.Ytcpkhnciplfmkaa
