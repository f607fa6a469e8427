/- What is won in steps, in plain terms. No condition. -/
import Derived.Test.YtdgkiemehmmobaaSpecM
import Derived.Test.YtdgkiemehmmobaaSpecR
namespace Go.Proofs.Ytdgkiemehmmobaa
open Go.RowKit
set_option linter.unusedVariables false
set_option linter.unusedSimpArgs false
theorem worth_zero {p : PosV} {m k : Int} (h : worthE p m k = 0) : worthBad p m k = false ∧ rightN (worthT p m k) = true ∧ worthV p m k = worthT p m k := by
  unfold worthE at h
  cases hb : worthBad p m k
  · cases hr : rightN (worthT p m k)
    · rw [hb, hr] at h; cases h
    · exact ⟨rfl, rfl, by simp only [worthV, hb, hr, cond_true, cond_false]⟩
  · rw [hb] at h; cases h
theorem worth_of {p : PosV} {m k : Int} (hb : worthBad p m k = false) (hr : rightN (worthT p m k) = true) : worthE p m k = 0 ∧ worthV p m k = worthT p m k := by
  simp only [worthE, worthV, hb, hr, cond_true, cond_false]; exact ⟨trivial, trivial⟩
def stepP (p : PosV) (a : Int) : PosV := ⟨p.who, p.inst, p.qty, IntKind.wrap .i64 (p.qty * a)⟩
def backP (p : PosV) : PosV := ⟨p.who, p.inst, IntKind.wrap .i64 (0 - p.qty), IntKind.wrap .i64 (0 - p.cost)⟩
theorem steps_facts {p : PosV} {m a b : Int} (hb : (worthE p m a != 0 || decide (p.qty > 1048576) || decide (p.qty < -1048576) || decide (a < 0) || decide (a > 1073741824) || decide (b < 0) || decide (b > 1073741824)) = false) :
    worthE (stepP p a) m b = 0 ∧ (worthE p m b == 0 && IntKind.wrap .i64 (worthV p m a + worthV (stepP p a) m b) != worthV p m b) = false ∧ worthE (backP p) m a = 0 ∧ worthV (backP p) m a = IntKind.wrap .i64 (0 - worthV p m a) := by
  simp only [Bool.or_eq_false_iff, bne_eq_false_iff_eq, decide_eq_false_iff_not] at hb
  obtain ⟨⟨⟨⟨⟨⟨h0, h1⟩, h2⟩, h3⟩, h4⟩, h5⟩, h6⟩ := hb
  obtain ⟨k1, k2, k3⟩ := worth_zero h0
  have k1' := k1
  simp [worthBad] at k1'
  obtain ⟨⟨⟨⟨⟨⟨j1, j2⟩, j3⟩, j4⟩, j5⟩, j6⟩, j7⟩ := k1'
  simp [rightN] at j3
  have b1 := abs_mul (a := p.qty) (b := a) (x := 1048576) (y := 1073741824) (by omega) (by omega)
  have b2 := abs_mul (a := m * p.qty) (b := b) (x := 1024 * 1048576) (y := 1073741824) (abs_mul (by omega) (by omega)) (by omega)
  have b3 := abs_mul (a := p.qty * a) (b := m) (x := 1048576 * 1073741824) (y := 1024) b1 (by omega)
  have c1 : IntKind.wrap .i64 (p.qty * a) = p.qty * a := wrapI (by omega) (by omega)
  have t1 : worthT (stepP p a) m b = m * p.qty * b - p.qty * a * m := by
    simp only [worthT, stepP, c1]; rw [Int.neg_mul]; omega
  have y1 : worthBad (stepP p a) m b = false := by
    simp only [worthBad, stepP, c1, List.all_cons, List.all_nil, rightN]
    simp; omega
  have y2 : rightN (worthT (stepP p a) m b) = true := by
    rw [t1]; simp only [rightN]; simp; omega
  obtain ⟨y3, y4⟩ := worth_of y1 y2
  have t0 : worthT p m a = p.qty * a * m + -p.cost * m := by
    simp only [worthT]
    rw [show m * p.qty * a = p.qty * a * m from by grind]
  have t2 : worthT p m b = m * p.qty * b + -p.cost * m := rfl
  have d1 : IntKind.wrap .i64 (0 - p.qty) = -p.qty := by rw [wrapI (by omega) (by omega)]; omega
  have d2 : IntKind.wrap .i64 (0 - p.cost) = -p.cost := by rw [wrapI (by omega) (by omega)]; omega
  have t3 : worthT (backP p) m a = - worthT p m a := by
    simp only [worthT, backP, d1, d2]; grind
  have z1 : worthBad (backP p) m a = false := by
    simp only [worthBad, backP, d1, d2, List.all_cons, List.all_nil, rightN]
    simp; omega
  have k2' := k2
  simp [rightN] at k2'
  have z2 : rightN (worthT (backP p) m a) = true := by
    rw [t3]; simp only [rightN]; simp; omega
  obtain ⟨z3, z4⟩ := worth_of z1 z2
  refine ⟨y3, ?_, z3, ?_⟩
  · cases hz : worthE p m b == 0
    · rfl
    · rw [beq_iff_eq] at hz
      obtain ⟨q1, q2, q3⟩ := worth_zero hz
      simp [rightN] at q2
      rw [Bool.true_and, bne_eq_false_iff_eq, k3, y4, q3, t1, t0]
      rw [t2] at q2 ⊢
      generalize m * p.qty * b = u at *
      generalize p.qty * a * m = v at *
      generalize -p.cost * m = z at *
      rw [wrapI (by omega) (by omega)]; omega
  · rw [z4, t3, k3]
    rw [wrapI (by omega) (by omega)]; omega
def priceV (i : InstV) : Int := bif i.set != 0 then i.set else (bif i.price != 0 then i.price else 0)
def priceE (i : InstV) : Int := bif i.set != 0 then 0 else (bif i.price != 0 then 0 else 20)
theorem prices_law (i : InstV) : ((i.set != 0 && (priceE i != 0 || priceV i != i.set)) || (i.set == 0 && i.price != 0 && (priceE i != 0 || priceV i != i.price)) || (i.set == 0 && i.price == 0 && (priceE i != 20 || priceV i != 0))) = false := by
  unfold priceE priceV
  rcases h1 : (i.set != 0) <;> rcases h2 : (i.price != 0) <;> simp at h1 h2 <;> simp [h1, h2]
theorem worth_none {w n m k : Int} : worthV ⟨w, n, 0, 0⟩ m k = 0 ∧ (worthE ⟨w, n, 0, 0⟩ m k == 0) = (decide (m ≥ 1) && decide (m ≤ 1024) && decide (k ≥ 0) && decide (k ≤ 1073741824)) := by
  have hT : worthT ⟨w, n, 0, 0⟩ m k = 0 := by simp [worthT]
  have hr : rightN 0 = true := by decide
  have hb : worthBad ⟨w, n, 0, 0⟩ m k = !(decide (m ≥ 1) && decide (m ≤ 1024) && decide (k ≥ 0) && decide (k ≤ 1073741824)) := by
    rw [Bool.eq_iff_iff]; simp [worthBad, rightN] <;> omega
  unfold worthV worthE
  rw [hT, hr, hb]
  cases (decide (m ≥ 1) && decide (m ≤ 1024) && decide (k ≥ 0) && decide (k ≤ 1073741824)) <;> simp
def keyC (k : Int × Int) : List D := [iv k.1, iv k.2]
end Go.Proofs.Ytdgkiemehmmobaa
