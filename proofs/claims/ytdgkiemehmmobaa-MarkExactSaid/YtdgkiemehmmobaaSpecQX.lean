/- Marks: the other reading. In plain Lean. No condition. -/
import Derived.Test.YtdgkiemehmmobaaSpecP
import Derived.Test.YtdgkiemehmmobaaSpecKG
namespace Go.Proofs.Ytdgkiemehmmobaa
open Go.RowKit
set_option linter.unusedVariables false
set_option linter.unusedSimpArgs false
theorem mayP_eq (p : PosV) (m k : Int) : (inR p.qty (-1099511627776) 1099511627776 && rightN p.cost && inR m 1 1024 && inR k 0 1073741824) = !worthBad p m k := by
  simp only [worthBad, inR, List.all_cons, List.all_nil, Bool.and_true]
  rw [Bool.eq_iff_iff]
  cases rightN p.cost <;> simp <;> omega
theorem rwT (p : PosV) (m k : Int) : p.qty * (k * m) + -p.cost * m = worthT p m k := by
  rw [worthT, Int.mul_comm k m, ← Int.mul_assoc, Int.mul_comm p.qty m]
theorem wb_facts {p : PosV} {m k : Int} (h : worthBad p m k = false) : (-1099511627776 ≤ p.qty ∧ p.qty ≤ 1099511627776) ∧ (-4611686018427387904 ≤ p.cost ∧ p.cost ≤ 4611686018427387904) ∧ (1 ≤ m ∧ m ≤ 1024) ∧ (0 ≤ k ∧ k ≤ 1073741824) := by
  simp [worthBad, rightN] at h
  omega
theorem km_bnd {m k : Int} (hm : 1 ≤ m ∧ m ≤ 1024) (hk : 0 ≤ k ∧ k ≤ 1073741824) : 0 ≤ k * m ∧ k * m ≤ 1099511627776 := by
  refine ⟨Int.mul_nonneg hk.1 (by omega), ?_⟩
  have h1 : k * m ≤ k * 1024 := Int.mul_le_mul_of_nonneg_left hm.2 hk.1
  omega
theorem big_abs {a b : Int} {x y : Nat} (ha : a.natAbs ≤ x) (hb : b.natAbs ≤ y) : -((x * y : Nat) : Int) ≤ a * b ∧ a * b ≤ ((x * y : Nat) : Int) := by
  have := abs_mul ha hb
  omega
theorem w_bnds {p : PosV} {m k : Int} (h : worthBad p m k = false) : (-170141183460469231731687303715884105728 ≤ p.qty * (k * m) ∧ p.qty * (k * m) < 170141183460469231731687303715884105728) ∧ (-170141183460469231731687303715884105728 ≤ -p.cost * m ∧ -p.cost * m < 170141183460469231731687303715884105728) ∧ fitsW (worthT p m k) = true := by
  obtain ⟨h1, h2, h3, h4⟩ := wb_facts h
  have h5 := km_bnd h3 h4
  have a := big_abs (a := p.qty) (b := k * m) (x := 1099511627776) (y := 1099511627776) (by omega) (by omega)
  have b := big_abs (a := -p.cost) (b := m) (x := 4611686018427387904) (y := 1024) (by omega) (by omega)
  have e := rwT p m k
  refine ⟨by omega, by omega, ?_⟩
  simp only [fitsW, Bool.and_eq_true, decide_eq_true_eq]
  omega
theorem rT_eq {p : PosV} {m k : Int} (h : worthBad p m k = false) : (bif rightN (worthT p m k) then worthT p m k else 0) = worthV p m k ∧ rightN (worthT p m k) = (worthE p m k == 0) := by
  simp only [worthV, worthE, h, cond_false]
  cases rightN (worthT p m k) <;> simp
theorem wE_bad {p : PosV} {m k : Int} (h : worthBad p m k = true) : worthV p m k = 0 ∧ worthE p m k = 3 := by simp [worthV, worthE, h]
theorem wE_cases {p : PosV} {m k : Int} (h : worthBad p m k = false) : worthE p m k = 0 ∨ worthE p m k = 1 := by
  simp only [worthE, h, cond_false]; cases rightN (worthT p m k) <;> simp
theorem pE_cases (i : InstV) : priceE i = 0 ∨ priceE i = 20 := by
  simp only [priceE]; cases i.set != 0 <;> cases i.price != 0 <;> simp
theorem priceV_bnd {i : InstV} (h : instOk i = true) : 0 ≤ priceV i ∧ priceV i ≤ 1073741824 := by
  simp only [instOk, inR, Bool.and_eq_true, decide_eq_true_eq] at h
  simp only [priceV]
  cases i.set != 0 <;> cases i.price != 0 <;> simp only [cond_true, cond_false] <;> omega
theorem run_wb {r : RollV} {b : BookV} {x : PosV} (hr : rollOk r = true) (hb : bookOk b = true) (hx : x ∈ b.poss) (hi : isOf r x = true) : worthBad x (iOf r x).mult (mkV r x) = false := by
  have hG := (bookOk_iff b).1 hb
  have hp := posOk_iff.1 (hG.ok x hx)
  have hio := chk_all (roll_inst hr) (iOf r x) (findX_mem hi).1
  have hm := inst_bd hio
  have hk : 0 ≤ mkV r x ∧ mkV r x ≤ 1073741824 := priceV_bnd hio
  have hc := hp.2.2.2.1
  simp only [worthBad, List.all_cons, List.all_nil, Bool.and_true, hc, Bool.not_true, Bool.or_false, Bool.or_eq_false_iff, decide_eq_false_iff_not]
  have h1 := hp.2.1
  have h2 := hp.2.2.1
  refine ⟨⟨⟨⟨⟨?_, ?_⟩, ?_⟩, ?_⟩, ?_⟩, ?_⟩ <;> omega
def spoilD (d : DueV) : DueV := ⟨-77, d.cur, d.amount⟩
theorem roll_E (r : RollV) : (rollE r = 0 ↔ rollOk r = true) ∧ (rollOk r = false → rollE r = 14) := by
  simp only [rollE]; cases rollOk r <;> simp
theorem book_E (b : BookV) : (bookE b = 0 ↔ bookOk b = true) ∧ (bookOk b = false → bookE b = 14) := by
  simp only [bookE]; cases bookOk b <;> simp
theorem run_bad {r : RollV} {b : BookV} (h : (!rollOk r || !bookOk b) = true) : runE r b = 14 := by
  cases hr : rollOk r with
  | false => rw [runE_roll (by rw [(roll_E r).2 hr]; decide), (roll_E r).2 hr]
  | true =>
    have hb : bookOk b = false := by simpa [hr] using h
    rw [runE_book ((roll_E r).1.2 hr) (by rw [(book_E b).2 hb]; decide), (book_E b).2 hb]
theorem st_none {r : RollV} {x : PosV} (h : isOf r x = false) : stE r x = 10 := by rw [stE_mk (by rw [mkE_no h]; rfl), mkE_no h]
theorem st_price {r : RollV} {x : PosV} (h : isOf r x = true) (h2 : (!(priceE (iOf r x) == 0) && x.qty != 0) = true) : stE r x = 20 := by
  have hp : priceE (iOf r x) = 20 := by
    rcases pE_cases (iOf r x) with c | c
    · simp [c] at h2
    · exact c
  have hq : (x.qty == 0) = false := by simp at h2; simpa using h2.2
  have e : mkE r x = 20 := by simp only [mkE, h, cond_true, hp, hq, Bool.and_false, cond_false]
  rw [stE_mk (by rw [e]; rfl), e]
theorem mk_ok {r : RollV} {x : PosV} (h : isOf r x = true) (h2 : (!(priceE (iOf r x) == 0) && x.qty != 0) = false) : mkE r x = 0 := by
  simp only [mkE, h, cond_true]
  rcases pE_cases (iOf r x) with c | c
  · simp [c]
  · have hq : x.qty = 0 := by simpa [c] using h2
    simp [c, hq]
theorem st_big {r : RollV} {x : PosV} (hm : mkE r x = 0) (hw : worthBad x (iOf r x).mult (mkV r x) = false) (h : (!(rightN (worthT x (iOf r x).mult (mkV r x))) || !(rightN (x.qty * mkV r x))) = true) : stE r x = 1 := by
  simp only [stE, hm, stW, worthE, hw, cond_false]
  cases h1 : rightN (worthT x (iOf r x).mult (mkV r x)) with
  | false => rfl
  | true =>
    have : rightN (x.qty * mkV r x) = false := by simpa [h1] using h
    simp [this]
theorem st_fine {r : RollV} {x : PosV} (hm : mkE r x = 0) (hw : worthBad x (iOf r x).mult (mkV r x) = false) (h : (!(rightN (worthT x (iOf r x).mult (mkV r x))) || !(rightN (x.qty * mkV r x))) = false) :
    stE r x = 0 ∧ rightN (x.qty * mkV r x) = true ∧ (bif rightN (worthT x (iOf r x).mult (mkV r x)) then worthT x (iOf r x).mult (mkV r x) else 0) = worthV x (iOf r x).mult (mkV r x) := by
  simp only [Bool.or_eq_false_iff, Bool.not_eq_false'] at h
  refine ⟨?_, h.2, ?_⟩
  · simp only [stE, hm, stW, worthE, hw, h.1, h.2, cond_true, cond_false]; rfl
  · simp only [worthV, hw, cond_false]
theorem wcond (p : PosV) (m k : Int) : ((worthV p m k != worthV p m k || !((worthE p m k == 0) == (worthE p m k == 0))) || (!(worthE p m k == 0) && ((worthE p m k == 3) == !worthBad p m k))) = false := by
  cases hb : worthBad p m k with
  | true => have := wE_bad hb; simp [this]
  | false => rcases wE_cases hb with h | h <;> simp [h]
theorem pcond (i : InstV) : ((priceV i != priceV i || !((priceE i == 0) == (priceE i == 0))) || (!(priceE i == 0) && priceE i != 20)) = false := by
  rcases pE_cases i with h | h <;> simp [h]
theorem runTP_len (r : RollV) (b : BookV) : (runT r b).length ≤ b.trades.length ∧ (runP r b).length ≤ b.poss.length ∧ (runD r b).length ≤ b.poss.length := by
  simp only [runT, runP, runD]
  cases runE r b == 0 with
  | true => exact ⟨Nat.le_refl _, newPs_len r b.poss, by simp⟩
  | false => simp
end Go.Proofs.Ytdgkiemehmmobaa
