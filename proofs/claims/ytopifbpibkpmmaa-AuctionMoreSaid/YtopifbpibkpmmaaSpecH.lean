/- Laws of losses and margins, in plain terms. No condition. -/
import Derived.Test.YtopifbpibkpmmaaSpecG
namespace Go.Proofs.Ytopifbpibkpmmaa
open Go.RowKit
set_option linter.unusedVariables false
set_option linter.unusedSimpArgs false
theorem pcsE0 {r : RollV} {l : List PosV} (h : pcsE r l = 0) : rollOk r = true ∧ l.all pQok = true := by
  unfold pcsE at h
  cases h1 : rollOk r
  · rw [h1] at h; simp at h
  · rw [h1] at h
    refine ⟨rfl, ?_⟩
    cases h2 : l.all pQok
    · rw [h2] at h; simp at h
    · rfl
theorem pcsE_of {r : RollV} {l : List PosV} (h1 : rollOk r = true) (h2 : l.all pQok = true) : pcsE r l = 0 := by simp [pcsE, h1, h2]
theorem lossE_of {r : RollV} {who cur : Int} {l : List PosV} (h1 : pcsE r l = 0) (h2 : lossOk (pcs r who cur l) = true) : lossE r who cur l = 0 := by simp [lossE, h1, h2]
theorem lossV_of {r : RollV} {who cur : Int} {l : List PosV} (h : lossE r who cur l = 0) (j : Nat) : lossV r who cur l j = lossT (pcs r who cur l) j := by simp [lossV, h]
theorem margE0 {r : RollV} {who cur : Int} {l : List PosV} (h : margE r who cur l = 0) : lossE r who cur l = 0 ∧ rightN (margT (pcs r who cur l)) = true := by
  unfold margE at h
  cases h1 : lossE r who cur l == 0
  · rw [h1] at h; simp at h h1; exact absurd h h1
  · rw [h1] at h
    refine ⟨by simpa using h1, ?_⟩
    cases h2 : rightN (margT (pcs r who cur l))
    · rw [h2] at h; simp at h
    · rfl
theorem margV_of {r : RollV} {who cur : Int} {l : List PosV} (h : margE r who cur l = 0) : margV r who cur l = margT (pcs r who cur l) := by simp [margV, h]
theorem six {p : Nat → Prop} (h0 : p 0) (h1 : p 1) (h2 : p 2) (h3 : p 3) (h4 : p 4) (h5 : p 5) : ∀ j, j < 6 → p j
  | 0, _ => h0 | 1, _ => h1 | 2, _ => h2 | 3, _ => h3 | 4, _ => h4 | 5, _ => h5
  | n + 6, h => by omega
theorem lossOk_iff (ps : List PieceV) : lossOk ps = true ↔ ∀ j, j < 6 → -4611686018427387904 ≤ lossT ps j ∧ lossT ps j ≤ 4611686018427387904 := by
  simp only [lossOk, rightN, Bool.and_eq_true, Bool.not_eq_true', Bool.or_eq_false_iff, decide_eq_false_iff_not]
  constructor
  · rintro ⟨⟨⟨⟨⟨h0, h1⟩, h2⟩, h3⟩, h4⟩, h5⟩
    exact six (by omega) (by omega) (by omega) (by omega) (by omega) (by omega)
  · intro h
    have h0 := h 0 (by omega); have h1 := h 1 (by omega); have h2 := h 2 (by omega); have h3 := h 3 (by omega); have h4 := h 4 (by omega); have h5 := h 5 (by omega)
    simp only [gt_iff_lt]
    omega
theorem mx2_ge (a b : Int) : a ≤ mx2 a b ∧ b ≤ mx2 a b := by unfold mx2; split <;> omega
theorem mx2_le {a b c : Int} (h : a ≤ c) (k : b ≤ c) : mx2 a b ≤ c := by unfold mx2; split <;> omega
theorem lossM_ge (ps : List PieceV) : 0 ≤ lossM ps ∧ ∀ j, j < 6 → lossT ps j ≤ lossM ps := by
  unfold lossM
  have e0 := mx2_ge 0 (lossT ps 0)
  have e1 := mx2_ge (mx2 0 (lossT ps 0)) (lossT ps 1)
  have e2 := mx2_ge (mx2 (mx2 0 (lossT ps 0)) (lossT ps 1)) (lossT ps 2)
  have e3 := mx2_ge (mx2 (mx2 (mx2 0 (lossT ps 0)) (lossT ps 1)) (lossT ps 2)) (lossT ps 3)
  have e4 := mx2_ge (mx2 (mx2 (mx2 (mx2 0 (lossT ps 0)) (lossT ps 1)) (lossT ps 2)) (lossT ps 3)) (lossT ps 4)
  have e5 := mx2_ge (mx2 (mx2 (mx2 (mx2 (mx2 0 (lossT ps 0)) (lossT ps 1)) (lossT ps 2)) (lossT ps 3)) (lossT ps 4)) (lossT ps 5)
  exact ⟨by omega, six (by omega) (by omega) (by omega) (by omega) (by omega) (by omega)⟩
theorem lossM_le (ps : List PieceV) (b : Int) (h0 : 0 ≤ b) (h : ∀ j, j < 6 → lossT ps j ≤ b) : lossM ps ≤ b :=
  mx2_le (mx2_le (mx2_le (mx2_le (mx2_le (mx2_le h0 (h 0 (by omega))) (h 1 (by omega))) (h 2 (by omega))) (h 3 (by omega))) (h 4 (by omega))) (h 5 (by omega))
theorem adds_nn {ps : List PieceV} (h : ∀ x ∈ ps, PieceOk x) : 0 ≤ (ps.map addOf).sum := by
  induction ps with
  | nil => simp
  | cons x ps ih =>
    simp only [List.map_cons, List.sum_cons]
    have := (h x (by simp)).add.2.1
    have := ih fun y hy => h y (by simp [hy])
    omega
/- A margin covers each loss. -/
theorem covers_law {r : RollV} {who cur : Int} {l : List PosV} (h : margE r who cur l = 0) : 0 ≤ margV r who cur l ∧ ∀ j, j < 6 → lossV r who cur l j ≤ margV r who cur l := by
  have h1 := (margE0 h).1
  have hps := pcs_ok (who := who) (cur := cur) (lossE0 h1).1
  have ha := adds_nn hps
  have hm := lossM_ge (pcs r who cur l)
  rw [margV_of h]
  unfold margT
  refine ⟨by omega, fun j hj => ?_⟩
  rw [lossV_of h1]
  have := hm.2 j hj
  omega
def negQ (p : PosV) : PosV := ⟨p.who, p.inst, IntKind.wrap .i64 (0 - p.qty), p.cost⟩
theorem negQ_qty {p : PosV} (h : pQok p = true) : (negQ p).qty = -p.qty := by
  simp [pQok] at h
  simp only [negQ]
  rw [wrapI (by omega) (by omega)]; omega
theorem negQ_ok {p : PosV} (h : pQok p = true) : pQok (negQ p) = true := by
  have e := negQ_qty h
  simp [pQok] at h ⊢
  omega
theorem sum_neg {α : Type} {f g : α → Int} : ∀ {l : List α}, (∀ x ∈ l, g x = -f x) → (l.map g).sum = -(l.map f).sum
  | [], _ => by simp
  | x :: l, h => by
    have h1 := h x (by simp)
    have h2 := sum_neg (l := l) fun y hy => h y (by simp [hy])
    simp only [List.map_cons, List.sum_cons]
    omega
theorem pcs_neg {r : RollV} {who cur : Int} : ∀ {l : List PosV}, pcs r who cur (l.map negQ) = (pcs r who cur l).map fun x => ⟨x.inst, IntKind.wrap .i64 (0 - x.qty)⟩
  | [] => rfl
  | p :: l => by
    have ih := pcs_neg (r := r) (who := who) (cur := cur) (l := l)
    simp only [pcs, List.map_cons] at ih ⊢
    by_cases h : pSel r who cur p = true
    · rw [List.filter_cons_of_pos h, List.filter_cons_of_pos (show pSel r who cur (negQ p) = true from h), List.map_cons, List.map_cons, List.map_cons, ih]
      rfl
    · rw [List.filter_cons_of_neg h, List.filter_cons_of_neg (show ¬ pSel r who cur (negQ p) = true from h), ih]
theorem lossT_neg {r : RollV} {who cur : Int} {l : List PosV} (h : pcsE r l = 0) (j : Nat) : lossT (pcs r who cur (l.map negQ)) j = -lossT (pcs r who cur l) j := by
  have hps := pcs_ok (who := who) (cur := cur) h
  unfold lossT
  rw [pcs_neg, List.map_map]
  refine sum_neg fun x hx => ?_
  have hx := hps x hx
  simp only [Function.comp, lossOf]
  have q0 := hx.q0; have q1 := hx.q1
  rw [wrapI (n := 0 - x.qty) (by omega) (by omega), show (0 - x.qty : Int) = -x.qty from by omega]
  simp only [shN]
  rw [Int.neg_mul (-x.qty), Int.neg_mul]
theorem turn_law {r : RollV} {who cur : Int} {l : List PosV} (h : lossE r who cur l = 0) : lossE r who cur (l.map negQ) = 0 ∧ ∀ j, j < 6 → lossV r who cur l j = IntKind.wrap .i64 (0 - lossV r who cur (l.map negQ) j) := by
  have h1 := lossE0 h
  have h2 := pcsE0 h1.1
  have h3 : pcsE r (l.map negQ) = 0 := pcsE_of h2.1 (by
    rw [List.all_map]
    exact List.all_eq_true.2 fun p hp => negQ_ok (List.all_eq_true.1 h2.2 p hp))
  have ht : ∀ j, lossT (pcs r who cur (l.map negQ)) j = -lossT (pcs r who cur l) j := lossT_neg h1.1
  have hb := (lossOk_iff _).1 h1.2
  have h4 : lossE r who cur (l.map negQ) = 0 := lossE_of h3 ((lossOk_iff _).2 fun j hj => by rw [ht]; have := hb j hj; omega)
  refine ⟨h4, fun j hj => ?_⟩
  rw [lossV_of h4, lossV_of h, ht]
  have := hb j hj
  rw [wrapI (by omega) (by omega)]
  omega
/- Two rows of positions together. -/
theorem pcs_app (r : RollV) (who cur : Int) (l k : List PosV) : pcs r who cur (l ++ k) = pcs r who cur l ++ pcs r who cur k := by simp [pcs]
theorem lossT_app (a b : List PieceV) (j : Nat) : lossT (a ++ b) j = lossT a j + lossT b j := by simp [lossT]
theorem joins_law {r : RollV} {who cur : Int} {l k : List PosV} (h1 : lossE r who cur l = 0) (h2 : lossE r who cur k = 0) (h3 : margE r who cur l = 0) (h4 : margE r who cur k = 0)
    (hm : margV r who cur l ≤ 288230376151711744) (hn : margV r who cur k ≤ 288230376151711744) (ha : ∀ j, j < 6 → -288230376151711744 ≤ lossV r who cur l j) (hb : ∀ j, j < 6 → -288230376151711744 ≤ lossV r who cur k j) :
    lossE r who cur (l ++ k) = 0 ∧ margE r who cur (l ++ k) = 0 ∧ margV r who cur (l ++ k) ≤ IntKind.wrap .i64 (margV r who cur l + margV r who cur k) ∧
    ∀ j, j < 6 → lossV r who cur (l ++ k) j = IntKind.wrap .i64 (lossV r who cur l j + lossV r who cur k j) := by
  have c1 := covers_law h3
  have c2 := covers_law h4
  have e1 := lossE0 h1
  have e2 := lossE0 h2
  have f1 := pcsE0 e1.1
  have f2 := pcsE0 e2.1
  have hp : pcsE r (l ++ k) = 0 := pcsE_of f1.1 (by rw [List.all_append, f1.2, f2.2]; rfl)
  have bd : ∀ j, j < 6 → -288230376151711744 ≤ lossT (pcs r who cur l) j ∧ lossT (pcs r who cur l) j ≤ margV r who cur l ∧ -288230376151711744 ≤ lossT (pcs r who cur k) j ∧ lossT (pcs r who cur k) j ≤ margV r who cur k := fun j hj => by
    have a := ha j hj; have b := hb j hj; have c := c1.2 j hj; have d := c2.2 j hj
    rw [lossV_of h1] at a c
    rw [lossV_of h2] at b d
    exact ⟨a, c, b, d⟩
  have g1 : lossE r who cur (l ++ k) = 0 := lossE_of hp ((lossOk_iff _).2 fun j hj => by
    rw [pcs_app, lossT_app]; have := bd j hj; omega)
  have n1 := adds_nn (pcs_ok (who := who) (cur := cur) e1.1)
  have n2 := adds_nn (pcs_ok (who := who) (cur := cur) e2.1)
  have hM := lossM_ge (pcs r who cur l ++ pcs r who cur k)
  have hle : lossM (pcs r who cur l ++ pcs r who cur k) ≤ lossM (pcs r who cur l) + lossM (pcs r who cur k) := by
    have m1 := lossM_ge (pcs r who cur l)
    have m2 := lossM_ge (pcs r who cur k)
    refine lossM_le _ _ (by omega) fun j hj => ?_
    rw [lossT_app]
    have := m1.2 j hj; have := m2.2 j hj
    omega
  have v1 := margV_of h3
  have v2 := margV_of h4
  unfold margT at v1 v2
  have hT : margT (pcs r who cur (l ++ k)) = lossM (pcs r who cur l ++ pcs r who cur k) + (((pcs r who cur l).map addOf).sum + ((pcs r who cur k).map addOf).sum) := by
    rw [pcs_app, margT, List.map_append, List.sum_append]
  have g2 : margE r who cur (l ++ k) = 0 := by
    rw [margE_eq g1, hT]
    have : rightN (lossM (pcs r who cur l ++ pcs r who cur k) + (((pcs r who cur l).map addOf).sum + ((pcs r who cur k).map addOf).sum)) = true := by
      simp only [rightN, Bool.not_eq_true', Bool.or_eq_false_iff, decide_eq_false_iff_not]
      omega
    rw [this]; rfl
  refine ⟨g1, g2, ?_, fun j hj => ?_⟩
  · rw [margV_of g2, hT, wrapI (by omega) (by omega)]
    omega
  · have := bd j hj
    rw [lossV_of g1, lossV_of h1, lossV_of h2, pcs_app, lossT_app, wrapI (by omega) (by omega)]
structure KeyV where
  who : Int
  inst : Int
def keyK (k : KeyV) : List D := [iv k.who, iv k.inst]
theorem posC_app (l k : List PosV) : (l ++ k).map posC = l.map posC ++ k.map posC := List.map_append
end Go.Proofs.Ytopifbpibkpmmaa
