/- More laws of losses and margins, in plain terms. No condition. -/
import Derived.Test.YtcpiojfhbebfiaaSpecH
namespace Go.Proofs.Ytcpiojfhbebfiaa
open Go.RowKit
set_option linter.unusedVariables false
set_option linter.unusedSimpArgs false
theorem chk_lt {α : Type} {ok : α → Bool} {no : α → Int} : ∀ {l : List α} {y : α}, chk ok no (some y) l = true → ∀ x ∈ l, no y < no x
  | [], _, _, x, hx => by simp at hx
  | z :: l, y, h, x, hx => by
    simp only [chk, Bool.and_eq_true, Bool.not_eq_true', decide_eq_false_iff_not] at h
    rcases List.mem_cons.1 hx with rfl | hx
    · omega
    · have := chk_lt h.2 x hx; omega
theorem chk_uniq {α : Type} {ok : α → Bool} {no : α → Int} (n : Int) (z : α) : ∀ {l : List α} {p : Option α}, chk ok no p l = true → l.filter (fun x => no x == n) = bif hasX no n l then [findX no n z l] else []
  | [], _, _ => rfl
  | x :: l, p, h => by
    simp only [chk, Bool.and_eq_true] at h
    have ih := chk_uniq n z h.2
    cases hx : no x == n
    · rw [List.filter_cons_of_neg (by simp [hx]), ih]
      simp [hasX, findX, hx]
    · rw [List.filter_cons_of_pos (by simp [hx])]
      have : l.filter (fun x => no x == n) = [] := by
        rw [List.filter_eq_nil_iff]
        intro y hy
        have := chk_lt h.2 y hy
        simp at hx
        simp; omega
      rw [this]
      simp [hasX, findX, hx]
/- Positions that count, one by one, from the last one on. -/
def selI (who cur : Int) (p : PosV) (i : InstV) : Bool := i.no == p.inst && i.cur == cur && p.who == who
def ownI (who cur : Int) (is : List InstV) (p : PosV) : List PosV := (is.filter (selI who cur p)).map fun _ => p
def ownL (r : RollV) (who cur : Int) (done : List PosV) : List PosV := done.reverse.flatMap (ownI who cur r.insts)
theorem ownI_yes {who cur : Int} {p : PosV} {i : InstV} (h : selI who cur p i = true) (pre : List InstV) : ownI who cur (pre ++ [i]) p = ownI who cur pre p ++ [p] := by simp [ownI, h]
theorem ownI_no {who cur : Int} {p : PosV} {i : InstV} (h : selI who cur p i = false) (pre : List InstV) : ownI who cur (pre ++ [i]) p = ownI who cur pre p := by simp [ownI, h]
theorem ownL_cons (r : RollV) (who cur : Int) (x : PosV) (done : List PosV) : ownL r who cur (x :: done) = ownL r who cur done ++ ownI who cur r.insts x := by simp [ownL]
theorem ownI_len (who cur : Int) (is : List InstV) (p : PosV) : (ownI who cur is p).length ≤ is.length := by simp only [ownI, List.length_map]; exact List.length_filter_le _ _
theorem ownL_len {r : RollV} {who cur : Int} (h : r.insts.length ≤ 100) : ∀ (done : List PosV), (ownL r who cur done).length ≤ 100 * done.length
  | [] => by simp [ownL]
  | x :: done => by
    have := ownL_len (who := who) (cur := cur) h done
    have := ownI_len who cur r.insts x
    rw [ownL_cons]; simp only [List.length_append, List.length_cons]; omega
theorem ownI_one {r : RollV} {who cur : Int} (h : rollOk r = true) (p : PosV) : ownI who cur r.insts p = bif pSel r who cur p then [p] else [] := by
  simp only [rollOk, Bool.and_eq_true] at h
  have hu := chk_uniq p.inst zInst h.1.2
  have e : r.insts.filter (selI who cur p) = (r.insts.filter fun i => i.no == p.inst).filter fun i => i.cur == cur && p.who == who := by
    rw [List.filter_filter]
    congr 1
    funext i
    simp only [selI]
    cases (i.no == p.inst) <;> cases (i.cur == cur) <;> cases (p.who == who) <;> rfl
  unfold ownI
  rw [e, hu]
  unfold pSel
  cases hasX InstV.no p.inst r.insts
  · rfl
  · simp only [cond_true, Bool.true_and]
    cases h1 : p.who == who <;> cases h2 : (findX InstV.no p.inst zInst r.insts).cur == cur <;> simp [h1, h2]
theorem ownL_eq {r : RollV} {who cur : Int} (h : rollOk r = true) : ∀ (l : List PosV), ownL r who cur l = (l.filter (pSel r who cur)).reverse
  | [] => rfl
  | x :: l => by
    rw [ownL_cons, ownL_eq h l, ownI_one h]
    cases hx : pSel r who cur x
    · rw [List.filter_cons_of_neg (by simp [hx])]; simp
    · rw [List.filter_cons_of_pos hx]; simp
theorem sum_rev {α : Type} (f : α → Int) : ∀ (l : List α), (l.reverse.map f).sum = (l.map f).sum
  | [] => rfl
  | x :: l => by
    have := sum_rev f l
    simp only [List.reverse_cons, List.map_append, List.sum_append, List.map_cons, List.map_nil, List.sum_cons, List.sum_nil] at this ⊢
    omega
theorem others_law {r : RollV} {who cur : Int} {l : List PosV} (h : margE r who cur l = 0) : margE r who cur (ownL r who cur l) = 0 ∧ margV r who cur (ownL r who cur l) = margV r who cur l := by
  have h1 := margE0 h
  have h2 := lossE0 h1.1
  have h3 := pcsE0 h2.1
  have ep : pcs r who cur (ownL r who cur l) = (pcs r who cur l).reverse := by
    rw [ownL_eq h3.1, pcs, pcs, ← List.map_reverse, ← List.filter_reverse, List.filter_filter]
    congr 2
    simp
  have et : ∀ j, lossT (pcs r who cur l).reverse j = lossT (pcs r who cur l) j := fun j => sum_rev _ _
  have em : lossM (pcs r who cur l).reverse = lossM (pcs r who cur l) := by simp only [lossM, et]
  have eT : margT (pcs r who cur (ownL r who cur l)) = margT (pcs r who cur l) := by rw [ep, margT, margT, em, sum_rev]
  have g1 : pcsE r (ownL r who cur l) = 0 := pcsE_of h3.1 (List.all_eq_true.2 fun p hp => by
    rw [ownL_eq h3.1, List.mem_reverse] at hp
    exact List.all_eq_true.1 h3.2 p (List.mem_filter.1 hp).1)
  have g2 : lossE r who cur (ownL r who cur l) = 0 := lossE_of g1 (by
    rw [ep]; have := h2.2; simp only [lossOk, et] at this ⊢; exact this)
  have g3 : margE r who cur (ownL r who cur l) = 0 := by rw [margE_eq g2, eT, h1.2]; rfl
  exact ⟨g3, by rw [margV_of g3, margV_of h, eT]⟩
/- One position. -/
def addL (n : Int) : List InstV → Int
  | l => l.foldl (fun a i => bif i.no == n && i.cur == 0 then i.add else a) 0
theorem addL_nil (n : Int) : addL n [] = 0 := rfl
theorem addL_yes {n : Int} {i : InstV} (h : (i.no == n && i.cur == 0) = true) (pre : List InstV) : addL n (pre ++ [i]) = i.add := by simp only [addL, List.foldl_append, List.foldl_cons, List.foldl_nil, h, cond_true]
theorem addL_no {n : Int} {i : InstV} (h : (i.no == n && i.cur == 0) = false) (pre : List InstV) : addL n (pre ++ [i]) = addL n pre := by simp only [addL, List.foldl_append, List.foldl_cons, List.foldl_nil, h, cond_false]
theorem fold_last (q : InstV → Bool) : ∀ (l : List InstV) (a : Int), l.foldl (fun a i => bif q i then i.add else a) a = ((l.filter q).getLast?.map InstV.add).getD a
  | [], a => rfl
  | x :: l, a => by
    rw [List.foldl_cons, fold_last q l]
    cases hx : q x
    · rw [List.filter_cons_of_neg (by simp [hx])]; simp
    · rw [List.filter_cons_of_pos hx, List.getLast?_cons]
      cases (l.filter q).getLast? <;> simp
theorem addL_eq {r : RollV} (h : rollOk r = true) (n : Int) : addL n r.insts = bif hasX InstV.no n r.insts && (findX InstV.no n zInst r.insts).cur == 0 then (findX InstV.no n zInst r.insts).add else 0 := by
  simp only [rollOk, Bool.and_eq_true] at h
  have hu := chk_uniq n zInst h.1.2
  have e : r.insts.filter (fun i => i.no == n && i.cur == 0) = (r.insts.filter fun i => i.no == n).filter fun i => i.cur == 0 := by
    rw [List.filter_filter]
    congr 1
    funext i
    cases (i.no == n) <;> cases (i.cur == 0) <;> rfl
  unfold addL
  rw [fold_last, e, hu]
  cases hasX InstV.no n r.insts
  · rfl
  · simp only [cond_true, Bool.true_and]
    cases h2 : (findX InstV.no n zInst r.insts).cur == 0 <;> simp [h2]
def onePos (k : KeyV) (q : Int) : PosV := ⟨k.who, k.inst, q, 0⟩
theorem pcs_one (r : RollV) (k : KeyV) (q : Int) : pcs r k.who 0 [onePos k q] = bif hasX InstV.no k.inst r.insts && (findX InstV.no k.inst zInst r.insts).cur == 0 then [⟨findX InstV.no k.inst zInst r.insts, q⟩] else [] := by
  have e : pSel r k.who 0 (onePos k q) = (hasX InstV.no k.inst r.insts && (findX InstV.no k.inst zInst r.insts).cur == 0) := by simp [pSel, onePos]
  rw [← e]
  unfold pcs
  cases h : pSel r k.who 0 (onePos k q)
  · rw [List.filter_cons_of_neg (by simp [h])]; rfl
  · rw [List.filter_cons_of_pos h]; rfl
structure OneB (r : RollV) (k : KeyV) (q : Int) : Prop where
  e1 : lossE r k.who 0 [onePos k 1] = 0
  e2 : margE r k.who 0 [onePos k q] = 0
  e3 : margE r k.who 0 [] = 0
  v3 : margV r k.who 0 [] = 0
  one : ∀ j, j < 6 → IntKind.wrap .i64 (lossV r k.who 0 [onePos k 1] j * q) = lossT (pcs r k.who 0 [onePos k q]) j
  all : margV r k.who 0 [onePos k q] = IntKind.wrap .i64 (lossM (pcs r k.who 0 [onePos k q]) + IntKind.wrap .i64 (addL k.inst r.insts * mx2 q (-q)))
theorem one_nil {r : RollV} {k : KeyV} (hr : rollOk r = true) : margE r k.who 0 [] = 0 ∧ margV r k.who 0 [] = 0 := by
  have p : pcsE r [] = 0 := pcsE_of hr rfl
  have a : lossE r k.who 0 [] = 0 := lossE_of p rfl
  have b : margE r k.who 0 [] = 0 := by rw [margE_eq a]; rfl
  exact ⟨b, by rw [margV_of b]; rfl⟩
theorem one_bounds {r : RollV} {k : KeyV} {q : Int} (hr : rollOk r = true) (h0 : -1048576 ≤ q) (h1 : q ≤ 1048576) : pcsE r [onePos k q] = 0 ∧
    (∀ j, -1152921504606846976 ≤ lossT (pcs r k.who 0 [onePos k q]) j ∧ lossT (pcs r k.who 0 [onePos k q]) j ≤ 1152921504606846976) ∧ 0 ≤ ((pcs r k.who 0 [onePos k q]).map addOf).sum ∧ ((pcs r k.who 0 [onePos k q]).map addOf).sum ≤ 1125899906842624 := by
  have hq : [onePos k q].all pQok = true := by simp [pQok, onePos]; omega
  have hp : pcsE r [onePos k q] = 0 := pcsE_of hr hq
  have hps := pcs_ok (who := k.who) (cur := 0) hp
  rw [pcs_one] at hps ⊢
  refine ⟨hp, ?_⟩
  cases hc : hasX InstV.no k.inst r.insts && (findX InstV.no k.inst zInst r.insts).cur == 0
  · simp [lossT]
  · rw [hc] at hps
    have hx := hps ⟨findX InstV.no k.inst zInst r.insts, q⟩ (by simp)
    generalize findX InstV.no k.inst zInst r.insts = i at *
    have m0 := hx.m0; have m1 := hx.m1; have a0 := hx.a0; have a1 := hx.a1
    simp only at m0 m1 a0 a1
    simp only [cond_true, lossT, List.map_cons, List.map_nil, List.sum_cons, List.sum_nil, Int.add_zero]
    refine ⟨fun j => ?_, hx.add.2.1, ?_⟩
    · have s := hx.s j
      simp only at s
      have b1 := abs_mul (a := -q) (b := i.mult) (x := 1048576) (y := 1024) (by omega) (by omega)
      have b2 := abs_mul (a := -q * i.mult) (b := shN i j) (x := 1048576 * 1024) (y := 1073741824) b1 (by omega)
      unfold lossOf
      simp only
      omega
    · unfold addOf
      simp only
      have b1 := abs_mul (a := mx2 q (-q)) (b := i.add) (x := 1048576) (y := 1073741824) (by rw [mx2_abs]; omega) (by omega)
      omega
theorem one_law {r : RollV} {k : KeyV} {q : Int} (hr : rollOk r = true) (h0 : -1048576 ≤ q) (h1 : q ≤ 1048576) : OneB r k q := by
  obtain ⟨p1, b1, a1, a1'⟩ := one_bounds (k := k) hr h0 h1
  obtain ⟨p2, b2, a2, a2'⟩ := one_bounds (k := k) (q := 1) hr (by omega) (by omega)
  have n := one_nil (k := k) hr
  have e1 : lossE r k.who 0 [onePos k 1] = 0 := lossE_of p2 ((lossOk_iff _).2 fun j _ => by have := b2 j; omega)
  have e2 : lossE r k.who 0 [onePos k q] = 0 := lossE_of p1 ((lossOk_iff _).2 fun j _ => by have := b1 j; omega)
  have hM0 := lossM_ge (pcs r k.who 0 [onePos k q])
  have hM1 := lossM_le (pcs r k.who 0 [onePos k q]) 1152921504606846976 (by omega) fun j _ => (b1 j).2
  have e3 : margE r k.who 0 [onePos k q] = 0 := by
    rw [margE_eq e2]
    have : rightN (margT (pcs r k.who 0 [onePos k q])) = true := by
      unfold margT
      generalize ((pcs r k.who 0 [onePos k q]).map addOf).sum = s at *
      generalize lossM (pcs r k.who 0 [onePos k q]) = t at *
      simp [rightN]; omega
    rw [this]; rfl
  refine ⟨e1, e3, n.1, n.2, fun j hj => ?_, ?_⟩
  · have e : lossT (pcs r k.who 0 [onePos k 1]) j * q = lossT (pcs r k.who 0 [onePos k q]) j := by
      rw [pcs_one, pcs_one]
      cases hasX InstV.no k.inst r.insts && (findX InstV.no k.inst zInst r.insts).cur == 0
      · simp [lossT]
      · simp only [cond_true, lossT, List.map_cons, List.map_nil, List.sum_cons, List.sum_nil, Int.add_zero, lossOf]
        grind
    rw [lossV_of e1, e]
    have := b1 j
    exact wrapI (by omega) (by omega)
  · have e : addL k.inst r.insts * mx2 q (-q) = ((pcs r k.who 0 [onePos k q]).map addOf).sum := by
      rw [addL_eq hr, pcs_one]
      cases hasX InstV.no k.inst r.insts && (findX InstV.no k.inst zInst r.insts).cur == 0
      · simp
      · simp only [cond_true, List.map_cons, List.map_nil, List.sum_cons, List.sum_nil, Int.add_zero, addOf]
        exact Int.mul_comm _ _
    rw [margV_of e3, e, wrapI (n := ((pcs r k.who 0 [onePos k q]).map addOf).sum) (by omega) (by omega), wrapI (n := lossM (pcs r k.who 0 [onePos k q]) + ((pcs r k.who 0 [onePos k q]).map addOf).sum) (by omega) (by omega)]
    rfl
theorem posC_one (k : KeyV) (q : Int) : posC (onePos k q) = [iv k.who, iv k.inst, iv q, iv 0] := rfl
theorem one_eq {r : RollV} {k : KeyV} {q : Int} (h0 : -1048576 ≤ q) (h1 : q ≤ 1048576) : margE r k.who 0 [onePos k q] = lossE r k.who 0 [onePos k 1] ∧ margE r k.who 0 [] = lossE r k.who 0 [onePos k 1] := by
  cases hr : rollOk r
  · have e : ∀ l, lossE r k.who 0 l = 14 := fun l => by simp [lossE, pcsE, hr]
    have e2 : ∀ l, margE r k.who 0 l = 14 := fun l => by simp [margE, e]
    simp [e, e2]
  · have o := one_law (k := k) hr h0 h1
    rw [o.e1, o.e2, o.e3]; exact ⟨rfl, rfl⟩
end Go.Proofs.Ytcpiojfhbebfiaa
