/- What a fair filling is: sums, prices, who gets how much. In plain Lean. No condition. -/
import Derived.Test.YtopifbpibkpmmaaSpecV
namespace Go.Proofs.Ytopifbpibkpmmaa
open Go.RowKit
set_option linter.unusedVariables false
set_option linter.unusedSimpArgs false
def sumQ : List BidV → Int
  | [] => 0
  | b :: l => b.qty + sumQ l
def sumFl : List FillV → Int
  | [] => 0
  | f :: l => f.qty + sumFl l
def mayB (f p : Int) : List BidV → Int
  | [] => 0
  | b :: l => (bif (b.frm == f && b.price == p) then b.qty else 0) + mayB f p l
def gotF (f p : Int) : List FillV → Int
  | [] => 0
  | b :: l => (bif (b.frm == f && b.price == p) then b.qty else 0) + gotF f p l
theorem sumQ_snoc (l : List BidV) (x : BidV) : sumQ (l ++ [x]) = sumQ l + x.qty := by
  induction l with
  | nil => simp [sumQ]
  | cons b l ih => simp only [List.cons_append, sumQ, ih]; omega
theorem sumFl_snoc (l : List FillV) (x : FillV) : sumFl (l ++ [x]) = sumFl l + x.qty := by
  induction l with
  | nil => simp [sumFl]
  | cons b l ih => simp only [List.cons_append, sumFl, ih]; omega
theorem mayB_snoc (f p : Int) (l : List BidV) (x : BidV) : mayB f p (l ++ [x]) = mayB f p l + (bif (x.frm == f && x.price == p) then x.qty else 0) := by
  induction l with
  | nil => simp [mayB]
  | cons b l ih => simp only [List.cons_append, mayB, ih]; omega
theorem gotF_snoc (f p : Int) (l : List FillV) (x : FillV) : gotF f p (l ++ [x]) = gotF f p l + (bif (x.frm == f && x.price == p) then x.qty else 0) := by
  induction l with
  | nil => simp [gotF]
  | cons b l ih => simp only [List.cons_append, gotF, ih]; omega
theorem mayB_ins (f p : Int) {lt : BidV → BidV → Bool} (x : BidV) : ∀ l : List BidV, mayB f p (insX lt x l) = mayB f p (x :: l)
  | [] => rfl
  | y :: l => by
    simp only [insX]
    cases lt x y with
    | true => rfl
    | false => simp only [cond_false, mayB, mayB_ins f p x l]; omega
theorem mayB_isort (f p : Int) {lt : BidV → BidV → Bool} : ∀ l acc : List BidV, mayB f p (isortA lt acc l) = mayB f p acc + mayB f p l
  | [], acc => by simp [isortA, mayB]
  | x :: l, acc => by simp only [isortA, mayB_isort f p l, mayB_ins, mayB]; omega
theorem mayB_ord (f p : Int) (long : Bool) (l : List BidV) : mayB f p (bidOrder long l) = mayB f p l := by simp [bidOrder, isort, mayB_isort, mayB]
theorem sumQ_ins {lt : BidV → BidV → Bool} (x : BidV) : ∀ l : List BidV, sumQ (insX lt x l) = sumQ (x :: l)
  | [] => rfl
  | y :: l => by
    simp only [insX]
    cases lt x y with
    | true => rfl
    | false => simp only [cond_false, sumQ, sumQ_ins x l]; omega
theorem sumQ_isort {lt : BidV → BidV → Bool} : ∀ l acc : List BidV, sumQ (isortA lt acc l) = sumQ acc + sumQ l
  | [], acc => by simp [isortA, sumQ]
  | x :: l, acc => by simp only [isortA, sumQ_isort l, sumQ_ins, sumQ]; omega
theorem sumQ_ord (long : Bool) (l : List BidV) : sumQ (bidOrder long l) = sumQ l := by simp [bidOrder, isort, sumQ_isort, sumQ]
theorem ok_qty {b : BidV} (h : bidOk b = true) : 1 ≤ b.qty ∧ b.qty ≤ 1048576 := by
  simp only [bidOk, inR, Bool.and_eq_true, decide_eq_true_eq] at h; omega
theorem sumQ_bnd : ∀ {l : List BidV}, l.all bidOk = true → (l.length : Int) ≤ sumQ l ∧ sumQ l ≤ 1048576 * l.length
  | [], _ => by simp [sumQ]
  | b :: l, h => by
    simp only [List.all_cons, Bool.and_eq_true] at h
    have ih := sumQ_bnd h.2
    have hb := ok_qty h.1
    simp only [sumQ, List.length_cons]
    omega
/- What one bid gives. -/
theorem fill_step {r : Int} {b : BidV} (hr : 0 ≤ r) (hb : bidOk b = true) : (r = 0 ∧ mn2 r b.qty = 0) ∨ (0 < r ∧ r < b.qty ∧ mn2 r b.qty = r) ∨ (b.qty ≤ r ∧ mn2 r b.qty = b.qty) := by
  have h := ok_qty hb
  by_cases h0 : r = 0
  · left; refine ⟨h0, ?_⟩; simp only [mn2]; split <;> omega
  · by_cases h1 : r < b.qty
    · right; left; refine ⟨by omega, h1, ?_⟩; simp only [mn2]; split <;> omega
    · right; right; refine ⟨by omega, ?_⟩; simp only [mn2]; split <;> omega
theorem fills_mem : ∀ {O : List BidV} {r : Int}, 0 ≤ r → O.all bidOk = true → ∀ x ∈ fillsF r O, (1 ≤ x.qty ∧ x.qty ≤ 1048576) ∧ ∃ b ∈ O, b.frm = x.frm ∧ b.price = x.price
  | [], _, _, _, x, hx => by cases hx
  | b :: O, r, hr, hO, x, hx => by
    simp only [List.all_cons, Bool.and_eq_true] at hO
    have hq := ok_qty hO.1
    have hs := fill_step hr hO.1
    simp only [fillsF, List.mem_append] at hx
    rcases hx with hx | hx
    · cases hc : decide (mn2 r b.qty > 0) with
      | false => rw [hc] at hx; cases hx
      | true =>
        rw [hc] at hx
        have := of_decide_eq_true hc
        simp at hx
        subst hx
        refine ⟨?_, b, by simp, rfl, rfl⟩
        simp only; omega
    · obtain ⟨h1, z, hz, e⟩ := fills_mem (by omega) hO.2 x hx
      exact ⟨h1, z, List.mem_cons_of_mem _ hz, e⟩
theorem fills_sum : ∀ {O : List BidV} {r : Int}, 0 ≤ r → O.all bidOk = true → sumFl (fillsF r O) + restF r O = r ∧ sumFl (fillsF r O) = mn2 r (sumQ O) ∧ 0 ≤ restF r O
  | [], r, hr, _ => by
    simp only [fillsF, restF, sumFl, sumQ]
    refine ⟨by omega, ?_, hr⟩
    simp only [mn2]; split <;> omega
  | b :: O, r, hr, hO => by
    simp only [List.all_cons, Bool.and_eq_true] at hO
    have hq := ok_qty hO.1
    have hs := fill_step hr hO.1
    have hb := sumQ_bnd hO.2
    have ih := fills_sum (O := O) (r := r - mn2 r b.qty) (by omega) hO.2
    have e : sumFl (fillsF r (b :: O)) = mn2 r b.qty + sumFl (fillsF (r - mn2 r b.qty) O) := by
      simp only [fillsF]
      cases hc : decide (mn2 r b.qty > 0) with
      | true => simp only [cond_true, List.cons_append, List.nil_append, sumFl]
      | false =>
        have := of_decide_eq_false hc
        simp only [cond_false, List.nil_append]; omega
    rw [e]
    simp only [restF, sumQ]
    refine ⟨by omega, ?_, ih.2.2⟩
    rw [ih.2.1]
    have : ∀ s t : Int, mn2 s t = if t < s then t else s := fun _ _ => rfl
    rw [this (r - mn2 r b.qty), this r (b.qty + sumQ O)]
    split <;> split <;> omega
theorem got_le : ∀ {O : List BidV} {r : Int} (f p : Int), 0 ≤ r → O.all bidOk = true → 0 ≤ gotF f p (fillsF r O) ∧ gotF f p (fillsF r O) ≤ mayB f p O
  | [], _, _, _, _, _ => by simp [fillsF, gotF, mayB]
  | b :: O, r, f, p, hr, hO => by
    simp only [List.all_cons, Bool.and_eq_true] at hO
    have hq := ok_qty hO.1
    have hs := fill_step hr hO.1
    have ih := got_le (O := O) (r := r - mn2 r b.qty) f p (by omega) hO.2
    simp only [fillsF, mayB]
    cases hc : decide (mn2 r b.qty > 0) with
    | true =>
      simp only [cond_true, List.cons_append, List.nil_append, gotF]
      cases (b.frm == f && b.price == p) <;> simp <;> omega
    | false =>
      simp only [cond_false, List.nil_append]
      cases (b.frm == f && b.price == p) <;> simp <;> omega
/- Prices of an order. -/
def prLe (long : Bool) (p q : Int) : Prop := (long = true → q ≤ p) ∧ (long = false → p ≤ q)
theorem ord_price {long : Bool} {a b : BidV} (h : bidLt long b a = false) : prLe long a.price b.price := by
  have h : ¬ bidAhead long b a := fun h2 => by rw [bidLt_iff.2 h2] at h; cases h
  simp only [bidAhead] at h
  refine ⟨fun e => ?_, fun e => ?_⟩ <;> subst e <;> simp at h <;> omega
theorem fills_asc {long : Bool} : ∀ {O : List BidV} {r : Int}, 0 ≤ r → O.all bidOk = true → Srt (bidLt long) O → (fillsF r O).Pairwise (fun a b => prLe long a.price b.price)
  | [], _, _, _, _ => by simp [fillsF]
  | b :: O, r, hr, hO, hs => by
    have hO' := hO
    simp only [List.all_cons, Bool.and_eq_true] at hO
    have hf := fill_step hr hO.1
    have hq := ok_qty hO.1
    have hs' := List.pairwise_cons.1 hs
    have ih := fills_asc (O := O) (r := r - mn2 r b.qty) (by omega) hO.2 hs'.2
    simp only [fillsF]
    refine List.pairwise_append.2 ⟨?_, ih, fun x hx y hy => ?_⟩
    · cases decide (mn2 r b.qty > 0) <;> simp
    · obtain ⟨_, z, hz, _, e⟩ := fills_mem (by omega) hO.2 y hy
      have hxp : x.price = b.price := by
        cases hc : decide (mn2 r b.qty > 0) with
        | true => rw [hc] at hx; simp at hx; rw [hx]
        | false => rw [hc] at hx; cases hx
      rw [hxp, ← e]
      exact ord_price (hs'.1 z hz)
theorem may_none {f p : Int} : ∀ {O : List BidV}, (∀ b ∈ O, b.price ≠ p) → mayB f p O = 0
  | [], _ => rfl
  | b :: O, h => by
    have := h b (by simp)
    simp only [mayB, show (b.price == p) = false by simpa using this, Bool.and_false, cond_false, may_none (fun z hz => h z (List.mem_cons_of_mem _ hz))]
    rfl
/- Who is followed by one at another price has all that he bid for. -/
theorem got_all {long : Bool} : ∀ {O : List BidV} {r : Int}, 0 ≤ r → O.all bidOk = true → Srt (bidLt long) O → ∀ {pre : List FillV} {x y : FillV} {post : List FillV}, fillsF r O = pre ++ x :: y :: post → x.price ≠ y.price → gotF x.frm x.price (fillsF r O) = mayB x.frm x.price O
  | [], _, _, _, _, pre, x, y, post, h, _ => by simp [fillsF] at h
  | b :: O, r, hr, hO, hs, pre, x, y, post, h, hne => by
    have hO' := hO
    simp only [List.all_cons, Bool.and_eq_true] at hO
    have hf := fill_step hr hO.1
    have hq := ok_qty hO.1
    have hs' := List.pairwise_cons.1 hs
    rcases hf with ⟨rfl, hm⟩ | ⟨h0, h1, hm⟩ | ⟨h1, hm⟩
    · have := (fills_zero hO').1
      rw [this] at h; simp at h
    · have hz := (fills_zero hO.2).1
      simp only [fillsF, hm, show decide (r > 0) = true from decide_eq_true h0, cond_true, show r - r = 0 by omega, hz, List.append_nil] at h
      have := congrArg List.length h
      simp at this; omega
    · have hE : fillsF r (b :: O) = ⟨b.frm, b.qty, b.price⟩ :: fillsF (r - b.qty) O := by
        simp only [fillsF, hm, show decide (b.qty > 0) = true from decide_eq_true (by omega), cond_true, List.cons_append, List.nil_append]
      have hr' : 0 ≤ r - b.qty := by omega
      rw [hE] at h ⊢
      cases pre with
      | nil =>
        simp only [List.nil_append, List.cons.injEq] at h
        obtain ⟨hx, hy⟩ := h
        obtain ⟨_, z, hz, _, ez⟩ := fills_mem hr' hO.2 y (by rw [hy]; simp)
        have hbp : b.price = x.price := by rw [← hx]
        cases O with
        | nil => cases hz
        | cons c O2 =>
          have hcs := List.pairwise_cons.1 hs'.2
          have hcb := ord_price (hs'.1 c (by simp))
          have hcy : c.price = y.price := by
            have hOc := hO.2
            simp only [List.all_cons, Bool.and_eq_true] at hOc
            have hfc := fill_step hr' hOc.1
            have hqc := ok_qty hOc.1
            have hfy : fillsF (r - b.qty) (c :: O2) = y :: post := hy
            simp only [fillsF] at hfy
            cases hd : decide (mn2 (r - b.qty) c.qty > 0) with
            | true => rw [hd] at hfy; simp at hfy; rw [← hfy.1]
            | false =>
              have hd := of_decide_eq_false hd
              have h00 : r - b.qty = 0 := by omega
              rw [h00, (fills_zero hO.2).1] at hy
              cases hy
          have hnp : ∀ z ∈ c :: O2, z.price ≠ x.price := by
            intro z hz
            have h1 : prLe long c.price z.price := by
              rcases List.mem_cons.1 hz with rfl | hz
              · exact ⟨fun _ => Int.le_refl _, fun _ => Int.le_refl _⟩
              · exact ord_price (hcs.1 z hz)
            have h2 : c.price ≠ b.price := by rw [hcy, hbp]; exact fun e => hne e.symm
            cases long with
            | true => have a1 := h1.1 rfl; have a2 := hcb.1 rfl; omega
            | false => have a1 := h1.2 rfl; have a2 := hcb.2 rfl; omega
          have g0 := got_le (O := c :: O2) (r := r - b.qty) x.frm x.price hr' hO.2
          have m0 := may_none (f := x.frm) hnp
          have e1 : x.frm = b.frm := by rw [← hx]
          have e2 : x.qty = b.qty := by rw [← hx]
          simp only [gotF, mayB] at g0 m0 ⊢
          omega
      | cons w pre =>
        simp only [List.cons_append, List.cons.injEq] at h
        have ih := got_all hr' hO.2 hs'.2 h.2 hne
        simp only [gotF, mayB, ih]
theorem sumFl_bnd : ∀ {l : List FillV}, (∀ z ∈ l, 1 ≤ z.qty ∧ z.qty ≤ 1048576) → 0 ≤ sumFl l ∧ sumFl l ≤ 1048576 * l.length
  | [], _ => by simp [sumFl]
  | b :: l, h => by
    have ih := sumFl_bnd (l := l) (fun z hz => h z (List.mem_cons_of_mem _ hz))
    have hb := h b (by simp)
    simp only [sumFl, List.length_cons]
    omega
theorem gotF_bnd (f p : Int) : ∀ {l : List FillV}, (∀ z ∈ l, 1 ≤ z.qty ∧ z.qty ≤ 1048576) → 0 ≤ gotF f p l ∧ gotF f p l ≤ 1048576 * l.length
  | [], _ => by simp [gotF]
  | b :: l, h => by
    have ih := gotF_bnd f p (l := l) (fun z hz => h z (List.mem_cons_of_mem _ hz))
    have hb := h b (by simp)
    simp only [gotF, List.length_cons]
    cases (b.frm == f && b.price == p) <;> simp only [cond_true, cond_false] <;> omega
theorem mayB_bnd (f p : Int) : ∀ {l : List BidV}, l.all bidOk = true → 0 ≤ mayB f p l ∧ mayB f p l ≤ 1048576 * l.length
  | [], _ => by simp [mayB]
  | b :: l, h => by
    simp only [List.all_cons, Bool.and_eq_true] at h
    have ih := mayB_bnd f p (l := l) h.2
    have hb := ok_qty h.1
    simp only [mayB, List.length_cons]
    cases (b.frm == f && b.price == p) <;> simp only [cond_true, cond_false] <;> omega
structure FairF (q : Int) (l : List BidV) (F : List FillV) (R : Int) : Prop where
  good : l.all bidOk = true
  mem : ∀ x ∈ F, 1 ≤ x.qty ∧ x.qty ≤ 1048576
  asc : ∀ (pre : List FillV) (x y : FillV) (post : List FillV), F = pre ++ x :: y :: post → ¬ (q > 0 ∧ y.price > x.price) ∧ ¬ (q < 0 ∧ y.price < x.price)
  sum : sumFl F + R = absQ q ∧ sumFl F = mn2 (absQ q) (sumQ l) ∧ 0 ≤ R
  got : ∀ x : FillV, gotF x.frm x.price F ≤ mayB x.frm x.price l
  all : ∀ (pre : List FillV) (x y : FillV) (post : List FillV), F = pre ++ x :: y :: post → y.price ≠ x.price → gotF x.frm x.price F = mayB x.frm x.price l
  len : F.length ≤ l.length
  rng : -1099511627776 ≤ q ∧ q ≤ 1099511627776
theorem fair_law {q : Int} {l : List BidV} (h : filE q l = 0) : FairF q l (filV q l) (filR q l) := by
  have hb : fillBad q l = false := by
    simp only [filE] at h
    cases hc : fillBad q l with
    | false => rfl
    | true => rw [hc] at h; cases h
  have hg : inR q (-1099511627776) 1099511627776 = true ∧ l.all bidOk = true := by
    simp only [fillBad] at hb
    cases h1 : inR q (-1099511627776) 1099511627776 <;> cases h2 : l.all bidOk <;> simp [h1, h2] at hb ⊢
  have hO := bidOrder_all (long := decide (q > 0)) hg.2
  have hS : Srt (bidLt (decide (q > 0))) (bidOrder (decide (q > 0)) l) := Srt_isort (bidLt_swo _) l
  have ha : 0 ≤ absQ q := by simp only [absQ]; split <;> omega
  have eV : filV q l = fillsF (absQ q) (bidOrder (decide (q > 0)) l) := by simp only [filV, hb, cond_false]
  have eR : filR q l = restF (absQ q) (bidOrder (decide (q > 0)) l) := by simp only [filR, hb, cond_false]
  rw [eV, eR]
  have hs := fills_sum ha hO
  rw [sumQ_ord] at hs
  refine ⟨hg.2, fun x hx => (fills_mem ha hO x hx).1, fun pre x y post hp => ?_, hs, fun x => ?_, fun pre x y post hp hne => ?_, ?_, ?_⟩
  · have hA := fills_asc ha hO hS
    rw [hp] at hA
    have h1 := (List.pairwise_cons.1 (List.pairwise_append.1 hA).2.1).1 y (by simp)
    by_cases hq : q > 0
    · have := h1.1 (decide_eq_true hq); omega
    · have := h1.2 (decide_eq_false hq); omega
  · have := (got_le x.frm x.price ha hO).2
    rw [mayB_ord] at this; exact this
  · have := got_all ha hO hS hp (fun e => hne e.symm)
    rw [mayB_ord] at this; exact this
  · exact Nat.le_trans (fillsF_len _ _) (by rw [bidOrder_len]; exact Nat.le_refl _)
  · have := hg.1; simp only [inR, Bool.and_eq_true, decide_eq_true_eq] at this; omega
end Go.Proofs.Ytopifbpibkpmmaa
