/- Books: what is entered, cancelled, corrected. In plain Lean. No condition. -/
import Derived.Test.YtopifbpibkpmmaaSpecKB
namespace Go.Proofs.Ytopifbpibkpmmaa
open Go.RowKit
set_option linter.unusedVariables false
set_option linter.unusedSimpArgs false
def idxF {α : Type} (f : α → Bool) (l : List α) : Int := if l.any f then ((l.takeWhile fun x => !f x).length : Nat) else -1
theorem idxF_no {α : Type} {f : α → Bool} {l : List α} (h : l.any f = false) : idxF f l = -1 := by simp only [idxF, h]; rfl
theorem idxF_hit {α : Type} {f : α → Bool} {pre post : List α} {x : α} (h : pre.any f = false) (hx : f x = true) : idxF f (pre ++ x :: post) = pre.length := by
 have e : (pre ++ x :: post).takeWhile (fun y => !f y) = pre := by
  induction pre with
  | nil => simp [List.takeWhile, hx]
  | cons y pre ih =>
   simp only [List.any_cons, Bool.or_eq_false_iff] at h
   simp [List.takeWhile, h.1, ih h.2]
 simp only [idxF, e]
 rw [show (pre ++ x :: post).any f = true by simp [hx]]
 rfl
theorem any_split {α : Type} {f : α → Bool} : ∀ {l : List α}, l.any f = true → ∃ pre x post, l = pre ++ x :: post ∧ pre.any f = false ∧ f x = true
 | [], h => by cases h
 | y :: l, h => by
  cases hy : f y with
  | true => exact ⟨[], y, l, rfl, rfl, hy⟩
  | false =>
   simp only [List.any_cons, hy, Bool.false_or] at h
   obtain ⟨pre, x, post, rfl, h1, h2⟩ := any_split h
   exact ⟨y :: pre, x, post, rfl, by simp [hy, h1], h2⟩
def zTr : TradeV := ⟨0, 0, 0, 0, 0, 0, false⟩
def firstT (f : TradeV → Bool) : List TradeV → TradeV
 | [] => zTr
 | t :: l => bif f t then t else firstT f l
theorem firstT_hit {f : TradeV → Bool} {pre post : List TradeV} {x : TradeV} (h : pre.any f = false) (hx : f x = true) : firstT f (pre ++ x :: post) = x := by
 induction pre with
 | nil => simp [firstT, hx]
 | cons y pre ih =>
  simp only [List.any_cons, Bool.or_eq_false_iff] at h
  simp only [List.cons_append, firstT, h.1, cond_false]
  exact ih h.2
def hit (no : Int) (t : TradeV) : Bool := t.no == no && !t.gone
def noIs (no : Int) (t : TradeV) : Bool := t.no == no
def offTr (t : TradeV) : TradeV := { t with gone := true }
def markOff (no : Int) : List TradeV → List TradeV
 | [] => []
 | t :: l => bif hit no t then offTr t :: l else t :: markOff no l
theorem markOff_hit {no : Int} {pre post : List TradeV} {x : TradeV} (h : pre.any (hit no) = false) (hx : hit no x = true) : markOff no (pre ++ x :: post) = pre ++ offTr x :: post := by
 induction pre with
 | nil => simp [markOff, hx]
 | cons y pre ih =>
  simp only [List.any_cons, Bool.or_eq_false_iff] at h
  simp only [List.cons_append, markOff, h.1, cond_false]
  rw [ih h.2]
theorem markOff_len (no : Int) : ∀ l : List TradeV, (markOff no l).length = l.length
 | [] => rfl
 | t :: l => by simp only [markOff]; cases hit no t <;> simp [markOff_len no l]
def setNo (t : TradeV) (n : Int) : TradeV := { t with no := n, gone := false }
def enterE (b : BookV) (t : TradeV) : Int :=
 bif !bookOk b then 14 else bif !rtOk t then 3 else bif decide ((b.trades.length : Int) ≥ 128) then 9 else bif decide (b.next ≥ 1099511627776) then 1 else addE b (legs t)
def enterV (b : BookV) (t : TradeV) : BookV := bif enterE b t == 0 then ⟨b.next + 1, b.trades ++ [setNo t (b.next + 1)], (addV b (legs t)).poss⟩ else ⟨0, [], []⟩
def enterN (b : BookV) (t : TradeV) : Int := bif enterE b t == 0 then b.next + 1 else 0
def cancelE (b : BookV) (no : Int) : Int := bif !bookOk b then 14 else bif !(b.trades.any (hit no)) then 10 else addE b (undo (firstT (hit no) b.trades))
def cancelV (b : BookV) (no : Int) : BookV := bif cancelE b no == 0 then ⟨b.next, markOff no b.trades, (addV b (undo (firstT (hit no) b.trades))).poss⟩ else ⟨0, [], []⟩
def chg (t : TradeV) (q p : Int) : TradeV := { t with qty := q, price := p }
def correctT (b : BookV) (no q p : Int) : TradeV := chg (firstT (noIs no) (cancelV b no).trades) q p
def correctE (b : BookV) (no q p : Int) : Int := bif cancelE b no != 0 then cancelE b no else enterE (cancelV b no) (correctT b no q p)
def correctV (b : BookV) (no q p : Int) : BookV := bif cancelE b no != 0 then ⟨0, [], []⟩ else enterV (cancelV b no) (correctT b no q p)
def correctN (b : BookV) (no q p : Int) : Int := bif cancelE b no != 0 then 0 else enterN (cancelV b no) (correctT b no q p)
def clearB (b : BookV) : BookV := ⟨b.next, [], b.poss⟩
theorem rt_tr {t : TradeV} (h : rtOk t = true) : tradeOk t = true ∧ t.buyer ≠ t.seller ∧ keyOk t.buyer t.inst = true ∧ keyOk t.seller t.inst = true := by
 simp only [rtOk, Bool.and_eq_true] at h
 refine ⟨?_, by simpa using h.1.1.2, h.1.2, h.2⟩
 simp only [tradeOk, Bool.and_eq_true]
 exact ⟨⟨⟨h.1.1.1.1.1.1, h.1.1.1.1.1.2⟩, h.1.1.1.1.2⟩, h.1.1.1.2⟩
theorem legs_eq {t : TradeV} (h : rtOk t = true) : legs t = [⟨t.buyer, t.inst, t.qty, t.qty * t.price⟩, ⟨t.seller, t.inst, -t.qty, -(t.qty * t.price)⟩] := by
 have ht := (rt_tr h).1
 have e1 := legA_cost ht
 have e2 := legB_qty ht
 have e3 := legB_cost ht
 simp only [legs, ht, cond_true]
 have a : legA t = ⟨t.buyer, t.inst, t.qty, t.qty * t.price⟩ := by rw [← e1]; rfl
 have b : legB t = ⟨t.seller, t.inst, -t.qty, -(t.qty * t.price)⟩ := by rw [← e3, ← e2]; rfl
 rw [a, b]
theorem rt_bnd {t : TradeV} (h : rtOk t = true) : (1 ≤ t.qty ∧ t.qty ≤ 1048576) ∧ 1 ≤ t.qty * t.price ∧ t.qty * t.price ≤ 1125899906842624 := by
 have := tradeOk_bound (rt_tr h).1
 exact ⟨⟨this.1, this.2.1⟩, this.2.2.2.2.1, this.2.2.2.2.2⟩
theorem undo_eq {t : TradeV} (h : rtOk t = true) : undo t = [⟨t.buyer, t.inst, -t.qty, -(t.qty * t.price)⟩, ⟨t.seller, t.inst, t.qty, t.qty * t.price⟩] := by
 have hb := rt_bnd h
 rw [undo, legs_eq h]
 simp only [List.map_cons, List.map_nil, unLeg]
 rw [wrapI (by omega) (by omega), wrapI (by omega) (by omega), wrapI (by omega) (by omega), wrapI (by omega) (by omega)]
 simp
theorem legs_rt {t : TradeV} (h : rtOk t = true) : RtL (legs t) ∧ RtL (undo t) := by
 have hk := rt_tr h
 have hb := rt_bnd h
 rw [legs_eq h, undo_eq h]
 constructor <;> (intro p hp; simp at hp; rcases hp with rfl | rfl) <;> refine ⟨?_, ?_, ?_⟩ <;> first | exact hk.2.2.1 | exact hk.2.2.2 | exact rightN_iff.2 (by simp only; omega)
theorem legs_lev {t : TradeV} (h : rtOk t = true) (n : Int) : lF PosV.qty n (legs t) = 0 ∧ lF PosV.cost n (legs t) = 0 ∧ lF PosV.qty n (undo t) = 0 ∧ lF PosV.cost n (undo t) = 0 := by
 rw [legs_eq h, undo_eq h]
 simp only [lF]
 cases (t.inst == n) <;> simp <;> omega
theorem undo_sum {t : TradeV} (h : rtOk t = true) (w n : Int) : sF PosV.qty w n (undo t) = - sF PosV.qty w n (legs t) ∧ sF PosV.cost w n (undo t) = - sF PosV.cost w n (legs t) := by
 rw [legs_eq h, undo_eq h]
 simp only [sF, kSame]
 cases (t.buyer == w && t.inst == n) <;> cases (t.seller == w && t.inst == n) <;> simp <;> omega
theorem legs_sum {t : TradeV} (h : rtOk t = true) (w n : Int) : (-1048576 ≤ sF PosV.qty w n (legs t) ∧ sF PosV.qty w n (legs t) ≤ 1048576) ∧ -1125899906842624 ≤ sF PosV.cost w n (legs t) ∧ sF PosV.cost w n (legs t) ≤ 1125899906842624 := by
 have hb := rt_bnd h
 have hk := rt_tr h
 rw [legs_eq h]
 simp only [sF, kSame]
 cases h1 : (t.buyer == w && t.inst == n) <;> cases h2 : (t.seller == w && t.inst == n) <;> simp <;> omega
theorem enter_ok {b : BookV} {t : TradeV} : enterE b t = 0 ↔ (GoodB b ∧ rtOk t = true ∧ b.trades.length < 128 ∧ b.next < 1099511627776 ∧ ∀ k ∈ allK, jFit (b.poss ++ legs t) k) := by
 rw [← bookOk_iff]
 simp only [enterE]
 cases h1 : bookOk b with
 | false => simp
 | true =>
  cases h2 : rtOk t with
  | false => simp
  | true =>
   by_cases h3 : (b.trades.length : Int) ≥ 128
   ·simp [h3]; omega
   ·by_cases h4 : b.next ≥ 1099511627776
    ·simp [h3, h4]; omega
    ·simp only [Bool.not_true, cond_false, decide_eq_false h3, decide_eq_false h4, true_and]
     rw [add_ok]
     have hG := (bookOk_iff b).1 h1
     constructor
     ·rintro ⟨_, _, _, h⟩; exact ⟨by omega, by omega, h⟩
     ·rintro ⟨_, _, h⟩; exact ⟨hG, (legs_rt h2).1, fun n _ _ => (legs_lev h2 n).1, h⟩
theorem enter_add {b : BookV} {t : TradeV} (h : enterE b t = 0) : addE b (legs t) = 0 := by
 obtain ⟨h1, h2, h3, h4, h5⟩ := enter_ok.1 h
 exact add_ok.2 ⟨h1, (legs_rt h2).1, fun n _ _ => (legs_lev h2 n).1, h5⟩
theorem enter_val {b : BookV} {t : TradeV} (h : enterE b t = 0) : enterV b t = ⟨b.next + 1, b.trades ++ [setNo t (b.next + 1)], (addV b (legs t)).poss⟩ ∧ enterN b t = b.next + 1 := by simp only [enterV, enterN, h]; exact ⟨rfl, rfl⟩
theorem enter_no {b : BookV} {t : TradeV} (h : enterE b t ≠ 0) : enterV b t = ⟨0, [], []⟩ ∧ enterN b t = 0 := by
 simp only [enterV, enterN, show (enterE b t == 0) = false by simpa using h]; exact ⟨rfl, rfl⟩
theorem enter_good {b : BookV} {t : TradeV} (h : enterE b t = 0) : GoodB (enterV b t) := by
 obtain ⟨h1, h2, h3, h4, h5⟩ := enter_ok.1 h
 have hA := add_good (enter_add h)
 rw [(enter_val h).1]
 have := h1.nx0
 refine ⟨by simp only; omega, by simp only; omega, by simp; omega, fun s hs => ?_, ?_, hA.ok, hA.asc, hA.lev⟩
 ·simp only at hs ⊢
  rcases List.mem_append.1 hs with hs | hs
  ·have := h1.tr s hs; exact ⟨this.1, this.2.1, by omega⟩
  ·obtain rfl := List.mem_singleton.1 hs
   exact ⟨h2, by simp only [setNo]; omega, by simp [setNo]⟩
 ·simp only
  refine List.pairwise_append.2 ⟨h1.tasc, by simp, fun s hs u hu => ?_⟩
  obtain rfl := List.mem_singleton.1 hu
  have := h1.tr s hs
  simp only [setNo]; omega
theorem enter_sum {b : BookV} {t : TradeV} (h : enterE b t = 0) {w n : Int} (hk : keyOk w n = true) : sF PosV.qty w n (enterV b t).poss = sF PosV.qty w n b.poss + sF PosV.qty w n (legs t) ∧ sF PosV.cost w n (enterV b t).poss = sF PosV.cost w n b.poss + sF PosV.cost w n (legs t) := by
 rw [(enter_val h).1]; exact add_sum (enter_add h) hk
theorem enter_lev {b : BookV} {t : TradeV} (h : enterE b t = 0) (n : Int) : lF PosV.cost n (enterV b t).poss = lF PosV.cost n b.poss := by
 rw [(enter_val h).1]; simp only
 rw [add_lev (enter_add h), (legs_lev (enter_ok.1 h).2.1 n).2.1]; omega
theorem cancel_ok {b : BookV} {no : Int} : cancelE b no = 0 ↔ (GoodB b ∧ b.trades.any (hit no) = true ∧ addE b (undo (firstT (hit no) b.trades)) = 0) := by
 rw [← bookOk_iff]
 simp only [cancelE]
 cases h1 : bookOk b with
 | false => simp
 | true => cases h2 : b.trades.any (hit no) <;> simp
theorem cancel_val {b : BookV} {no : Int} (h : cancelE b no = 0) : cancelV b no = ⟨b.next, markOff no b.trades, (addV b (undo (firstT (hit no) b.trades))).poss⟩ := by simp only [cancelV, h]; rfl
theorem cancel_no {b : BookV} {no : Int} (h : cancelE b no ≠ 0) : cancelV b no = ⟨0, [], []⟩ := by simp only [cancelV, show (cancelE b no == 0) = false by simpa using h]; rfl
theorem cancel_split {b : BookV} {no : Int} (h : cancelE b no = 0) : ∃ pre t post, b.trades = pre ++ t :: post ∧ pre.any (hit no) = false ∧ hit no t = true ∧ rtOk t = true ∧ firstT (hit no) b.trades = t ∧ markOff no b.trades = pre ++ offTr t :: post := by
 obtain ⟨hG, h2, _⟩ := cancel_ok.1 h
 obtain ⟨pre, t, post, e, h3, h4⟩ := any_split h2
 refine ⟨pre, t, post, e, h3, h4, (hG.tr t (by rw [e]; simp)).1, ?_, ?_⟩
 ·rw [e]; exact firstT_hit h3 h4
 ·rw [e]; exact markOff_hit h3 h4
theorem cancel_good {b : BookV} {no : Int} (h : cancelE b no = 0) : GoodB (cancelV b no) := by
 obtain ⟨hG, h2, hA⟩ := cancel_ok.1 h
 obtain ⟨pre, t, post, e, h3, h4, hr, e1, e2⟩ := cancel_split h
 have hA' := add_good hA
 rw [cancel_val h, e2]
 have htr := hG.tr
 have hta := hG.tasc
 rw [e] at htr hta
 refine ⟨hG.nx0, hG.nx1, ?_, fun s hs => ?_, ?_, hA'.ok, hA'.asc, hA'.lev⟩
 ·have := hG.len; rw [e] at this; simpa using this
 ·simp only at hs ⊢
  rcases List.mem_append.1 hs with hs | hs
  ·exact htr s (by simp [hs])
  ·rcases List.mem_cons.1 hs with rfl | hs
   ·exact htr t (by simp)
   ·exact htr s (by simp [hs])
 ·simp only
  have h1 := List.pairwise_append.1 hta
  have h2 := List.pairwise_cons.1 h1.2.1
  refine List.pairwise_append.2 ⟨h1.1, List.pairwise_cons.2 ⟨fun s hs => h2.1 s hs, h2.2⟩, fun s hs u hu => ?_⟩
  rcases List.mem_cons.1 hu with rfl | hu
  ·exact h1.2.2 s hs t (by simp)
  ·exact h1.2.2 s hs u (by simp [hu])
theorem cancel_sum {b : BookV} {no : Int} (h : cancelE b no = 0) {w n : Int} (hk : keyOk w n = true) : sF PosV.qty w n (cancelV b no).poss = sF PosV.qty w n b.poss - sF PosV.qty w n (legs (firstT (hit no) b.trades)) ∧ sF PosV.cost w n (cancelV b no).poss = sF PosV.cost w n b.poss - sF PosV.cost w n (legs (firstT (hit no) b.trades)) := by
 obtain ⟨hG, h2, hA⟩ := cancel_ok.1 h
 obtain ⟨pre, t, post, e, h3, h4, hr, e1, e2⟩ := cancel_split h
 rw [cancel_val h]; simp only
 have := add_sum hA hk
 rw [this.1, this.2, e1, (undo_sum hr w n).1, (undo_sum hr w n).2]
 constructor <;> omega
theorem cancel_lev {b : BookV} {no : Int} (h : cancelE b no = 0) (n : Int) : lF PosV.cost n (cancelV b no).poss = lF PosV.cost n b.poss := by
 obtain ⟨hG, h2, hA⟩ := cancel_ok.1 h
 obtain ⟨pre, t, post, e, h3, h4, hr, e1, e2⟩ := cancel_split h
 rw [cancel_val h]; simp only
 rw [add_lev hA, e1, (legs_lev hr n).2.2.2]; omega
theorem correct_ok {b : BookV} {no q p : Int} : correctE b no q p = 0 ↔ (cancelE b no = 0 ∧ enterE (cancelV b no) (correctT b no q p) = 0) := by
 simp only [correctE]
 by_cases h : cancelE b no = 0
 ·simp [h]
 ·simp [h, show (cancelE b no != 0) = true by simpa using h]
theorem correct_val {b : BookV} {no q p : Int} (h : cancelE b no = 0) : correctE b no q p = enterE (cancelV b no) (correctT b no q p) ∧ correctV b no q p = enterV (cancelV b no) (correctT b no q p) ∧ correctN b no q p = enterN (cancelV b no) (correctT b no q p) := by
 simp only [correctE, correctV, correctN, h]; exact ⟨rfl, rfl, rfl⟩
theorem correct_no {b : BookV} {no q p : Int} (h : cancelE b no ≠ 0) : correctE b no q p = cancelE b no ∧ correctV b no q p = ⟨0, [], []⟩ ∧ correctN b no q p = 0 := by
 have e : (cancelE b no != 0) = true := by simpa using h
 simp only [correctE, correctV, correctN, e]; exact ⟨rfl, rfl, rfl⟩
structure ActV where
 act : Int
 no : Int
 qty : Int
 price : Int
 t : TradeV
def actC (a : ActV) : List D := [iv a.act, iv a.no, iv a.qty, iv a.price, iv a.t.no, iv a.t.buyer, iv a.t.seller, iv a.t.inst, iv a.t.qty, iv a.t.price, .v (.bool a.t.gone)]
def acts (l : List ActV) : D := .sl 11 (l.map actC)
def doK (a : ActV) : Int := (IntKind.wrap .u64 a.act).tmod 6
def doE (b : BookV) (a : ActV) : Int := bif doK a == 3 then cancelE b a.no else bif doK a == 4 then correctE b a.no a.qty a.price else bif doK a == 5 then 0 else enterE b a.t
def doV (b : BookV) (a : ActV) : BookV := bif doK a == 3 then cancelV b a.no else bif doK a == 4 then correctV b a.no a.qty a.price else bif doK a == 5 then clearB b else enterV b a.t
def grow1B (b : BookV) (a : ActV) : BookV := bif doE b a == 0 then doV b a else b
def growB (l : List ActV) : BookV := l.foldl grow1B ⟨0, [], []⟩
def grownB (l : List ActV) : BookV := growB (l.take 100)
theorem growB_snoc (l : List ActV) (a : ActV) : growB (l ++ [a]) = grow1B (growB l) a := by simp [growB]
structure InvB (b : BookV) (k : Int) : Prop where
 good : GoodB b
 cost : ∀ n, lF PosV.cost n b.poss = 0
 nx : b.next ≤ k
theorem inv_enter {b : BookV} {k : Int} (h : InvB b k) {t : TradeV} (he : enterE b t = 0) : InvB (enterV b t) (k + 1) :=
 ⟨enter_good he, fun n => by rw [enter_lev he, h.cost], by rw [(enter_val he).1]; have := h.nx; simp only; omega⟩
theorem inv_cancel {b : BookV} {k : Int} (h : InvB b k) {no : Int} (he : cancelE b no = 0) : InvB (cancelV b no) k :=
 ⟨cancel_good he, fun n => by rw [cancel_lev he, h.cost], by rw [cancel_val he]; exact h.nx⟩
theorem inv_up {b : BookV} {k j : Int} (h : InvB b k) (hj : k ≤ j) : InvB b j := ⟨h.good, h.cost, by have := h.nx; omega⟩
theorem inv_do {b : BookV} {k : Int} (h : InvB b k) (a : ActV) : InvB (grow1B b a) (k + 1) := by
 simp only [grow1B]
 cases hc : (doE b a == 0) with
 | false => exact inv_up h (by omega)
 | true =>
  have hc : doE b a = 0 := by simpa using hc
  simp only [cond_true, doE, doV] at hc ⊢
  cases h3 : (doK a == 3) with
  | true => rw [h3] at hc; exact inv_up (inv_cancel h hc) (by omega)
  | false =>
   rw [h3] at hc
   cases h4 : (doK a == 4) with
   | true =>
    rw [h4] at hc
    obtain ⟨e1, e2⟩ := correct_ok.1 hc
    rw [cond_false, cond_true, (correct_val e1).2.1]
    exact inv_enter (inv_cancel h e1) e2
   | false =>
    rw [h4] at hc
    cases h5 : (doK a == 5) with
    | true => exact ⟨⟨h.good.nx0, h.good.nx1, by simp [clearB], (fun t ht => by cases ht), List.Pairwise.nil, h.good.ok, h.good.asc, h.good.lev⟩, h.cost, by have := h.nx; simp only [clearB, cond_true, cond_false]; omega⟩
    | false => rw [h5] at hc; exact inv_enter h hc
theorem inv_grow : ∀ {l : List ActV} {b : BookV} {k : Int}, InvB b k → InvB (l.foldl grow1B b) (k + l.length)
 | [], b, k, h => by simpa using h
 | a :: l, b, k, h => by
  have := inv_grow (l := l) (inv_do h a)
  rw [List.foldl_cons, List.length_cons]
  exact inv_up this (by omega)
theorem inv0 : InvB ⟨0, [], []⟩ 0 := ⟨goodB0, fun n => rfl, by simp⟩
theorem inv_grown (l : List ActV) : InvB (grownB l) 100 := by
 have h := inv_grow (l := l.take 100) inv0
 exact inv_up h (by have := List.length_take_le 100 l; omega)
theorem inv_pre (l : List ActV) : InvB (growB l) l.length := by simpa [growB] using inv_grow (l := l) inv0
theorem inc_len : ∀ {l : List Int} {a b : Int}, l.Pairwise (· < ·) → (∀ x ∈ l, a ≤ x ∧ x < b) → a ≤ b → (l.length : Int) ≤ b - a
 | [], a, b, _, _, h => by simp; omega
 | x :: l, a, b, h, hb, hab => by
  have h' := List.pairwise_cons.1 h
  have hx := hb x (by simp)
  have := inc_len (l := l) (a := x + 1) (b := b) h'.2 (fun y hy => ⟨by have := h'.1 y hy; omega, (hb y (List.mem_cons_of_mem _ hy)).2⟩) (by omega)
  simp only [List.length_cons]; omega
theorem grow_len {b : BookV} (h : GoodB b) : b.trades.length ≤ 128 ∧ b.poss.length ≤ 128 := by
 refine ⟨h.len, ?_⟩
 have := inc_len (l := b.poss.map fun p => 8 * (p.who - 1) + (p.inst - 1)) (a := 0) (b := 128) ?_ (fun x hx => ?_) (by omega)
 ·rw [List.length_map] at this; omega
 ·refine List.pairwise_map.2 ?_
  have hk : ∀ p ∈ b.poss, (1 ≤ p.who ∧ p.who ≤ 16) ∧ 1 ≤ p.inst ∧ p.inst ≤ 8 := fun p hp => keyOk_iff.1 (posOk_iff.1 (h.ok p hp)).1
  refine List.Pairwise.imp_of_mem ?_ h.asc
  intro p q hp hq hpq
  have := pLt_iff.1 hpq
  have h1 := hk p hp
  have h2 := hk q hq
  omega
 ·obtain ⟨p, hp, rfl⟩ := List.mem_map.1 hx
  have := keyOk_iff.1 (posOk_iff.1 (h.ok p hp)).1
  omega
theorem take_preA {pre post : List ActV} (h : post = [] ∨ pre.length = 100) (hl : pre.length ≤ 100) : (pre ++ post).take 100 = pre := by
 rcases h with rfl | h
 ·rw [List.append_nil]; exact List.take_of_length_le hl
 ·rw [List.take_append_of_le_length (by omega), List.take_of_length_le (by omega)]
def posA (p : PosV) : AV := .ag [.d (iv p.who), .d (iv p.inst), .d (iv p.qty), .d (iv p.cost)]
def lcc (ps g : List PosV) (c : Nat) : List PosV := if c = 0 then ps else g
def jp (w n : Int) (ps g : List PosV) (c : Nat) : List PosV := if c = 0 then [] else if c = 1 then kF w n ps else kF w n (ps ++ g)
theorem jp_step (w n : Int) (ps g : List PosV) {c : Nat} (h : c < 2) : jp w n ps g (c + 1) = jp w n ps g c ++ kF w n (lcc ps g c) := by
 have : c = 0 ∨ c = 1 := by omega
 rcases this with rfl | rfl <;> simp [jp, lcc, kF]
theorem kF_yes {w n : Int} {x : PosV} (h : kSame w n x = true) (pre : List PosV) : kF w n (pre ++ [x]) = kF w n pre ++ [x] := by simp [kF, h]
theorem kF_no {w n : Int} {x : PosV} (h : kSame w n x = false) (pre : List PosV) : kF w n (pre ++ [x]) = kF w n pre := by simp [kF, h]
theorem kF_len (w n : Int) (l : List PosV) : (kF w n l).length ≤ l.length := List.length_filter_le _ _
theorem lcc_len (ps g : List PosV) (c : Nat) : (lcc ps g c).length ≤ ps.length + g.length := by simp only [lcc]; split <;> omega
theorem jp_len (w n : Int) (ps g : List PosV) (c : Nat) : (jp w n ps g c).length ≤ ps.length + g.length := by
 simp only [jp]
 split
 ·simp
 ·split
  ·have := kF_len w n ps; omega
  ·have := kF_len w n (ps ++ g); rw [List.length_append] at this; exact this
def jErr (l : List PosV) (k : Int × Int) : Int := bif jBad l k then 1 else 0
def jPos (l : List PosV) (k : Int × Int) : PosV := bif jBad l k then ⟨0, 0, 0, 0⟩ else ⟨k.1, k.2, tsQ (kF k.1 k.2 l), tsC (kF k.1 k.2 l)⟩
theorem iF_yes {n : Int} {x : PosV} (h : (x.inst == n) = true) (pre : List PosV) : iF n (pre ++ [x]) = iF n pre ++ [x] := by simp [iF, h]
theorem iF_no {n : Int} {x : PosV} (h : (x.inst == n) = false) (pre : List PosV) : iF n (pre ++ [x]) = iF n pre := by simp [iF, h]
theorem iF_len (n : Int) (l : List PosV) : (iF n l).length ≤ l.length := List.length_filter_le _ _
theorem addE_def (nx : Int) (ts : List TradeV) (ps g : List PosV) : addE ⟨nx, ts, ps⟩ g = bif !bookOk ⟨nx, ts, ps⟩ then 14 else bif g.any badLeg then 3 else bif !levelOk g then 12 else bif allK.any (jBad (ps ++ g)) then 1 else 0 := rfl
theorem enterE_def (nx : Int) (ts : List TradeV) (ps : List PosV) (t : TradeV) : enterE ⟨nx, ts, ps⟩ t = bif !bookOk ⟨nx, ts, ps⟩ then 14 else bif !rtOk t then 3 else bif decide ((ts.length : Int) ≥ 128) then 9 else bif decide (nx ≥ 1099511627776) then 1 else addE ⟨nx, ts, ps⟩ (legs t) := rfl
theorem cancelE_def (nx : Int) (ts : List TradeV) (ps : List PosV) (no : Int) : cancelE ⟨nx, ts, ps⟩ no = bif !bookOk ⟨nx, ts, ps⟩ then 14 else bif !(ts.any (hit no)) then 10 else addE ⟨nx, ts, ps⟩ (undo (firstT (hit no) ts)) := rfl
theorem bookE_ok {b : BookV} (h : bookE b = 0) : bookOk b = true := by
 simp only [bookE] at h
 cases hc : bookOk b with
 | true => rfl
 | false => rw [hc] at h; cases h
theorem bookE_bad {b : BookV} (h : bookE b ≠ 0) : bookOk b = false ∧ bookE b = 14 := by
 simp only [bookE] at h ⊢
 cases hc : bookOk b with
 | true => rw [hc] at h; exact absurd rfl h
 | false => exact ⟨rfl, rfl⟩
theorem legs_len2 (t : TradeV) : (legs t).length ≤ 2 ∧ (undo t).length ≤ 2 := by
 simp only [undo, legs, List.length_map]
 cases tradeOk t <;> simp
theorem addV_len (b : BookV) (g : List PosV) : (addV b g).poss.length ≤ 128 ∧ (addV b g).trades.length ≤ b.trades.length := by
 by_cases h : addE b g = 0
 ·rw [add_val h]
  refine ⟨?_, Nat.le_refl _⟩
  have := jOut_len (b.poss ++ g) allK
  have e : allK.length = 128 := kW_len 16
  simp only; omega
 ·rw [add_no h]; simp
theorem cancel_len (b : BookV) (no : Int) : (cancelV b no).poss.length ≤ 128 ∧ (cancelV b no).trades.length ≤ b.trades.length := by
 by_cases h : cancelE b no = 0
 ·rw [cancel_val h]; have := addV_len b (undo (firstT (hit no) b.trades)); simp only [markOff_len]; omega
 ·rw [cancel_no h]; simp
theorem idxF_neg {α : Type} (f : α → Bool) (l : List α) : decide (idxF f l < 0) = !(l.any f) := by
 cases h : l.any f with
 | false => rw [idxF_no h]; rfl
 | true =>
  obtain ⟨pre, x, post, rfl, h1, h2⟩ := any_split h
  rw [idxF_hit h1 h2]
  exact decide_eq_false (by omega)
theorem any_set {no : Int} {l : List TradeV} (h : l.any (hit no) = true) : (markOff no l).any (noIs no) = true := by
 obtain ⟨pre, t, post, rfl, h3, h4⟩ := any_split h
 rw [markOff_hit h3 h4]
 have : t.no = no := by simp [hit] at h4; exact h4.1
 simp [noIs, offTr, this]
theorem noIs_any {b : BookV} {no : Int} (h : cancelE b no = 0) : (cancelV b no).trades.any (noIs no) = true := by
 rw [cancel_val h]; exact any_set (cancel_ok.1 h).2.1
theorem doK_b (a : ActV) : (IntKind.wrap .u64 a.act).tmod 6 = doK a := rfl
theorem tr_flat (L : List TradeV) : ∀ l, l ∈ L.map tradeC → flatDs l := fun l hl => by
 obtain ⟨x, _, rfl⟩ := List.mem_map.1 hl
 simp [tradeC, flatDs, flatD]
end Go.Proofs.Ytopifbpibkpmmaa
