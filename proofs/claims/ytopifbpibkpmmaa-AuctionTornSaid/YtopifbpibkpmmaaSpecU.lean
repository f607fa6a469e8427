/- Bids, their order, and who gets how much, in plain Lean. No condition. -/
import Derived.Test.YtopifbpibkpmmaaSort
import Derived.Test.YtopifbpibkpmmaaClone
import Derived.Test.YtopifbpibkpmmaaSpecM
import Derived.Test.YtopifbpibkpmmaaSpecG
namespace Go.Proofs.Ytopifbpibkpmmaa
open Go.RowKit
set_option linter.unusedVariables false
set_option linter.unusedSimpArgs false
structure BidV where
 who : Int
 inst : Int
 frm : Int
 qty : Int
 price : Int
def bidC (b : BidV) : List D := [iv b.who, iv b.inst, iv b.frm, iv b.qty, iv b.price]
def bids (l : List BidV) : D := .sl 5 (l.map bidC)
structure FillV where
 frm : Int
 qty : Int
 price : Int
def fillC (b : FillV) : List D := [iv b.frm, iv b.qty, iv b.price]
def fillsD (l : List FillV) : D := .sl 3 (l.map fillC)
def cmpI (a b : Int) : Int := bif decide (a < b) then -1 else bif decide (a > b) then 1 else 0
def orI : List Int → Int
 | [] => 0
 | x :: xs => bif x != 0 then x else orI xs
def prI (long : Bool) (a b : Int) : Int := bif long then IntKind.wrap .i64 (0 - cmpI a b) else cmpI a b
def ordB (long : Bool) (a b : BidV) : Int := orI [prI long a.price b.price, cmpI a.frm b.frm]
def bidLt (long : Bool) (a b : BidV) : Bool := decide (ordB long a b < 0)
def bidOrder (long : Bool) (l : List BidV) : List BidV := isort (bidLt long) l
def bidAhead (long : Bool) (a b : BidV) : Prop := (a.price ≠ b.price ∧ (long = true → a.price > b.price) ∧ (long = false → a.price < b.price)) ∨ (a.price = b.price ∧ a.frm < b.frm)
theorem cmpI_cases (a b : Int) : (a < b ∧ cmpI a b = -1) ∨ (a > b ∧ cmpI a b = 1) ∨ (a = b ∧ cmpI a b = 0) := by
 unfold cmpI
 by_cases h : a < b
 ·simp [h]
 ·by_cases h2 : a > b
  ·simp [h, h2]
  ·simp [h, h2]; omega
theorem prI_cases (long : Bool) (a b : Int) : prI long a b = bif long then - cmpI a b else cmpI a b := by
 unfold prI
 cases long with
 | false => rfl
 | true =>
  simp only [cond_true]
  rcases cmpI_cases a b with h | h | h <;> rw [h.2] <;> decide
theorem ordB_lt (long : Bool) (a b : BidV) : ordB long a b < 0 ↔ bidAhead long a b := by
 have e : ordB long a b = bif prI long a.price b.price != 0 then prI long a.price b.price else cmpI a.frm b.frm := by
  simp only [ordB, orI]
  cases h : (cmpI a.frm b.frm != 0) with
  | true => rfl
  | false =>
   have : cmpI a.frm b.frm = 0 := by simpa using h
   rw [this]; rfl
 rw [e, prI_cases, bidAhead]
 rcases cmpI_cases a.price b.price with h | h | h <;> rcases cmpI_cases a.frm b.frm with k | k | k <;> rw [h.2, k.2] <;> cases long <;> simp <;> omega
theorem bidLt_iff {long : Bool} {a b : BidV} : bidLt long a b = true ↔ bidAhead long a b := by rw [bidLt, decide_eq_true_iff]; exact ordB_lt long a b
theorem bidLt_swo (long : Bool) : Swo (bidLt long) where
 asym a b h := by
  have h := bidLt_iff.1 h
  cases h2 : bidLt long b a with
  | false => rfl
  | true =>
   have h2 := bidLt_iff.1 h2
   simp only [bidAhead] at h h2
   cases long <;> simp at h h2 <;> omega
 tr a b c h1 h2 := by
  cases h3 : bidLt long c a with
  | false => rfl
  | true =>
   exfalso
   have h3 := bidLt_iff.1 h3
   have h1 : ¬ bidAhead long b a := fun h => by rw [bidLt_iff.2 h] at h1; cases h1
   have h2 : ¬ bidAhead long c b := fun h => by rw [bidLt_iff.2 h] at h2; cases h2
   simp only [bidAhead] at h1 h2 h3
   cases long <;> simp at h1 h2 h3 <;> omega
def bidD : List D → BidV
 | [.v (.int _ a), .v (.int _ b), .v (.int _ c), .v (.int _ d), .v (.int _ e)] => ⟨a, b, c, d, e⟩
 | _ => ⟨0, 0, 0, 0, 0⟩
def isBid (x : List D) : Prop := ∃ b, x = bidC b
theorem okM_bids (l : List BidV) : okM isBid (l.map bidC) := fun e he => by
 obtain ⟨b, _, rfl⟩ := List.mem_map.1 he
 exact ⟨b, rfl⟩
theorem isort_map {α β : Type} (f : α → β) {lt : α → α → Bool} {lt' : β → β → Bool} (h : ∀ a b, lt' (f a) (f b) = lt a b) (l : List α) : isort lt' (l.map f) = (isort lt l).map f := by
 have ins : ∀ (x : α) (l : List α), insX lt' (f x) (l.map f) = (insX lt x l).map f := by
  intro x l
  induction l with
  | nil => rfl
  | cons y l ih =>
   simp only [List.map_cons, insX, h]
   cases lt x y with
   | true => rfl
   | false => simp [ih]
 have aux : ∀ (l acc : List α), isortA lt' (acc.map f) (l.map f) = (isortA lt acc l).map f := by
  intro l
  induction l with
  | nil => intro acc; rfl
  | cons x l ih => intro acc; simp only [List.map_cons, isortA, ins, ih]
 exact aux l []
def bidCmp (long : Bool) (x y : List D) : Int := ordB long (bidD x) (bidD y)
theorem bidCmp_swo (long : Bool) : Swo (ltc (bidCmp long)) where
 asym a b h := (bidLt_swo long).asym (bidD a) (bidD b) h
 tr a b c h1 h2 := (bidLt_swo long).tr (bidD a) (bidD b) (bidD c) h1 h2
theorem sort_bids (long : Bool) (l : List BidV) : isort (ltc (bidCmp long)) (l.map bidC) = (bidOrder long l).map bidC := isort_map bidC (fun a b => rfl) l
theorem bidOrder_len (long : Bool) (l : List BidV) : (bidOrder long l).length = l.length := isort_len l
def mn2 (a b : Int) : Int := if b < a then b else a
def fillsF : Int → List BidV → List FillV
 | _, [] => []
 | r, b :: bs => (bif decide (mn2 r b.qty > 0) then [⟨b.frm, mn2 r b.qty, b.price⟩] else []) ++ fillsF (r - mn2 r b.qty) bs
def restF : Int → List BidV → Int
 | r, [] => r
 | r, b :: bs => restF (r - mn2 r b.qty) bs
theorem restF_snoc (r : Int) (l : List BidV) (x : BidV) : restF r (l ++ [x]) = restF r l - mn2 (restF r l) x.qty := by
 induction l generalizing r with
 | nil => rfl
 | cons b l ih => exact ih _
theorem fillsF_snoc (r : Int) (l : List BidV) (x : BidV) : fillsF r (l ++ [x]) = fillsF r l ++ (bif decide (mn2 (restF r l) x.qty > 0) then [⟨x.frm, mn2 (restF r l) x.qty, x.price⟩] else []) := by
 induction l generalizing r with
 | nil => simp [fillsF, restF]
 | cons b l ih => simp only [List.cons_append, fillsF, restF, ih, List.append_assoc]; rfl
theorem fillsF_len (r : Int) (l : List BidV) : (fillsF r l).length ≤ l.length := by
 induction l generalizing r with
 | nil => exact Nat.le_refl _
 | cons b l ih =>
  simp only [fillsF, List.length_append, List.length_cons]
  have := ih (r - mn2 r b.qty)
  cases decide (mn2 r b.qty > 0) <;> simp <;> omega
def bidOk (b : BidV) : Bool := inR b.qty 1 1048576 && inR b.price 1 1073741824
def absQ (q : Int) : Int := if 0 - q > q then 0 - q else q
def fillBad (q : Int) (l : List BidV) : Bool := !(inR q (-1099511627776) 1099511627776 && l.all bidOk)
def filV (q : Int) (l : List BidV) : List FillV := bif fillBad q l then [] else fillsF (absQ q) (bidOrder (decide (q > 0)) l)
def filR (q : Int) (l : List BidV) : Int := bif fillBad q l then 0 else restF (absQ q) (bidOrder (decide (q > 0)) l)
def filE (q : Int) (l : List BidV) : Int := bif fillBad q l then 3 else 0
theorem restF_nn {r : Int} {l : List BidV} (hr : 0 ≤ r) (h1 : r ≤ 1099511627776) (hl : l.all bidOk = true) : 0 ≤ restF r l ∧ restF r l ≤ 1099511627776 := by
 induction l generalizing r with
 | nil => exact ⟨hr, h1⟩
 | cons b l ih =>
  simp only [List.all_cons, Bool.and_eq_true, bidOk, inR, decide_eq_true_eq] at hl
  refine ih ?_ ?_ (by simpa [bidOk, inR] using hl.2) <;> simp only [mn2] <;> split <;> omega
theorem bidOrder_mem {long : Bool} {l : List BidV} {x : BidV} : x ∈ bidOrder long l ↔ x ∈ l := by
 have aux : ∀ (l acc : List BidV), x ∈ isortA (bidLt long) acc l ↔ x ∈ acc ∨ x ∈ l := by
  intro l
  induction l with
  | nil => intro acc; simp [isortA]
  | cons y l ih =>
   intro acc
   simp only [isortA, ih, insX_mem, List.mem_cons]
   constructor
   ·rintro ((h | h) | h)
    ·exact .inr (.inl h)
    ·exact .inl h
    ·exact .inr (.inr h)
   ·rintro (h | h | h)
    ·exact .inl (.inr h)
    ·exact .inl (.inl h)
    ·exact .inr h
 rw [bidOrder, isort, aux]; simp
theorem bidOrder_all {long : Bool} {l : List BidV} (h : l.all bidOk = true) : (bidOrder long l).all bidOk = true := by
 rw [List.all_eq_true] at h ⊢
 exact fun x hx => h x (bidOrder_mem.1 hx)
def lgOk (f : FillV) : Bool := inR f.qty 0 1099511627776 && inR f.price 0 1073741824
def lgC (f : FillV) : Bool := rightN (f.qty * f.price)
def lgE (l : List FillV) : Int := bif l.all lgOk then (bif l.all lgC then 0 else 1) else 3
def lq (long : Bool) (x : Int) : Int := bif long then x else 0 - x
def lg1 (w n : Int) (long : Bool) (f : FillV) : List PosV := [⟨f.frm, n, lq long f.qty, lq long (f.qty * f.price)⟩, ⟨w, n, 0 - lq long f.qty, 0 - lq long (f.qty * f.price)⟩]
def lgs (w n : Int) (long : Bool) (l : List FillV) : List PosV := l.flatMap (lg1 w n long)
def lgV (w n : Int) (long : Bool) (l : List FillV) : List PosV := bif lgE l == 0 then lgs w n long l else []
theorem lgs_snoc (w n : Int) (long : Bool) (l : List FillV) (x : FillV) : lgs w n long (l ++ [x]) = lgs w n long l ++ lg1 w n long x := by simp [lgs]
theorem lgs_len (w n : Int) (long : Bool) (l : List FillV) : (lgs w n long l).length = 2 * l.length := by
 induction l with
 | nil => rfl
 | cons x l ih => simp only [lgs, List.flatMap_cons, List.length_append, List.length_cons] at ih ⊢; rw [ih]; simp [lg1]; omega
theorem lgE_bad {l : List FillV} {x : FillV} (hx : x ∈ l) (h : lgOk x = false) : lgE l = 3 := by
 have : l.all lgOk = false := by
  cases e : l.all lgOk with
  | false => rfl
  | true => rw [List.all_eq_true] at e; rw [e x hx] at h; cases h
 simp only [lgE, this, cond_false]
theorem lgE_big {l : List FillV} {x : FillV} (h0 : l.all lgOk = true) (hx : x ∈ l) (h : lgC x = false) : lgE l = 1 := by
 have : l.all lgC = false := by
  cases e : l.all lgC with
  | false => rfl
  | true => rw [List.all_eq_true] at e; rw [e x hx] at h; cases h
 simp only [lgE, h0, this, cond_false, cond_true]
theorem lgE_ok {l : List FillV} (h0 : l.all lgOk = true) (h : l.all lgC = true) : lgE l = 0 := by simp only [lgE, h0, h, cond_true]
theorem lgV_no {w n : Int} {long : Bool} {l : List FillV} {e : Int} (h : lgE l = e) (h0 : e ≠ 0) : lgV w n long l = [] := by
 have : (lgE l == 0) = false := by rw [h]; simpa using h0
 simp only [lgV, this, cond_false]
theorem lgV_yes {w n : Int} {long : Bool} {l : List FillV} (h : lgE l = 0) : lgV w n long l = lgs w n long l := by
 have : (lgE l == 0) = true := by rw [h]; rfl
 simp only [lgV, this, cond_true]
end Go.Proofs.Ytopifbpibkpmmaa
