/- The run over a book, in plain terms. No condition. -/
import Derived.Test.YtdgkiemehmmobaaSpecN
import Derived.Test.YtdgkiemehmmobaaSpecG
import Derived.Test.YtdgkiemehmmobaaSpecK
namespace Go.Proofs.Ytdgkiemehmmobaa
open Go.RowKit
set_option linter.unusedVariables false
set_option linter.unusedSimpArgs false
structure DueV where
  who : Int
  cur : Int
  amount : Int
def dueC (d : DueV) : List D := [iv d.who, iv d.cur, iv d.amount]
def dues (l : List DueV) : D := .sl 3 (l.map dueC)
def iOf (r : RollV) (p : PosV) : InstV := findX InstV.no p.inst zInst r.insts
def isOf (r : RollV) (p : PosV) : Bool := hasX InstV.no p.inst r.insts
def mkV (r : RollV) (p : PosV) : Int := priceV (iOf r p)
def mkE (r : RollV) (p : PosV) : Int := bif isOf r p then (bif priceE (iOf r p) != 0 && p.qty == 0 then 0 else priceE (iOf r p)) else 10
def stW (r : RollV) (p : PosV) : Int := worthE p (iOf r p).mult (mkV r p)
def stE (r : RollV) (p : PosV) : Int := bif mkE r p != 0 then mkE r p else (bif stW r p != 0 then stW r p else (bif rightN (p.qty * mkV r p) then 0 else 1))
def dueOf (r : RollV) (p : PosV) : DueV := ⟨p.who, (iOf r p).cur, worthV p (iOf r p).mult (mkV r p)⟩
def newP (r : RollV) (p : PosV) : PosV := ⟨p.who, p.inst, p.qty, p.qty * mkV r p⟩
def liveP (p : PosV) : Bool := p.qty != 0 || p.cost != 0
def firstE {α : Type} (f : α → Int) : List α → Int
  | [] => 0
  | x :: xs => bif f x != 0 then f x else firstE f xs
def newPs (r : RollV) (l : List PosV) : List PosV := (l.map (newP r)).filter liveP
def runE (r : RollV) (b : BookV) : Int := bif rollE r != 0 then rollE r else (bif bookE b != 0 then bookE b else firstE (stE r) b.poss)
def runN (r : RollV) (b : BookV) : Int := bif runE r b == 0 then b.next else 0
def runT (r : RollV) (b : BookV) : List TradeV := bif runE r b == 0 then b.trades else []
def runP (r : RollV) (b : BookV) : List PosV := bif runE r b == 0 then newPs r b.poss else []
def runD (r : RollV) (b : BookV) : List DueV := bif runE r b == 0 then b.poss.map (dueOf r) else []
theorem firstE_app {α : Type} {f : α → Int} {pre : List α} (h : firstE f pre = 0) (post : List α) : firstE f (pre ++ post) = firstE f post := by
  induction pre with
  | nil => rfl
  | cons x xs ih =>
    simp only [firstE] at h
    cases hx : f x != 0
    · rw [hx, cond_false] at h
      simp only [List.cons_append, firstE, hx, cond_false]; exact ih h
    · rw [hx, cond_true] at h
      simp [h] at hx
theorem firstE_hit {α : Type} {f : α → Int} {pre post : List α} {x : α} (h : firstE f pre = 0) (hx : (f x != 0) = true) : firstE f (pre ++ x :: post) = f x := by
  rw [firstE_app h, firstE, hx, cond_true]
theorem firstE_ok {α : Type} {f : α → Int} {pre : List α} {x : α} (h : firstE f pre = 0) (hx : f x = 0) : firstE f (pre ++ [x]) = 0 := by
  rw [firstE_app h]; simp [firstE, hx]
theorem findX_no {α : Type} {no : α → Int} {n : Int} {z : α} : ∀ {l : List α}, hasX no n l = false → findX no n z l = z
  | [], _ => rfl
  | x :: xs, h => by
    simp only [hasX, Bool.or_eq_false_iff] at h
    simp only [findX, h.1, cond_false]; exact findX_no h.2
theorem mkV_no {r : RollV} {p : PosV} (h : isOf r p = false) : mkV r p = 0 := by
  simp only [mkV, iOf, findX_no h]; rfl
theorem mkE_no {r : RollV} {p : PosV} (h : isOf r p = false) : mkE r p = 10 := by simp only [mkE, h, cond_false]
theorem priceV_no {i : InstV} (h : (priceE i != 0) = true) : priceV i = 0 := by
  revert h
  unfold priceE priceV
  cases i.set != 0 <;> cases i.price != 0 <;> simp
theorem newPs_yes {r : RollV} {p : PosV} (h : liveP (newP r p) = true) (pre : List PosV) : newPs r (pre ++ [p]) = newPs r pre ++ [newP r p] := by simp [newPs, h]
theorem newPs_no {r : RollV} {p : PosV} (h : liveP (newP r p) = false) (pre : List PosV) : newPs r (pre ++ [p]) = newPs r pre := by simp [newPs, h]
theorem newPs_len (r : RollV) (l : List PosV) : (newPs r l).length ≤ l.length := by
  have := List.length_filter_le liveP (l.map (newP r))
  simpa [newPs] using this
theorem runE_roll {r : RollV} {b : BookV} (h : rollE r ≠ 0) : runE r b = rollE r := by
  simp only [runE, show (rollE r != 0) = true from bne_iff_ne.2 h, cond_true]
theorem runE_book {r : RollV} {b : BookV} (h : rollE r = 0) (h2 : bookE b ≠ 0) : runE r b = bookE b := by
  simp only [runE, show (rollE r != 0) = false from by rw [h]; rfl, show (bookE b != 0) = true from bne_iff_ne.2 h2, cond_true, cond_false]
theorem runE_poss {r : RollV} {b : BookV} (h : rollE r = 0) (h2 : bookE b = 0) : runE r b = firstE (stE r) b.poss := by
  simp only [runE, show (rollE r != 0) = false from by rw [h]; rfl, show (bookE b != 0) = false from by rw [h2]; rfl, cond_false]
theorem stE_mk {r : RollV} {p : PosV} (h : (mkE r p != 0) = true) : stE r p = mkE r p := by simp only [stE, h, cond_true]
theorem stE_w {r : RollV} {p : PosV} (h : (mkE r p != 0) = false) (h2 : (stW r p != 0) = true) : stE r p = stW r p := by simp only [stE, h, h2, cond_true, cond_false]
theorem stE_c {r : RollV} {p : PosV} (h : (mkE r p != 0) = false) (h2 : (stW r p != 0) = false) : stE r p = bif rightN (p.qty * mkV r p) then 0 else 1 := by simp only [stE, h, h2, cond_true, cond_false]
end Go.Proofs.Ytdgkiemehmmobaa
