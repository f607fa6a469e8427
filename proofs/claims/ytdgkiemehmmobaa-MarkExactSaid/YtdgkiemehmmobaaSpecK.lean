/- Books, in plain terms. No condition. -/
import Derived.Test.YtdgkiemehmmobaaSpecR
namespace Go.Proofs.Ytdgkiemehmmobaa
open Go.RowKit
set_option linter.unusedVariables false
set_option linter.unusedSimpArgs false
structure BookV where
  next : Int
  trades : List TradeV
  poss : List PosV
def tradesB (l : List TradeV) : D := .sl 7 (l.map tradeC)
def bookC (b : BookV) : List D := [iv b.next, tradesB b.trades, poss b.poss]
def keyOk (w n : Int) : Bool := decide (w ≥ 1) && decide (w ≤ 16) && decide (n ≥ 1) && decide (n ≤ 8)
def keyLt (a b c d : Int) : Bool := decide (a < c) || (a == c && decide (b < d))
def pLt (p q : PosV) : Bool := keyLt p.who p.inst q.who q.inst
def posBad (p : PosV) : Bool := !keyOk p.who p.inst || decide (p.qty < -1099511627776) || decide (p.qty > 1099511627776) || !([p.cost].all rightN) || (p.qty == 0 && p.cost == 0)
def posOk (p : PosV) : Bool := !posBad p
def rtOk (t : TradeV) : Bool := decide (t.qty ≥ 1) && decide (t.qty ≤ 1048576) && decide (t.price ≥ 1) && decide (t.price ≤ 1073741824) && t.buyer != t.seller && keyOk t.buyer t.inst && keyOk t.seller t.inst
def trBad (next : Int) (t : TradeV) : Bool := !rtOk t || decide (t.no < 1) || decide (t.no > next)
def trOk (next : Int) (t : TradeV) : Bool := !trBad next t
def tLt (s t : TradeV) : Bool := !decide (s.no ≥ t.no)
/- Each is right, and each behind the one ahead of it. -/
def chkR {α : Type} (ok : α → Bool) (lt : α → α → Bool) : Option α → List α → Bool
  | _, [] => true
  | p, x :: xs => ok x && (match p with | none => true | some y => lt y x) && chkR ok lt (some x) xs
theorem chkR_step {α : Type} (ok : α → Bool) (lt : α → α → Bool) (pre post : List α) (x : α) :
    chkR ok lt pre.getLast? (x :: post) = ((!(!ok x || (decide ((pre.length : Int) > 0) && !lt (lastOr x pre) x))) && chkR ok lt (pre ++ [x]).getLast? post) := by
  rcases List.eq_nil_or_concat pre with rfl | ⟨q, y, rfl⟩
  · simp [chkR]
  · simp [chkR, lastOr]
def levelQ (l : List PosV) (inst : Int) : List Int := (l.filter fun p => p.inst == inst).map PosV.qty
def levelI (l : List PosV) (inst : Int) : Bool := sumE (levelQ l inst) == 0 && sumV (levelQ l inst) == 0
def levelTo (l : List PosV) (k : Nat) : Bool := (List.range k).all fun i => levelI l (i + 1)
def levelOk (l : List PosV) : Bool := levelTo l 8
theorem levelTo_succ (l : List PosV) (k : Nat) : levelTo l (k + 1) = (levelTo l k && levelI l (k + 1)) := by
  simp [levelTo, List.range_succ]
theorem levelTo_false {l : List PosV} {k : Nat} (hk : k < 8) (h : levelI l (k + 1) = false) : levelOk l = false := by
  cases h2 : levelOk l
  · rfl
  · have := List.all_eq_true.1 h2 k (List.mem_range.2 hk)
    rw [h] at this; cases this
theorem levelQ_yes {p : PosV} {n : Int} (h : (p.inst == n) = true) (pre : List PosV) : levelQ (pre ++ [p]) n = levelQ pre n ++ [p.qty] := by simp [levelQ, h]
theorem levelQ_no {p : PosV} {n : Int} (h : (p.inst == n) = false) (pre : List PosV) : levelQ (pre ++ [p]) n = levelQ pre n := by simp [levelQ, h]
theorem levelQ_len (l : List PosV) (n : Int) : (levelQ l n).length ≤ l.length := by simp only [levelQ, List.length_map]; exact List.length_filter_le _ _
def bookTail (b : BookV) : Bool := !levelOk b.poss || decide ((b.trades.length : Int) > 128) || decide (b.next < 0) || decide (b.next > 1099511627776)
def bookOk (b : BookV) : Bool := chkR posOk pLt none b.poss && chkR (trOk b.next) tLt none b.trades && !bookTail b
def bookE (b : BookV) : Int := bif bookOk b then 0 else 14
structure BookV.Small (b : BookV) : Prop where
  trades : b.trades.length ≤ 500000
  poss : b.poss.length ≤ 500000
def heavyB (b : BookV) : Bool := decide ((b.trades.length : Int) > 300) || decide ((b.poss.length : Int) > 300)
theorem smallB_of {b : BookV} (h : heavyB b = false) : b.Small := by
  simp [heavyB] at h
  exact ⟨by omega, by omega⟩
theorem lev_t {a b : Int} (h : (a != 0 || b != 0) = false) : (a == 0 && b == 0) = true := by simpa using h
theorem lev_f {a b : Int} (h : (a != 0 || b != 0) = true) : (a == 0 && b == 0) = false := by
  simp at h
  by_cases h1 : a = 0
  · simp [h1, h.resolve_left (fun h2 => h2 h1)]
  · simp [h1]
end Go.Proofs.Ytdgkiemehmmobaa
