/- Rolls, in plain terms. No condition. -/
import Derived.Test.YtcpkhnciplfmkaaSpecA
namespace Go.Proofs.Ytcpkhnciplfmkaa
open Go.RowKit
set_option linter.unusedVariables false
set_option linter.unusedSimpArgs false
structure InstV where
  no : Int
  cur : Int
  mult : Int
  add : Int
  set : Int
  price : Int
  s0 : Int
  s1 : Int
  s2 : Int
  s3 : Int
  s4 : Int
  s5 : Int
def instC (i : InstV) : List D := [iv i.no, iv i.cur, iv i.mult, iv i.add, iv i.set, iv i.price, iv i.s0, iv i.s1, iv i.s2, iv i.s3, iv i.s4, iv i.s5]
structure MemV where
  no : Int
  state : Int
  need : Int
def memC (m : MemV) : List D := [iv m.no, iv m.state, iv m.need]
structure AssetV where
  no : Int
  cur : Int
  price : Int
  cut : Int
def assetC (a : AssetV) : List D := [iv a.no, iv a.cur, iv a.price, iv a.cut]
structure RollV where
  mems : List MemV
  insts : List InstV
  assets : List AssetV
def memsD (l : List MemV) : D := .sl 3 (l.map memC)
def instsD (l : List InstV) : D := .sl 12 (l.map instC)
def assetsD (l : List AssetV) : D := .sl 4 (l.map assetC)
def rollC (r : RollV) : List D := [memsD r.mems, instsD r.insts, assetsD r.assets]
def fnD (f : Nat) : D := .v (.func (.func f) #[] #[])
def inR (n lo hi : Int) : Bool := decide (n ≥ lo) && decide (n ≤ hi)
def memOk (m : MemV) : Bool := inR m.no 1 16 && inR m.state 1 3 && [m.need].all rightN && decide (m.need ≥ 0)
def assetOk (a : AssetV) : Bool := inR a.no 1 6 && inR a.cur 0 2 && inR a.price 1 1073741824 && inR a.cut 0 10000
def shOk (n : Int) : Bool := inR n (-1073741824) 1073741824
def instOk (i : InstV) : Bool := shOk i.s0 && shOk i.s1 && shOk i.s2 && shOk i.s3 && shOk i.s4 && shOk i.s5 &&
  (inR i.no 1 8 && inR i.cur 0 2 && inR i.mult 1 1024 && inR i.add 0 1073741824 && inR i.set 0 1073741824 && inR i.price 0 1073741824)
/- Numbers rise, and each is right. -/
def chk {α : Type} (ok : α → Bool) (no : α → Int) : Option α → List α → Bool
  | _, [] => true
  | p, x :: xs => ok x && (match p with | none => true | some y => !decide (no y ≥ no x)) && chk ok no (some x) xs
def lastOr {α : Type} (x : α) (pre : List α) : α := pre.getLast?.getD x
theorem prev_get {α β : Type} (f : α → β) (pre post : List α) (x : α) (d : β) (h : pre.length < 4611686018427387904) :
    ((pre ++ x :: post).map f).getD (Int.toNat (IntKind.wrap .i64 ((pre.length : Int) - 1))) d = f (lastOr x pre) := by
  rw [wrapI (by omega) (by omega)]
  rcases List.eq_nil_or_concat pre with rfl | ⟨q, y, rfl⟩
  · simp [lastOr]
  · rw [show Int.toNat (((q.concat y).length : Int) - 1) = q.length from by simp]
    simp [lastOr, List.getD]
theorem prev_ok {α : Type} (pre : List α) (h : pre.length < 4611686018427387904) (hp : decide ((pre.length : Int) > 0) = true) : 0 ≤ IntKind.wrap .i64 ((pre.length : Int) - 1) := by
  simp at hp; rw [wrapI (by omega) (by omega)]; omega
theorem prev_lt {α : Type} (pre post : List α) (x : α) (h : pre.length < 4611686018427387904) : IntKind.wrap .i64 ((pre.length : Int) - 1) < ((pre ++ x :: post).length : Int) := by
  rw [wrapI (by omega) (by omega)]; simp; omega
theorem chk_step {α : Type} (ok : α → Bool) (no : α → Int) (pre post : List α) (x : α) :
    chk ok no pre.getLast? (x :: post) = ((!(!ok x || (decide ((pre.length : Int) > 0) && decide (no (lastOr x pre) ≥ no x)))) && chk ok no (pre ++ [x]).getLast? post) := by
  rcases List.eq_nil_or_concat pre with rfl | ⟨q, y, rfl⟩
  · simp [chk]
  · simp [chk, lastOr]
def rollOk (r : RollV) : Bool := chk memOk MemV.no none r.mems && chk instOk InstV.no none r.insts && chk assetOk AssetV.no none r.assets
def rollE (r : RollV) : Int := bif rollOk r then 0 else 14
def heavy (r : RollV) : Bool := decide ((r.mems.length : Int) > 100) || decide ((r.insts.length : Int) > 100) || decide ((r.assets.length : Int) > 100)
structure RollV.Small (r : RollV) : Prop where
  mems : r.mems.length ≤ 1000000
  insts : r.insts.length ≤ 1000000
  assets : r.assets.length ≤ 1000000
theorem small_of {r : RollV} (h : heavy r = false) : r.Small := by
  simp [heavy] at h
  exact ⟨by omega, by omega, by omega⟩
def findI {α : Type} (no : α → Int) (n : Int) : Nat → List α → Int
  | _, [] => -1
  | k, x :: xs => bif no x == n then (k : Int) else findI no n (k + 1) xs
def findX {α : Type} (no : α → Int) (n : Int) (z : α) : List α → α
  | [] => z
  | x :: xs => bif no x == n then x else findX no n z xs
def hasX {α : Type} (no : α → Int) (n : Int) : List α → Bool
  | [] => false
  | x :: xs => no x == n || hasX no n xs
theorem findI_has {α : Type} (no : α → Int) (n : Int) : ∀ (k : Nat) (l : List α), decide (findI no n k l ≥ 0) = hasX no n l
  | k, [] => by simp [findI, hasX]
  | k, x :: xs => by
    cases h : no x == n
    · simp only [findI, hasX, h, cond_false, Bool.false_or]; exact findI_has no n (k + 1) xs
    · simp [findI, hasX, h]
def zMem : MemV := ⟨0, 0, 0⟩
def zInst : InstV := ⟨0, 0, 0, 0, 0, 0, 0, 0, 0, 0, 0, 0⟩
def memA (m : MemV) : AV := .ag ((memC m).map .d)
def instA (m : InstV) : AV := .ag ((instC m).map .d)
end Go.Proofs.Ytcpkhnciplfmkaa
