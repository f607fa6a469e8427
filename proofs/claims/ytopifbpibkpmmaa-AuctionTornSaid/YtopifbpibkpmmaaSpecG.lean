/- Losses and margins of positions, in plain terms. No condition. -/
import Derived.Test.YtopifbpibkpmmaaSpecM
import Derived.Test.YtopifbpibkpmmaaAbsX
import Derived.Test.YtopifbpibkpmmaaSpecA
namespace Go.Proofs.Ytopifbpibkpmmaa
open Go.RowKit
set_option linter.unusedVariables false
set_option linter.unusedSimpArgs false
structure PieceV where
 inst : InstV
 qty : Int
def pieceC (x : PieceV) : List D := [iv x.inst.no, iv x.inst.cur, iv x.inst.mult, iv x.inst.add, iv x.inst.set, iv x.inst.price, iv x.inst.s0, iv x.inst.s1, iv x.inst.s2, iv x.inst.s3, iv x.inst.s4, iv x.inst.s5, iv x.qty]
def pQok (p : PosV) : Bool := !(decide (p.qty < -1099511627776) || decide (p.qty > 1099511627776))
def pSel (r : RollV) (who cur : Int) (p : PosV) : Bool := hasX InstV.no p.inst r.insts && p.who == who && (findX InstV.no p.inst zInst r.insts).cur == cur
def pPiece (r : RollV) (p : PosV) : PieceV := ⟨findX InstV.no p.inst zInst r.insts, p.qty⟩
def pcs (r : RollV) (who cur : Int) (l : List PosV) : List PieceV := (l.filter (pSel r who cur)).map (pPiece r)
def pcsE (r : RollV) (l : List PosV) : Int := bif rollOk r then (bif l.all pQok then 0 else 3) else 14
def pcsL (r : RollV) (who cur : Int) (l : List PosV) : List PieceV := bif pcsE r l == 0 then pcs r who cur l else []
def shN (i : InstV) : Nat → Int
 | 0 => i.s0 | 1 => i.s1 | 2 => i.s2 | 3 => i.s3 | 4 => i.s4 | _ => i.s5
def lossOf (x : PieceV) (j : Nat) : Int := -x.qty * x.inst.mult * shN x.inst j
def lossT (ps : List PieceV) (j : Nat) : Int := (ps.map (lossOf · j)).sum
def lossOk (ps : List PieceV) : Bool := rightN (lossT ps 0) && rightN (lossT ps 1) && rightN (lossT ps 2) && rightN (lossT ps 3) && rightN (lossT ps 4) && rightN (lossT ps 5)
def lossE (r : RollV) (who cur : Int) (l : List PosV) : Int := bif pcsE r l == 0 then (bif lossOk (pcs r who cur l) then 0 else 1) else pcsE r l
def lossV (r : RollV) (who cur : Int) (l : List PosV) (j : Nat) : Int := bif lossE r who cur l == 0 then lossT (pcs r who cur l) j else 0
def lossA (r : RollV) (who cur : Int) (l : List PosV) : AV := .ag [.d (iv (lossV r who cur l 0)), .d (iv (lossV r who cur l 1)), .d (iv (lossV r who cur l 2)), .d (iv (lossV r who cur l 3)), .d (iv (lossV r who cur l 4)), .d (iv (lossV r who cur l 5))]
def mx2 (a b : Int) : Int := if b > a then b else a
def lossM (ps : List PieceV) : Int := mx2 (mx2 (mx2 (mx2 (mx2 (mx2 0 (lossT ps 0)) (lossT ps 1)) (lossT ps 2)) (lossT ps 3)) (lossT ps 4)) (lossT ps 5)
def addOf (x : PieceV) : Int := mx2 x.qty (-x.qty) * x.inst.add
def margT (ps : List PieceV) : Int := lossM ps + (ps.map addOf).sum
def margL (ps pre : List PieceV) : List Int := lossM ps :: pre.map addOf
def margE (r : RollV) (who cur : Int) (l : List PosV) : Int := bif lossE r who cur l == 0 then (bif rightN (margT (pcs r who cur l)) then 0 else 1) else lossE r who cur l
def margV (r : RollV) (who cur : Int) (l : List PosV) : Int := bif margE r who cur l == 0 then margT (pcs r who cur l) else 0
structure PieceOk (x : PieceV) : Prop where
 q0 : -1099511627776 ≤ x.qty
 q1 : x.qty ≤ 1099511627776
 m0 : 1 ≤ x.inst.mult
 m1 : x.inst.mult ≤ 1024
 a0 : 0 ≤ x.inst.add
 a1 : x.inst.add ≤ 1073741824
 s : ∀ j, -1073741824 ≤ shN x.inst j ∧ shN x.inst j ≤ 1073741824
theorem mx2_abs (q : Int) : mx2 q (-q) = (q.natAbs : Int) := by unfold mx2; split <;> omega
theorem PieceOk.add {x : PieceV} (h : PieceOk x) : (0 ≤ mx2 x.qty (-x.qty) ∧ mx2 x.qty (-x.qty) ≤ 1099511627776) ∧ 0 ≤ addOf x ∧ addOf x ≤ 1180591620717411303424 := by
 have q0 := h.q0; have q1 := h.q1; have a0 := h.a0; have a1 := h.a1
 have b : 0 ≤ mx2 x.qty (-x.qty) ∧ mx2 x.qty (-x.qty) ≤ 1099511627776 := by rw [mx2_abs]; omega
 refine ⟨b, Int.mul_nonneg b.1 a0, ?_⟩
 have := abs_mul (a := mx2 x.qty (-x.qty)) (b := x.inst.add) (x := 1099511627776) (y := 1073741824) (by omega) (by omega)
 unfold addOf
 omega
def negC (t : Int) : Int := (com64 (t % 18446744073709551616) + 1 + 0) / 18446744073709551616
end Go.Proofs.Ytopifbpibkpmmaa
