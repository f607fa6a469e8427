/- Books spoilt. In plain Lean. No condition. -/
import Derived.Test.YtdgkiemehmmobaaSpecKF
namespace Go.Proofs.Ytdgkiemehmmobaa
open Go.RowKit
def spoilP (p : PosV) : PosV := ⟨-77, p.inst, p.qty, p.cost⟩
def spoilT (t : TradeV) : TradeV := ⟨-77, t.buyer, t.seller, t.inst, t.qty, t.price, t.gone⟩
structure KeyV where
  who : Int
  inst : Int
def keyK (k : KeyV) : List D := [iv k.who, iv k.inst]
theorem hEqB (b : BookV) : (bookE b == 0) = bookOk b := by simp only [bookE]; cases bookOk b <;> rfl
end Go.Proofs.Ytdgkiemehmmobaa
