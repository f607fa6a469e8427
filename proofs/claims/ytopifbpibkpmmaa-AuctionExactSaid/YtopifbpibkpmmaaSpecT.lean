/- Which trades may be, in plain terms. No condition. -/
import Derived.Test.YtopifbpibkpmmaaSpecB
import Derived.Test.YtopifbpibkpmmaaSpecR
namespace Go.Proofs.Ytopifbpibkpmmaa
open Go.RowKit
set_option linter.unusedVariables false
set_option linter.unusedSimpArgs false
def tradeCheck (r : RollV) (t : TradeV) : Int :=
  bif rollE r != 0 then rollE r
  else bif !tradeOk t then 3
  else bif !hasX InstV.no t.inst r.insts || !hasX MemV.no t.buyer r.mems || !hasX MemV.no t.seller r.mems then 10
  else bif t.buyer == t.seller then 16
  else bif (findX MemV.no t.buyer zMem r.mems).state != 1 || (findX MemV.no t.seller zMem r.mems).state != 1 then 14
  else 0
def turn (t : TradeV) : TradeV := ⟨t.no, t.seller, t.buyer, t.inst, t.qty, t.price, t.gone⟩
theorem turn_ok (t : TradeV) : tradeOk (turn t) = tradeOk t := rfl
theorem turn_check (r : RollV) (t : TradeV) : tradeCheck r (turn t) = tradeCheck r t := by
  unfold tradeCheck
  rw [turn_ok]
  simp only [turn]
  rw [show (!hasX InstV.no t.inst r.insts || !hasX MemV.no t.seller r.mems || !hasX MemV.no t.buyer r.mems) = (!hasX InstV.no t.inst r.insts || !hasX MemV.no t.buyer r.mems || !hasX MemV.no t.seller r.mems) from by
    cases hasX InstV.no t.inst r.insts <;> cases hasX MemV.no t.seller r.mems <;> cases hasX MemV.no t.buyer r.mems <;> rfl]
  rw [show (t.seller == t.buyer) = (t.buyer == t.seller) from by rw [Bool.eq_iff_iff]; simp; exact eq_comm]
  rw [Bool.or_comm ((findX MemV.no t.seller zMem r.mems).state != 1)]
theorem sides_law (r : RollV) (t : TradeV) : (tradeCheck r t == 0 && (t.buyer == t.seller || !hasX MemV.no t.buyer r.mems || !hasX MemV.no t.seller r.mems || !hasX InstV.no t.inst r.insts || (findX MemV.no t.buyer zMem r.mems).state != 1 || (findX MemV.no t.seller zMem r.mems).state != 1)) = false := by
  unfold tradeCheck
  cases h0 : rollE r != 0
  · cases tradeOk t
    · rfl
    · cases hasX InstV.no t.inst r.insts <;> cases hasX MemV.no t.seller r.mems <;> cases hasX MemV.no t.buyer r.mems <;> cases (t.buyer == t.seller) <;> cases (findX MemV.no t.buyer zMem r.mems).state != 1 <;> cases (findX MemV.no t.seller zMem r.mems).state != 1 <;> rfl
  · have h1 : (rollE r == 0) = false := by simpa using h0
    simp only [cond_true, h1, Bool.false_and]
theorem un_un {t : TradeV} (h : tradeOk t = true) : IntKind.wrap .i64 (0 - IntKind.wrap .i64 (0 - t.qty)) = t.qty := by
  obtain ⟨h1, h2, h3, h4, h5, h6⟩ := tradeOk_bound h
  rw [wrapI (n := 0 - t.qty) (by omega) (by omega), wrapI (by omega) (by omega)]; omega
def spoilP (p : PosV) : PosV := ⟨-77, p.inst, p.qty, p.cost⟩
theorem legs_e1 {t : TradeV} (h : tradeOk t = true) : IntKind.wrap .i64 (IntKind.wrap .i64 (0 - t.qty) * t.price) = IntKind.wrap .i64 (0 - IntKind.wrap .i64 (t.qty * t.price)) := by
  obtain ⟨h1, h2, h3, h4, h5, h6⟩ := tradeOk_bound h
  rw [wrapI (n := 0 - t.qty) (by omega) (by omega), wrapI (n := t.qty * t.price) (by omega) (by omega), show (0 - t.qty) * t.price = 0 - t.qty * t.price from by rw [Int.sub_mul]; omega]
theorem legs_e2 {t : TradeV} (h : tradeOk t = true) : IntKind.wrap .i64 (IntKind.wrap .i64 (0 - IntKind.wrap .i64 (0 - t.qty)) * t.price) = IntKind.wrap .i64 (0 - IntKind.wrap .i64 (0 - IntKind.wrap .i64 (t.qty * t.price))) := by
  obtain ⟨h1, h2, h3, h4, h5, h6⟩ := tradeOk_bound h
  rw [wrapI (n := 0 - t.qty) (by omega) (by omega), wrapI (n := 0 - (0 - t.qty)) (by omega) (by omega), wrapI (n := t.qty * t.price) (by omega) (by omega), wrapI (n := 0 - t.qty * t.price) (by omega) (by omega), show (0 - (0 - t.qty)) * t.price = 0 - (0 - t.qty * t.price) from by rw [show (0 - (0 - t.qty) : Int) = t.qty from by omega]; omega]
theorem legs_e3 {t : TradeV} (h : tradeOk t = true) : True := trivial
end Go.Proofs.Ytopifbpibkpmmaa
