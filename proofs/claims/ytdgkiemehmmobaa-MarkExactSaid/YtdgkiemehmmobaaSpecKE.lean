/- Books, as the other reading has them. In plain Lean. No condition. -/
import Derived.Test.YtdgkiemehmmobaaSpecKD
namespace Go.Proofs.Ytdgkiemehmmobaa
open Go.RowKit
set_option linter.unusedVariables false
set_option linter.unusedSimpArgs false
theorem chk_pos {ps : List PosV} (h : chkR posOk pLt none ps = chkR posOk pLt ps.getLast? []) : chkR posOk pLt none ps = true ∧ ∀ p ∈ ps, posOk p = true := by
  have h : chkR posOk pLt none ps = true := by rw [h]; rfl
  exact ⟨h, ((chkR_iff pLt_tr).1 h).1⟩
theorem inR_iff {n a b : Int} : inR n a b = true ↔ (a ≤ n ∧ n ≤ b) := by simp [inR]
theorem posOk_ref (x : PosV) : (!posOk x) = (((!keyOk x.who x.inst || !inR x.qty (-1099511627776) 1099511627776) || !rightN x.cost) || (x.qty == 0 && x.cost == 0)) := by
  rw [Bool.eq_iff_iff]
  simp only [Bool.or_eq_true, Bool.and_eq_true, Bool.not_eq_true', ← Bool.not_eq_true, posOk_iff, inR_iff, beq_iff_eq]
  cases keyOk x.who x.inst <;> cases rightN x.cost <;> simp <;> omega
theorem rtOk_ref (t : TradeV) : ((((tradeOk t && inR t.buyer 1 16) && inR t.seller 1 16) && (t.buyer != t.seller)) && inR t.inst 1 8) = rtOk t := by
  rw [Bool.eq_iff_iff]
  simp only [rtOk, tradeOk, inR, keyOk, Bool.and_eq_true, decide_eq_true_eq, bne_iff_ne]
  constructor <;> intro h <;> omega
theorem trOk_ref (nx : Int) (x : TradeV) : (!trOk nx x) = (!rtOk x || !inR x.no 1 nx) := by
  rw [Bool.eq_iff_iff]
  simp only [Bool.or_eq_true, Bool.not_eq_true', ← Bool.not_eq_true, trOk_iff, inR_iff]
  cases rtOk x <;> simp
theorem rb_head {nx : Int} {ts : List TradeV} {ps : List PosV} (h : (!inR nx 0 1099511627776 || decide ((ts.length : Int) > 128)) = true) : bookOk ⟨nx, ts, ps⟩ = false := by
  cases hb : bookOk ⟨nx, ts, ps⟩ with
  | false => rfl
  | true =>
    have hG := (bookOk_iff _).1 hb
    have h0 := hG.nx0; have h1 := hG.nx1; have h2 := hG.len
    simp only at h0 h1 h2
    rw [inR_iff.2 ⟨h0, h1⟩] at h
    simp at h; omega
theorem rb_tail {nx : Int} {ts : List TradeV} {ps : List PosV} (h : (!inR nx 0 1099511627776 || decide ((ts.length : Int) > 128)) = false) (hl : levelTo ps 8 = true) : bookTail ⟨nx, ts, ps⟩ = false := by
  simp only [Bool.or_eq_false_iff, Bool.not_eq_false', inR_iff, decide_eq_false_iff_not] at h
  simp only [bookTail, levelOk, hl, Bool.or_eq_false_iff, decide_eq_false_iff_not]
  exact ⟨⟨⟨rfl, by omega⟩, by omega⟩, by omega⟩
theorem rb_lev {nx : Int} {ts : List TradeV} {ps : List PosV} {k : Nat} (hk : k < 8) (h : levelI ps (k + 1) = false) : bookOk ⟨nx, ts, ps⟩ = false := by
  have := levelTo_false hk h
  simp [bookOk, bookTail, this]
theorem lev_ref {ps : List PosV} (hall : ∀ p ∈ ps, posOk p = true) (n : Int) : (!rightN (levelQ ps n).sum || ((bif rightN (levelQ ps n).sum then (levelQ ps n).sum else 0) != 0)) = !levelI ps n := by
  have hr : (levelQ ps n).all rightN = true := List.all_eq_true.2 fun x hx => by
    obtain ⟨p, hp, rfl⟩ := List.mem_map.1 hx
    exact (pos_rt (hall p (List.mem_filter.1 hp).1)).1
  simp only [levelI, sumE, sumV, hr, cond_true, Bool.true_and]
  cases hc : rightN (levelQ ps n).sum <;> simp [bne]
theorem levQ_bnd {ps : List PosV} (hall : ∀ p ∈ ps, posOk p = true) (n : Int) : ∀ x ∈ levelQ ps n, -9223372036854775808 ≤ x ∧ x < 9223372036854775808 := fun x hx => by
  obtain ⟨p, hp, rfl⟩ := List.mem_map.1 hx
  have := rightN_iff.1 (pos_rt (hall p (List.mem_filter.1 hp).1)).1
  omega
end Go.Proofs.Ytdgkiemehmmobaa
