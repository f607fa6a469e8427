/- Legs of many trades, in plain terms. No condition. -/
import Derived.Test.YtdgkiemehmmobaaSpecA
namespace Go.Proofs.Ytdgkiemehmmobaa
open Go.RowKit
set_option linter.unusedVariables false
set_option linter.unusedSimpArgs false
def legs (t : TradeV) : List PosV := bif tradeOk t then [legA t, legB t] else []
def undo (t : TradeV) : List PosV := (legs t).map unLeg
def Flat (l : List PosV) : Prop := tsA l = true ∧ (l.map PosV.qty).sum = 0 ∧ (l.map PosV.cost).sum = 0
theorem Flat.nil : Flat [] := ⟨rfl, rfl, rfl⟩
theorem Flat.app {a b : List PosV} (h : Flat a) (k : Flat b) : Flat (a ++ b) := by
  obtain ⟨h1, h2, h3⟩ := h
  obtain ⟨k1, k2, k3⟩ := k
  simp only [tsA, Bool.and_eq_true] at h1 k1
  refine ⟨?_, by simp only [List.map_append, List.sum_append, h2, k2]; rfl, by simp only [List.map_append, List.sum_append, h3, k3]; rfl⟩
  simp only [tsA, List.map_append, List.all_append, h1, k1]; rfl
theorem Flat.ts {l : List PosV} (h : Flat l) : tsQ l = 0 ∧ tsC l = 0 ∧ tsE l = 0 := by
  obtain ⟨h1, h2, h3⟩ := h
  have hB : tsB l = true := by simp only [tsB, h1, h2, h3]; decide
  simp only [tsQ, tsC, tsE, hB, h1, h2, h3, cond_true]
  exact ⟨trivial, trivial, trivial⟩
theorem Flat.legs (t : TradeV) : Flat (legs t) := by
  unfold Proofs.Ytdgkiemehmmobaa.legs
  cases h : tradeOk t
  · exact Flat.nil
  · refine ⟨(ts_legs h).1, ?_, ?_⟩
    · simp only [cond_true, List.map_cons, List.map_nil, List.sum_cons, List.sum_nil, legA_qty, legB_qty h]; omega
    · simp only [cond_true, List.map_cons, List.map_nil, List.sum_cons, List.sum_nil, legA_cost h, legB_cost h]; omega
theorem Flat.undo (t : TradeV) : Flat (undo t) := by
  unfold Proofs.Ytdgkiemehmmobaa.undo Proofs.Ytdgkiemehmmobaa.legs
  cases h : tradeOk t
  · exact Flat.nil
  · obtain ⟨h1, h2, h3, h4, h5, h6⟩ := tradeOk_bound h
    have e1 : (unLeg (legA t)).qty = - t.qty := by show IntKind.wrap .i64 (0 - (legA t).qty) = _; rw [legA_qty, wrapI (by omega) (by omega)]; omega
    have e2 : (unLeg (legB t)).qty = t.qty := by show IntKind.wrap .i64 (0 - (legB t).qty) = _; rw [legB_qty h, wrapI (by omega) (by omega)]; omega
    have e3 : (unLeg (legA t)).cost = - (t.qty * t.price) := by show IntKind.wrap .i64 (0 - (legA t).cost) = _; rw [legA_cost h, wrapI (by omega) (by omega)]; omega
    have e4 : (unLeg (legB t)).cost = t.qty * t.price := by show IntKind.wrap .i64 (0 - (legB t).cost) = _; rw [legB_cost h, wrapI (by omega) (by omega)]; omega
    refine ⟨?_, ?_, ?_⟩
    · simp only [cond_true, tsA, List.map_cons, List.map_nil, List.all_cons, List.all_nil, e1, e2, e3, e4, rightN]
      simp; omega
    · simp only [cond_true, List.map_cons, List.map_nil, List.sum_cons, List.sum_nil, e1, e2]; omega
    · simp only [cond_true, List.map_cons, List.map_nil, List.sum_cons, List.sum_nil, e3, e4]; omega
def trades (l : List TradeV) : D := .sl 7 (l.map tradeC)
def many : Nat → List TradeV → List PosV
  | _, [] => []
  | i, x :: xs => legs x ++ ((bif i % 2 == 0 then undo x else []) ++ many (i + 1) xs)
theorem many_snoc : ∀ (i : Nat) (l : List TradeV) (x : TradeV), many i (l ++ [x]) = many i l ++ (legs x ++ (bif (i + l.length) % 2 == 0 then undo x else []))
  | i, [], x => by simp [many]
  | i, y :: l, x => by
    simp only [List.cons_append, many, many_snoc (i + 1) l x, List.length_cons, List.append_assoc]
    rw [show i + 1 + l.length = i + (l.length + 1) from by omega]
theorem legs_len (t : TradeV) : (legs t).length ≤ 2 := by
  unfold legs; cases tradeOk t <;> simp
theorem undo_len (t : TradeV) : (undo t).length ≤ 2 := by
  unfold undo; rw [List.length_map]; exact legs_len t
theorem many_len : ∀ (i : Nat) (l : List TradeV), (many i l).length ≤ 4 * l.length
  | _, [] => by simp [many]
  | i, x :: xs => by
    have h1 := legs_len x
    have h2 := undo_len x
    have h3 := many_len (i + 1) xs
    simp only [many, List.length_append, List.length_cons]
    cases i % 2 == 0 <;> simp only [cond_true, cond_false, List.length_nil] <;> omega
theorem many_flat : ∀ (i : Nat) (l : List TradeV), Flat (many i l)
  | _, [] => Flat.nil
  | i, x :: xs => by
    refine (Flat.legs x).app (Flat.app ?_ (many_flat (i + 1) xs))
    cases i % 2 == 0
    · exact Flat.nil
    · exact Flat.undo x
theorem parity (n : Nat) : (((n : Int).tmod 2) == 0) = (n % 2 == 0) := by
  rw [Int.tmod_eq_emod_of_nonneg (by omega), Bool.eq_iff_iff, beq_iff_eq, beq_iff_eq]
  omega
end Go.Proofs.Ytdgkiemehmmobaa
