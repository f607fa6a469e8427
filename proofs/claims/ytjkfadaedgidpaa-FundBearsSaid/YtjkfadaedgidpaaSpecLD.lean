/- Ledgers: the document's way to check, to post and to add up. In plain Lean. No condition. -/
import Derived.Test.YtjkfadaedgidpaaSpecLC
namespace Go.Proofs.Ytjkfadaedgidpaa
open Go.RowKit
set_option linter.unusedVariables false
set_option linter.unusedSimpArgs false
def G6 (k : Int) : Bool := ([1, 2, 3, 4, 5, 6] : List Int).contains k
theorem rt_amts {l : List LegV} (h : ∀ x ∈ l, rightN x.amt = true) (c : Int) (g : Int → Bool) : (sumsL c g l).all rightN = true := amts_rt fun y hy => h y (List.mem_filter.1 hy).1
theorem chk_all {l : List LegV} (h : chkR balOk lxLt none l = true) : l.all legOk = true ∧ ∀ x ∈ l, rightN x.amt = true := by
  have h2 := ((chkR_iff lxLt_tr).1 h).1
  have ha : l.all legOk = true := List.all_eq_true.2 fun y hy => ((balOk_iff y).1 (h2 y hy)).1
  exact ⟨ha, fun x hx => ok_rt ha x hx⟩
theorem kind_ok {l : List LegV} (h : l.all legOk = true) : ∀ y ∈ l, 1 ≤ y.ac.kind ∧ y.ac.kind ≤ 6 := by
  intro y hy
  have := List.all_eq_true.1 h y hy
  simp only [legOk, Bool.and_eq_true, acOk] at this
  have hb : acBad y.ac = false := by
    cases hc : acBad y.ac with
    | false => rfl
    | true => rw [hc] at this; cases this.1
  simp only [acBad] at hb
  by_cases k1 : y.ac.kind < 1
  · simp [k1] at hb
  · by_cases k2 : y.ac.kind > 6
    · simp [k1, k2] at hb
    · omega
theorem tot_cur {l : List LegV} (h : l.all legOk = true) (c : Int) : (!(rightN (kSum c (fun k => ([1, 2, 3, 4, 5, 6] : List Int).contains k) l)) || ((bif rightN (kSum c (fun k => ([1, 2, 3, 4, 5, 6] : List Int).contains k) l) then kSum c (fun k => ([1, 2, 3, 4, 5, 6] : List Int).contains k) l else 0) != 0)) = curBad c l := by
  have e : kSum c (fun k => ([1, 2, 3, 4, 5, 6] : List Int).contains k) l = kSum c (fun _ => true) l := kSum_same c fun y hy => by
    have := kind_ok h y hy
    have : y.ac.kind = 1 ∨ y.ac.kind = 2 ∨ y.ac.kind = 3 ∨ y.ac.kind = 4 ∨ y.ac.kind = 5 ∨ y.ac.kind = 6 := by omega
    rcases this with e | e | e | e | e | e <;> rw [e] <;> rfl
  rw [e]
  have hr := sumsL_rt h c (fun _ => true)
  simp only [curBad, sumE, sumV, hr, Bool.true_and, kSum]
  cases rightN (sumsL c (fun _ => true) l).sum <;> simp
/- The amounts of one account, its balance ahead. -/
def amtB (a : AcV) (b : Int) (g : List LegV) : List Int := b :: amtA a g
theorem amtA_snoc_yes {a : AcV} {x : LegV} (h : acSame x.ac a = true) (pre : List LegV) : amtA a (pre ++ [x]) = amtA a pre ++ [x.amt] := by
  simp only [amtA, amts, List.filter_append, List.filter_cons, h, List.filter_nil, if_true, List.map_append, List.map_cons, List.map_nil]
theorem amtA_snoc_no {a : AcV} {x : LegV} (h : acSame x.ac a = false) (pre : List LegV) : amtA a (pre ++ [x]) = amtA a pre := by
  simp only [amtA, amts, List.filter_append, List.filter_cons, h, List.filter_nil, Bool.false_eq_true, if_false, List.append_nil]
theorem amtA_len (a : AcV) (l : List LegV) : (amtA a l).length ≤ l.length := by simp only [amtA, amts, List.length_map]; exact List.length_filter_le _ _
theorem amtB_sum {l : List LegV} (hl : Asc l) (a : AcV) (g : List LegV) : (ofL a l :: amtA a g).sum = sumA a (g ++ l) := by
  rw [List.sum_cons, amtA_sum, ofL_sum hl, sumA_app]; omega
theorem amtB_rt {s : LedV} (hs : Good s) {g : List LegV} (hg : g.all legOk = true) (a : AcV) : ∀ x ∈ ofL a s.bal :: amtA a g, -9223372036854775808 ≤ x ∧ x < 9223372036854775808 := by
  have h1 : (ofL a s.bal :: amtA a g).all rightN = true := by
    rw [List.all_cons, ofL_sum hs.asc, good_rt hs, Bool.true_and]
    exact amts_rt fun y hy => ok_rt hg y (List.mem_filter.1 hy).1
  exact rt_bound h1
/- Floors of all accounts. -/
def lowA (m : List LegV) (A : List AcV) : Bool := A.any fun a => decide (sumA a m < flo a)
theorem lowA_snoc (m : List LegV) (A : List AcV) (a : AcV) : lowA m (A ++ [a]) = (lowA m A || decide (sumA a m < flo a)) := by simp [lowA]
theorem lowA_out (m : List LegV) : ∀ A : List AcV, low (rOut m A) = lowA m A
  | [] => rfl
  | a :: A => by
    have ih := lowA_out m A
    simp only [low, rOut, List.flatMap_cons, List.any_append, lowA, List.any_cons] at ih ⊢
    rw [ih]
    congr 1
    simp only [rOne]
    cases hc : (sumA a m != 0) with
    | true => simp
    | false =>
      have hc : sumA a m = 0 := by simpa using hc
      rw [hc]
      have := (flo_neg a).2
      rw [decide_eq_false (show ¬ (0 < flo a) by omega)]; simp
theorem all_app {g l : List LegV} (h : g.all legOk = true) (k : l.all legOk = true) : (g ++ l).all legOk = true := by rw [List.all_append, h, k]; rfl
/- What the statement asks of a right ledger's totals. -/
/- The kinds seen, as cells. -/
def seenA (pre : List Int) : List AV := (seenL pre).map fun b => AV.d (D.v (.bool b))
end Go.Proofs.Ytjkfadaedgidpaa
