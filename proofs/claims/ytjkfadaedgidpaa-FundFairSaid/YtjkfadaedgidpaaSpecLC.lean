/- Ledgers: rows of postings, one behind the other. In plain Lean. No condition. -/
import Derived.Test.YtjkfadaedgidpaaSpecLB
namespace Go.Proofs.Ytjkfadaedgidpaa
open Go.RowKit
set_option linter.unusedVariables false
set_option linter.unusedSimpArgs false
structure PstV where
  id : Int
  legs : List LegV
def pstC (p : PstV) : List D := [iv p.id, legs p.legs]
def psts (l : List PstV) : D := .sl 2 (l.map pstC)
def long (p : PstV) : Bool := decide ((p.legs.length : Int) > 200)
def heavyP (l : List PstV) : Bool := decide ((l.length : Int) > 200) || l.any long
def FewP (l : List PstV) : Prop := l.length ≤ 200 ∧ ∀ p ∈ l, p.legs.length ≤ 200
theorem few_of {l : List PstV} (h : heavyP l = false) : FewP l := by
  simp only [heavyP, Bool.or_eq_false_iff, decide_eq_false_iff_not] at h
  refine ⟨by omega, fun p hp => ?_⟩
  have := List.any_eq_false.1 h.2 p hp
  simp [long] at this
  omega
def grow1 (s : LedV) (p : PstV) : LedV := bif postE s p.id p.legs == 0 then postV s p.id p.legs else s
def growF (l : List PstV) : LedV := l.foldl grow1 ⟨0, []⟩
def growK (s : LedV) (p : PstV) : Int := bif postE s p.id p.legs == 0 then 1 else 0
def growC : LedV → List PstV → Int
  | _, [] => 0
  | s, p :: l => growK s p + growC (grow1 s p) l
def grownV (l : List PstV) : LedV := growF (l.take 40)
def grownN (l : List PstV) : Int := growC ⟨0, []⟩ (l.take 40)
theorem growF_snoc (l : List PstV) (p : PstV) : growF (l ++ [p]) = grow1 (growF l) p := by simp [growF]
theorem growC_snoc : ∀ (s : LedV) (l : List PstV) (p : PstV), growC s (l ++ [p]) = growC s l + growK (l.foldl grow1 s) p
  | s, [], p => by simp [growC]
  | s, q :: l, p => by simp only [List.cons_append, growC, growC_snoc, List.foldl_cons]; omega
theorem growC_bd : ∀ (s : LedV) (l : List PstV), 0 ≤ growC s l ∧ growC s l ≤ l.length
  | s, [] => by simp [growC]
  | s, q :: l => by
    have ih := growC_bd (grow1 s q) l
    have : growK s q = 0 ∨ growK s q = 1 := by simp only [growK]; cases (postE s q.id q.legs == 0) <;> simp
    simp only [growC, List.length_cons]
    omega
theorem grow1_good {s : LedV} (h : Good s) (p : PstV) : Good (grow1 s p) := by
  simp only [grow1]
  cases hc : (postE s p.id p.legs == 0) with
  | true => exact post_good (by simpa using hc)
  | false => exact h
theorem postV_len (s : LedV) (id : Int) (g : List LegV) : (postV s id g).bal.length ≤ g.length + s.bal.length := by
  by_cases h : postE s id g = 0
  · rw [post_val h]; simp only
    have : (joinV (g ++ s.bal)).length ≤ (g ++ s.bal).length := by
      rw [jV (post_ok.1 h).2.2.2.2.2.1]
      have := joinO_len (legSort (g ++ s.bal)); rw [legSort_len] at this; exact this
    simpa using this
  · rw [post_no h]; simp
theorem grow1_len {s : LedV} (p : PstV) (hp : p.legs.length ≤ 200) : (grow1 s p).bal.length ≤ s.bal.length + 200 := by
  simp only [grow1]
  cases hc : (postE s p.id p.legs == 0) with
  | true => have := postV_len s p.id p.legs; simp only [cond_true]; omega
  | false => simp only [cond_false]; omega
theorem growF_good : ∀ {l : List PstV} {s : LedV}, Good s → Good (l.foldl grow1 s)
  | [], s, h => h
  | p :: l, s, h => growF_good (l := l) (grow1_good h p)
theorem growF_len : ∀ {l : List PstV} {s : LedV}, (∀ p ∈ l, p.legs.length ≤ 200) → (l.foldl grow1 s).bal.length ≤ s.bal.length + 200 * l.length
  | [], s, _ => by simp
  | p :: l, s, h => by
    have ih := growF_len (l := l) (s := grow1 s p) fun q hq => h q (List.mem_cons_of_mem _ hq)
    have h1 := grow1_len (s := s) p (h p (by simp))
    simp only [List.foldl_cons, List.length_cons]
    omega
theorem grown_good (l : List PstV) : Good (grownV l) := growF_good good0
theorem grown_len {l : List PstV} (h : FewP l) : (grownV l).bal.length ≤ 40000 := by
  have h1 := growF_len (l := l.take 40) (s := ⟨0, []⟩) fun p hp => h.2 p (List.mem_of_mem_take hp)
  have h2 := List.length_take_le 40 l
  simp only [grownV, growF, List.length_nil] at h1 ⊢
  omega
theorem take_pre {pre post : List PstV} (h : post = [] ∨ pre.length = 40) (hl : pre.length ≤ 40) : (pre ++ post).take 40 = pre := by
  rcases h with rfl | h
  · rw [List.append_nil]; exact List.take_of_length_le hl
  · rw [List.take_append_of_le_length (by omega), List.take_of_length_le (by omega)]
/- Sums of one account, in the machine's words. -/
theorem wrap_add (a b : Int) : IntKind.wrap .i64 (IntKind.wrap .i64 a + b) = IntKind.wrap .i64 (a + b) := by
  simp only [IntKind.wrap_i64]; omega
/- The postings of LedgerOnce. -/
theorem once_id {s : LedV} {id : Int} {g : List LegV} (h : postE s id g = 0) : ¬ id ≤ s.last := by
  have := (post_ok.1 h).2.2.2.1; omega
theorem once_of {s : LedV} {id : Int} {g : List LegV} (h : postE s id g = 0) (a : AcV) : ofL a (postV s id g).bal = sumA a g + sumA a s.bal := by
  rw [ofL_sum (post_good h).asc, post_sum h]
theorem once_rt {s : LedV} {id : Int} {g : List LegV} (h : postE s id g = 0) (a : AcV) : IntKind.wrap .i64 (sumA a s.bal + sumA a g) = sumA a g + sumA a s.bal := by
  have := good_rt (post_good h) a
  rw [post_sum h] at this
  have := right_iff.1 this
  rw [show sumA a s.bal + sumA a g = sumA a g + sumA a s.bal by omega]
  exact wrapI (by omega) (by omega)
theorem sumA_snoc (a : AcV) (pre : List LegV) (x : LegV) : sumA a (pre ++ [x]) = sumA a pre + (bif acSame x.ac a then x.amt else 0) := by
  rw [sumA_app]; simp only [sumA]; omega
theorem good_last {s : LedV} (h : Good s) (hl : s.last < 549755813888) : IntKind.wrap .i64 (s.last + 1) = s.last + 1 ∧ IntKind.wrap .i64 (s.last + 2) = s.last + 2 := by
  have := h.last
  exact ⟨wrapI (by omega) (by omega), wrapI (by omega) (by omega)⟩
/- What the statements try first: a posting, and it again. -/
theorem wk10 : postE ⟨0, []⟩ 1 (moveL ⟨1, 0, 0⟩ ⟨2, 1, 0⟩ 5) = 0 ∧ postE (postV ⟨0, []⟩ 1 (moveL ⟨1, 0, 0⟩ ⟨2, 1, 0⟩ 5)) 1 (moveL ⟨1, 0, 0⟩ ⟨2, 1, 0⟩ 5) = 18 ∧
    ofL ⟨2, 1, 0⟩ (postV ⟨0, []⟩ 1 (moveL ⟨1, 0, 0⟩ ⟨2, 1, 0⟩ 5)).bal = 5 ∧ (moveL ⟨1, 0, 0⟩ ⟨2, 1, 0⟩ 5).length = 2 ∧ (postV ⟨0, []⟩ 1 (moveL ⟨1, 0, 0⟩ ⟨2, 1, 0⟩ 5)).bal.length ≤ 2 := by
  have hm : moveL ⟨1, 0, 0⟩ ⟨2, 1, 0⟩ 5 = [⟨⟨1, 0, 0⟩, -5⟩, ⟨⟨2, 1, 0⟩, 5⟩] := by rfl
  have hc : chkE (moveL ⟨1, 0, 0⟩ ⟨2, 1, 0⟩ 5) = 0 := ((pays_law ⟨1, 0, 0⟩ ⟨2, 1, 0⟩ 5).2 (by decide)).1 (.inr rfl)
  have hok := ((chkE_iff _).1 hc).2.2.1
  rw [hm] at hc hok ⊢
  have hs : ∀ x, sumA x [(⟨⟨1, 0, 0⟩, -5⟩ : LegV), ⟨⟨2, 1, 0⟩, 5⟩] = (bif acSame ⟨1, 0, 0⟩ x then -5 else 0) + (bif acSame ⟨2, 1, 0⟩ x then 5 else 0) := by
    intro x; simp only [sumA]; omega
  have hj : joinR [(⟨⟨1, 0, 0⟩, -5⟩ : LegV), ⟨⟨2, 1, 0⟩, 5⟩] = 0 := join_r hok fun x => by
    rw [hs]; cases acSame ⟨1, 0, 0⟩ x <;> cases acSame ⟨2, 1, 0⟩ x <;> rfl
  have hl : low (joinV [(⟨⟨1, 0, 0⟩, -5⟩ : LegV), ⟨⟨2, 1, 0⟩, 5⟩]) = false := (low_sum hj).2 fun x => by
    rw [hs]
    have hf := flo_neg x
    cases e1 : acSame ⟨1, 0, 0⟩ x with
    | true =>
      rw [← acSame_iff.1 e1, show flo ⟨1, 0, 0⟩ = -4611686018427387904 from rfl, show acSame ⟨2, 1, 0⟩ ⟨1, 0, 0⟩ = false from rfl]; decide
    | false => cases acSame ⟨2, 1, 0⟩ x <;> simp <;> omega
  have he : postE ⟨0, []⟩ 1 [⟨⟨1, 0, 0⟩, -5⟩, ⟨⟨2, 1, 0⟩, 5⟩] = 0 := post_ok.2 ⟨good0, by decide, by decide, by decide, hc, by simpa using hj, by simpa using hl⟩
  have hG := post_good he
  refine ⟨he, ?_, ?_, rfl, ?_⟩
  · simp only [postE, (ledOk_iff _).2 hG, post_last he, show idBad 1 = false from rfl]; rfl
  · rw [ofL_sum hG.asc, post_sum he, hs]; rfl
  · exact postV_len _ _ _
end Go.Proofs.Ytjkfadaedgidpaa
