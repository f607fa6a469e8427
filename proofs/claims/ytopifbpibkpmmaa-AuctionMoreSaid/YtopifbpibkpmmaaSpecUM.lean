/- One bid more. In plain Lean. No condition. -/
import Derived.Test.YtopifbpibkpmmaaSpecW
namespace Go.Proofs.Ytopifbpibkpmmaa
open Go.RowKit
set_option linter.unusedVariables false
set_option linter.unusedSimpArgs false
theorem ins_split {α : Type} {lt : α → α → Bool} (hs : Swo lt) {x : α} : ∀ {l : List α}, Srt lt l → ∃ A B, l = A ++ B ∧ insX lt x l = A ++ x :: B ∧ ∀ z ∈ B, lt x z = true
  | [], _ => ⟨[], [], rfl, rfl, by simp⟩
  | y :: l, h => by
    have h1 := List.pairwise_cons.1 h
    simp only [insX]
    cases e : lt x y with
    | true =>
      refine ⟨[], y :: l, rfl, rfl, fun z hz => ?_⟩
      rcases List.mem_cons.1 hz with rfl | hz
      · exact e
      · cases e2 : lt x z with
        | true => rfl
        | false => rw [hs.tr y z x (h1.1 z hz) e2] at e; cases e
    | false =>
      obtain ⟨A, B, k1, k2, k3⟩ := ins_split hs (x := x) h1.2
      exact ⟨y :: A, B, by rw [k1]; rfl, by simp only [cond_false, k2]; rfl, k3⟩
theorem restF_mono : ∀ {B : List BidV} {r s : Int}, r ≤ s → restF r B ≤ restF s B
  | [], r, s, h => h
  | b :: B, r, s, h => by
    simp only [restF]
    refine restF_mono ?_
    simp only [mn2]; split <;> split <;> omega
def fz : FillV := ⟨0, 0, 0⟩
theorem more_law {q : Int} {l : List BidV} {b : BidV} (h : filE q l = 0) (h2 : filE q (l ++ [b]) = 0) : filR q (l ++ [b]) ≤ filR q l ∧
    ∀ i, i < (filV q l).length → ((decide (q > 0) && decide (((filV q l).getD i fz).price > b.price)) || (decide (q < 0) && decide (((filV q l).getD i fz).price < b.price))) = true → i < (filV q (l ++ [b])).length ∧ (filV q (l ++ [b])).getD i fz = (filV q l).getD i fz := by
  have g1 : fillBad q l = false := by
    cases e : fillBad q l with
    | false => rfl
    | true => simp [filE, e] at h
  have g2 : fillBad q (l ++ [b]) = false := by
    cases e : fillBad q (l ++ [b]) with
    | false => rfl
    | true => simp [filE, e] at h2
  simp only [filR, filV, g1, g2, cond_false]
  have hr : 0 ≤ absQ q := by simp only [absQ]; split <;> omega
  have hok : l.all bidOk = true := by
    simp only [fillBad, Bool.not_eq_false', Bool.and_eq_true] at g1; exact g1.2
  have hok2 : (l ++ [b]).all bidOk = true := by
    simp only [fillBad, Bool.not_eq_false', Bool.and_eq_true] at g2; exact g2.2
  have hbo : bidOk b = true := by simp at hok2; exact hok2.2
  generalize hlg : decide (q > 0) = long
  have hO : bidOrder long (l ++ [b]) = insX (bidLt long) b (bidOrder long l) := isort_snoc _ _
  obtain ⟨A, B, e1, e2, e3⟩ := ins_split (bidLt_swo long) (x := b) (Srt_isort (bidLt_swo long) l)
  have e1 : bidOrder long l = A ++ B := e1
  have hOk : (A ++ B).all bidOk = true := by rw [← e1]; exact bidOrder_all hok
  rw [hO, show insX (bidLt long) b (bidOrder long l) = A ++ b :: B from e2, e1, restF_app, restF_app, fillsF_app, fillsF_app]
  have hA : A.all bidOk = true := by rw [List.all_append, Bool.and_eq_true] at hOk; exact hOk.1
  have hB : B.all bidOk = true := by rw [List.all_append, Bool.and_eq_true] at hOk; exact hOk.2
  have hrA := (fills_sum hr hA).2.2
  refine ⟨?_, fun i hi hc => ?_⟩
  · simp only [restF]
    refine restF_mono ?_
    have hq := ok_qty hbo
    simp only [mn2]; split <;> omega
  · have hiA : i < (fillsF (absQ q) A).length := by
      rcases Nat.lt_or_ge i (fillsF (absQ q) A).length with c | c
      · exact c
      · exfalso
        rw [List.length_append] at hi
        have hm : (fillsF (absQ q) A ++ fillsF (restF (absQ q) A) B).getD i fz ∈ fillsF (restF (absQ q) A) B := by
          rw [List.getD_eq_getElem?_getD, List.getElem?_append_right c, List.getElem?_eq_getElem (by omega)]
          exact List.getElem_mem _
        obtain ⟨_, y, hy, hf, hp⟩ := fills_mem hrA hB _ hm
        have hlt := bidLt_iff.1 (e3 y hy)
        simp only [bidAhead] at hlt
        rw [← hp] at hc
        cases long with
        | true =>
          have hq : q > 0 := of_decide_eq_true hlg
          simp only [Bool.true_and, Bool.or_eq_true, decide_eq_true_eq, Bool.and_eq_true] at hc
          simp at hlt
          omega
        | false =>
          have hq : ¬ q > 0 := of_decide_eq_false hlg
          simp only [Bool.false_and, Bool.false_or, decide_eq_true_eq, Bool.and_eq_true] at hc
          simp at hlt
          omega
    refine ⟨by rw [List.length_append]; omega, ?_⟩
    rw [List.getD_eq_getElem?_getD, List.getD_eq_getElem?_getD, List.getElem?_append_left hiA, List.getElem?_append_left hiA]
theorem fillsD_get {l : List FillV} {i : Nat} (h : i < l.length) : (l.map fillC).getD i [] = fillC (l.getD i fz) := by
  simp [List.getD_eq_getElem?_getD, List.getElem?_eq_getElem h]
theorem oneF_of {l : List FillV} {i : Nat} (h : i < l.length) : ((l.map fillC).take (i + 1)).drop i = [l.getD i fz].map fillC := by
  rw [← List.map_take, ← List.map_drop]
  congr 1
  rw [List.take_add_one, List.getElem?_eq_getElem h, List.drop_append_of_le_length (by simp; omega)]
  simp [List.getD_eq_getElem?_getD, h]
theorem filV_len (q : Int) (l : List BidV) : (filV q l).length ≤ l.length := by
  simp only [filV]
  cases fillBad q l with
  | true => simp
  | false => have := fillsF_len (absQ q) (bidOrder (decide (q > 0)) l); rw [bidOrder_len] at this; exact this
end Go.Proofs.Ytopifbpibkpmmaa
