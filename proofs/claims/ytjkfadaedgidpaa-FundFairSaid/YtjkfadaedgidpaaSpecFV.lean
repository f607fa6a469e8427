/- The fund: who bears how much, told by the legs. In plain Lean. No condition. -/
import Derived.Test.YtjkfadaedgidpaaSpecFU
namespace Go.Proofs.Ytjkfadaedgidpaa
open Go.RowKit
set_option linter.unusedVariables false
set_option linter.unusedSimpArgs false
theorem lvV_eq {s : LedV} {c amt : Int} {ws : List Int} (h : lvE s c amt ws = 0) : lvV s c amt ws = (bG c amt ws (splitV amt (shV c s.bal ws))).filter fun y => y.amt != 0 := by
  have hF := lv_facts h
  have h1 : (shE s c ws != 0) = false := by
    cases e : shE s c ws != 0 with
    | false => rfl
    | true => simp only [lvE, e, cond_true] at h; simp [h] at e
  simp only [lvE, h1, cond_false] at h
  have h2 : amtBad amt = false := by
    cases e : amtBad amt with
    | false => rfl
    | true => simp [boE, e] at h
  have h3 : decide (amt > shN s c ws) = false := by
    cases e : decide (amt > shN s c ws) with
    | false => rfl
    | true => simp only [boE, h2, e, cond_true, cond_false] at h; cases h
  have h4 : (splitE amt (shV c s.bal ws) != 0) = false := by simp [hF.spe]
  simp only [lvV, h1, boV, h2, h3, h4, cond_false]
  exact (lv_join hF).2
theorem lvV_bad {s : LedV} {c amt : Int} {ws : List Int} (h : lvE s c amt ws ≠ 0) : lvV s c amt ws = [] := by
  cases h1 : shE s c ws != 0 with
  | true => simp only [lvV, h1, cond_true]
  | false =>
    simp only [lvE, h1, cond_false] at h
    simp only [lvV, h1, cond_false, boV]
    simp only [boE] at h
    cases h2 : amtBad amt with
    | true => rfl
    | false =>
      cases h3 : decide (amt > shN s c ws) with
      | true => rfl
      | false =>
        cases h4 : splitE amt (shV c s.bal ws) != 0 with
        | true => rfl
        | false =>
          simp only [h2, h3, h4, cond_false] at h ⊢
          simp only [joinV, show (joinR (boL 3 c amt ws (splitV amt (shV c s.bal ws))) == 0) = false by simpa using h, cond_false]
theorem lvV_len (s : LedV) (c amt : Int) (ws : List Int) : (lvV s c amt ws).length ≤ ws.length + 1 := by
  by_cases h : lvE s c amt ws = 0
  · rw [lvV_eq h]
    have h1 := List.length_filter_le (fun y : LegV => y.amt != 0) (bG c amt ws (splitV amt (shV c s.bal ws)))
    have h2 : (bG c amt ws (splitV amt (shV c s.bal ws))).length = ws.length + 1 := by
      rw [bG, List.length_append, bTl_len, (lv_facts h).len]; rfl
    omega
  · rw [lvV_bad h]; simp
def brF (w n : Int) (x : LegV) : Int := bif x.ac.kind == 3 && x.ac.who == w then IntKind.wrap .i64 (n - x.amt) else n
def brW (w : Int) (l : List LegV) : Int := l.foldl (brF w) 0
theorem brW_yes {w : Int} {x : LegV} (h : (x.ac.kind == 3 && x.ac.who == w) = true) (l : List LegV) : IntKind.wrap .i64 (brW w l - x.amt) = brW w (l ++ [x]) := by
  simp only [brW, List.foldl_append, List.foldl_cons, List.foldl_nil, brF, h, cond_true]
theorem brW_no {w : Int} {x : LegV} (h : (x.ac.kind == 3 && x.ac.who == w) = false) (l : List LegV) : brW w l = brW w (l ++ [x]) := by
  simp only [brW, List.foldl_append, List.foldl_cons, List.foldl_nil, brF, h, cond_false]
theorem fold_none {w : Int} : ∀ {l : List LegV} {n : Int}, (∀ y ∈ l, (y.ac.kind == 3 && y.ac.who == w) = false) → l.foldl (brF w) n = n
  | [], n, _ => rfl
  | y :: l, n, h => by
    simp only [List.foldl_cons, brF, h y (by simp), cond_false]
    exact fold_none fun z hz => h z (by simp [hz])
theorem brW_one {w : Int} {l : List LegV} {x : LegV} (ha : Asc l) (hx : x ∈ l) (hm : (x.ac.kind == 3 && x.ac.who == w) = true) (hu : ∀ y ∈ l, (y.ac.kind == 3 && y.ac.who == w) = true → y.ac = x.ac) : brW w l = IntKind.wrap .i64 (0 - x.amt) := by
  obtain ⟨A, B, rfl⟩ := List.append_of_mem hx
  have hp := List.pairwise_append.1 ha
  have hB := List.pairwise_cons.1 hp.2.1
  have nA : ∀ y ∈ A, (y.ac.kind == 3 && y.ac.who == w) = false := fun y hy => by
    cases e : y.ac.kind == 3 && y.ac.who == w with
    | false => rfl
    | true =>
      have h1 := hu y (by simp [hy]) e
      have h2 := hp.2.2 y hy x (by simp)
      rw [h1, acLt_irr] at h2; cases h2
  have nB : ∀ y ∈ B, (y.ac.kind == 3 && y.ac.who == w) = false := fun y hy => by
    cases e : y.ac.kind == 3 && y.ac.who == w with
    | false => rfl
    | true =>
      have h1 := hu y (by simp [hy]) e
      have h2 := hB.1 y hy
      rw [h1, acLt_irr] at h2; cases h2
  rw [brW, List.foldl_append, fold_none nA, List.foldl_cons, fold_none nB]
  simp only [brF, hm, cond_true]
theorem lv_mem {s : LedV} {c amt : Int} {ws : List Int} (h : lvE s c amt ws = 0) {y : LegV} : y ∈ lvV s c amt ws ↔ y.amt ≠ 0 ∧ ((∃ i, i < ws.length ∧ y = bLeg 3 c ws (splitV amt (shV c s.bal ws)) i) ∨ y = lossL c amt) := by
  have hF := lv_facts h
  rw [lvV_eq h, List.mem_filter, bG, List.mem_append, bLeg_in, List.mem_singleton, hF.len]
  constructor
  · rintro ⟨h1, h2⟩; exact ⟨by simpa using h2, h1⟩
  · rintro ⟨h1, h2⟩; exact ⟨h2, by simpa using h1⟩
theorem lv_asc {s : LedV} {c amt : Int} {ws : List Int} (h : lvE s c amt ws = 0) : Asc (lvV s c amt ws) := by
  have hF := lv_facts h
  rw [lvV_eq h]
  exact List.Pairwise.sublist List.filter_sublist (bG_asc hF.who hF.len)
theorem who_inj {ws : List Int} (hw : whosOk ws = true) {i j : Nat} (hi : i < ws.length) (hj : j < ws.length) (h : ws.getD i 0 = ws.getD j 0) : i = j := by
  rcases Nat.lt_trichotomy i j with c | c | c
  · have := whos_lt hw c hj; omega
  · exact c
  · have := whos_lt hw c hi; omega
theorem lv_bnd {s : LedV} {c amt : Int} {ws : List Int} (hF : LvF s c amt ws) {i : Nat} (hi : i < ws.length) : 0 ≤ (splitV amt (shV c s.bal ws)).getD i 0 ∧ (splitV amt (shV c s.bal ws)).getD i 0 ≤ (shV c s.bal ws).getD i 0 ∧ (shV c s.bal ws).getD i 0 ≤ 4611686018427387904 := by
  have h1 := hF.w0 _ (getD_mem (p := shV c s.bal ws) (k := i) (by rw [shV_len]; exact hi))
  exact ⟨hF.p0 i, (hF.pw i).resolve_right (by omega), h1.2⟩
theorem br_eq {s : LedV} {c amt : Int} {ws : List Int} (h : lvE s c amt ws = 0) {i : Nat} (hi : i < ws.length) : brW (ws.getD i 0) (lvV s c amt ws) = (splitV amt (shV c s.bal ws)).getD i 0 := by
  have hF := lv_facts h
  have hb := lv_bnd hF hi
  have hn := ng_eq hb.1 (by omega)
  have uniq : ∀ y ∈ lvV s c amt ws, (y.ac.kind == 3 && y.ac.who == ws.getD i 0) = true → y = bLeg 3 c ws (splitV amt (shV c s.bal ws)) i := fun y hy hm => by
    simp only [Bool.and_eq_true, beq_iff_eq] at hm
    rcases ((lv_mem h).1 hy).2 with ⟨j, hj, rfl⟩ | rfl
    · rw [who_inj hF.who hj hi hm.2]
    · exact absurd hm.1 (by show (6 : Int) ≠ 3; decide)
  by_cases hz : (splitV amt (shV c s.bal ws)).getD i 0 = 0
  · rw [hz, brW, fold_none fun y hy => ?_]
    cases e : y.ac.kind == 3 && y.ac.who == ws.getD i 0 with
    | false => rfl
    | true =>
      have h1 := uniq y hy e
      have h2 := ((lv_mem h).1 hy).1
      rw [h1] at h2
      exact absurd (show ngW ((splitV amt (shV c s.bal ws)).getD i 0) = 0 by rw [hn, hz]; rfl) h2
  · have hm : bLeg 3 c ws (splitV amt (shV c s.bal ws)) i ∈ lvV s c amt ws := (lv_mem h).2 ⟨by show ngW _ ≠ 0; rw [hn]; omega, .inl ⟨i, hi, rfl⟩⟩
    rw [brW_one (lv_asc h) hm (by simp [bLeg, fAc]) fun y hy e => by rw [uniq y hy e]]
    show IntKind.wrap .i64 (0 - ngW _) = _
    rw [hn, wrapI (by omega) (by omega)]; omega
def brs (L : List LegV) (ws : List Int) : List Int := ws.map fun w => brW w L
theorem brs_snoc (L : List LegV) (ws : List Int) (w : Int) : brs L (ws ++ [w]) = brs L ws ++ [brW w L] := by simp [brs]
theorem brs_eq {s : LedV} {c amt : Int} {ws : List Int} (h : lvE s c amt ws = 0) : brs (lvV s c amt ws) ws = splitV amt (shV c s.bal ws) := by
  have hF := lv_facts h
  apply List.ext_getElem (by simp [brs, hF.len])
  intro i h1 h2
  have hi : i < ws.length := by simpa [brs] using h1
  have := br_eq h hi
  simp only [List.getD_eq_getElem?_getD, List.getElem?_eq_getElem hi, List.getElem?_eq_getElem h2, Option.getD_some] at this
  simp only [brs, List.getElem_map]; exact this
theorem wk21e : lvE ⟨0, [⟨⟨1, 0, 0⟩, -40⟩, ⟨⟨3, 1, 0⟩, 30⟩, ⟨⟨3, 2, 0⟩, 10⟩]⟩ 0 10 [1, 2, 3] = 0 := by
  have hg : Good ⟨0, [⟨⟨1, 0, 0⟩, -40⟩, ⟨⟨3, 1, 0⟩, 30⟩, ⟨⟨3, 2, 0⟩, 10⟩]⟩ := (ledOk_iff _).1 (by decide)
  have h1 : shE ⟨0, [⟨⟨1, 0, 0⟩, -40⟩, ⟨⟨3, 1, 0⟩, 30⟩, ⟨⟨3, 2, 0⟩, 10⟩]⟩ 0 [1, 2, 3] = 0 := by
    have hl := (ledE_iff _).2 hg
    simp only [shE, hl]
    decide
  exact lv_yes h1 (by decide) (by decide)
theorem wk21 : lvV ⟨0, [⟨⟨1, 0, 0⟩, -40⟩, ⟨⟨3, 1, 0⟩, 30⟩, ⟨⟨3, 2, 0⟩, 10⟩]⟩ 0 10 [1, 2, 3] = [⟨⟨3, 1, 0⟩, -8⟩, ⟨⟨3, 2, 0⟩, -2⟩, ⟨⟨6, 0, 0⟩, 10⟩] := by
  rw [lvV_eq wk21e]
  rfl
end Go.Proofs.Ytjkfadaedgidpaa
